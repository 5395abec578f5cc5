/- share's numbers, least, most. -/
import Derived.Test.YtjcmcoabckkjoaaDoorOJ
set_option linter.unusedSimpArgs false
set_option linter.unusedVariables false
namespace Go.Proofs.YtjcmcoabckkjoaaDoor.Or
open Go.Ev
set_option maxRecDepth 100000
set_option maxHeartbeats 400000
def nanV : Value := .func (.func 63) ⟨[]⟩ ⟨[]⟩
/-- those that are no numbers stand behind all others, from M on -/
structure NanFrom (f : Nat → Nat) (N M : Nat) : Prop where
  le : M ≤ N
  no : ∀ k, k < M → isNan (f k) = false
  is : ∀ k, M ≤ k → k < N → isNan (f k) = true
theorem NanFrom.of {f : Nat → Nat} : ∀ (N : Nat), SortedN f 0 N → Bits f N → ∃ M, NanFrom f N M
  | 0, _, _ => ⟨0, Nat.le_refl _, fun k h => by omega, fun k _ h => by omega⟩
  | N + 1, hs, hf => by
    obtain ⟨M, h1, h2, h3⟩ := NanFrom.of N (hs.sub (Nat.le_refl _) (by omega)) fun k hk => hf k (by omega)
    cases hb : isNan (f N) with
    | true => exact ⟨M, by omega, h2, fun k q1 q2 => by
        by_cases hk : k = N
        · rw [hk]; exact hb
        · exact h3 k q1 (by omega)⟩
    | false =>
      have hM : M = N := by
        rcases Nat.lt_or_ge M N with hlt | hge
        · exfalso
          have q := hs M N (Nat.zero_le _) hlt (by omega)
          rw [(keyN_nan (hf M (by omega))).2 (h3 M (Nat.le_refl _) hlt)] at q
          have q2 := keyN_lt (hf N (by omega))
          have q3 := (keyN_nan (hf N (by omega))).1 (by omega)
          rw [hb] at q3; cases q3
        · omega
      subst hM
      exact ⟨M + 1, Nat.le_refl _, fun k q => by
        by_cases hk : k = M
        · rw [hk]; exact hb
        · exact h2 k (by omega), fun k q1 q2 => by omega⟩
theorem index_ret {v : Value} {f : Nat → Nat} {N M : Nat} {h : Heap} {K : Value → Heap → Prop} (r : Rd h v f N) (hN : N ≤ 1000) (hf : Bits f N) (nf : NanFrom f N M) (hK : K (.int .i64 (if M < N then (M : Int) else -1)) h) : Ret env (.func 80) [v, nanV] h K := by
  refine F80 rfl ?_
  obtain ⟨a, c, rfl, q⟩ := id r
  unfold nanV
  repeat' (first | done | with_reducible (first | refine y1 ?_ (by omega) | refine y2 ?_ (by omega) | refine y3 (fun _ => ?_) (fun _ => ?_) | refine y4 ?_ (by omega) (by omega) | refine y5 ?_ (by omega) | refine y6 ?_ (by with_unfolding_all rfl) | refine y7 ?_ (by with_unfolding_all rfl) | refine y8 ?_ (by with_unfolding_all rfl) | refine y9 ?_ (by with_unfolding_all rfl) | refine ya ?_ (by with_unfolding_all rfl)) | ((with_reducible refine And.intro ?_ ?_); (· omega)) | (simp -dsimp only [↓cw_ops, ↓cw_seq, ↓cw_block, ↓seqK_normal, ↓getK_same, ↓getK_ne, ↓evK_tmp, ↓evK_int, ↓opsW_nil, ↓opsW_d, ↓opW_move, ↓opW_assign, ↓lenS_some, ↓setAll_cons, ↓setAll_nil, ↓len_25, ↓s80_16_w, ↓s80_17_w, ↓r80_18_w, ↓s80_19_w, ↓s80_20_w, ↓r80_21_w, ↓s80_22_w, ne_eq, Nat.reduceEqDiff, Nat.reduceAdd, not_false_eq_true, Nat.one_ne_zero]))
  refine cw_loopI (fun x fr' h' => h' = h ∧ ∃ k : Nat, k ≤ M ∧ x = N - k ∧ fr'.get 8 = some (.int .i64 (k : Nat))) N ?_ (by omega) ?_
  · exact ⟨rfl, 0, by omega, by omega, by simp [T.get_set]⟩
  rintro x fr1 h' ⟨rfl, k, hk, rfl, y8⟩ hag
  have g8 := getK_of y8
  have a0 := getK_eq (hag 0 rfl)
  have a1 := getK_eq (hag 1 rfl)
  have a7 := getK_eq (hag 7 rfl)
  have hMN := nf.le
  by_cases hlt : k < N
  · have c1 : (k : Int) < (N : Int) := by omega
    obtain ⟨i, rfl, hi, d1⟩ := q k hlt
    have z1 : 0 + k * 1 = k := zero_add_one _
    have w1 : IntKind.i64.wrap ((k : Int) + 1) = ((k + 1 : Nat) : Int) := by rw [wrap_i64 (by omega) (by omega)]; omega
    repeat' (first | done | with_reducible (first | refine y1 ?_ (by omega) | refine y2 ?_ (by omega) | refine y3 (fun _ => ?_) (fun _ => ?_) | refine y4 ?_ (by omega) (by omega) | refine y5 ?_ (by omega) | refine y6 ?_ (by with_unfolding_all rfl) | refine y7 ?_ (by with_unfolding_all rfl) | refine y8 ?_ (by with_unfolding_all rfl) | refine y9 ?_ (by with_unfolding_all rfl) | refine ya ?_ (by with_unfolding_all rfl)) | ((with_reducible refine And.intro ?_ ?_); (· omega)) | (simp -dsimp only [↓cw_skip, ↓cw_ops, ↓cw_seq, ↓cw_block, ↓cw_cond, ↓seqK_normal, ↓getK_same, ↓getK_ne, ↓evK_tmp, ↓condV_var, ↓opsW_nil, ↓opsW_d, ↓opW_move, ↓opW_assign, ↓opW_bin, ↓bin_lss, ↓ld1_some, ↓idxS_some, ↓evs_nil, ↓evs_cons, ↓opW_callV, ↓callV_some, ↓ia_25, ↓ld_27, ↓r80_7_w, ↓s80_8_w, ↓r80_9_w, ↓s80_10_w, ↓s80_11_w, ↓s80_12_w, ↓s80_13_w, ↓r80_14_w, ↓s80_15_w, onV_some', brK_true, and_true, ne_eq, Nat.reduceEqDiff, not_false_eq_true, Nat.one_ne_zero, Addr.add_lit, Int.toNat_natCast, ↓g8, ↓a0, ↓a1, ↓a7, c1, z1, d1, List.nil_append, List.append_nil]))
    refine isNaN_ret (hf k hlt) ?_
    by_cases hkM : k < M
    · rw [nf.no k hkM]
      repeat' (first | done | with_reducible (first | refine y1 ?_ (by omega) | refine y2 ?_ (by omega) | refine y3 (fun _ => ?_) (fun _ => ?_) | refine y4 ?_ (by omega) (by omega) | refine y5 ?_ (by omega) | refine y6 ?_ (by with_unfolding_all rfl) | refine y7 ?_ (by with_unfolding_all rfl) | refine y8 ?_ (by with_unfolding_all rfl) | refine y9 ?_ (by with_unfolding_all rfl) | refine ya ?_ (by with_unfolding_all rfl)) | ((with_reducible refine And.intro ?_ ?_); (· omega)) | (simp -dsimp only [↓cw_skip, ↓cw_ops, ↓cw_cond, ↓seqK_normal, ↓blockK_normal, ↓loopK_normal, ↓getK_same, ↓getK_ne, ↓evK_tmp, ↓evK_int, ↓condV_var, ↓opsW_nil, ↓opsW_d, ↓opW_move, ↓opW_bin, ↓bin_add, ↓r80_2_w, ↓s80_3_w, ↓s80_6_w, brK_false, true_and, ne_eq, Nat.reduceEqDiff, not_false_eq_true, Addr.add_lit, Int.toNat_natCast, Bool.false_eq_true,  ↓g8, w1]))
      exact ⟨N - (k + 1), by omega, k + 1, by omega, rfl, by simp [T.get_set]⟩
    · have e : k = M := by omega
      subst e
      rw [nf.is k (Nat.le_refl _) hlt]
      rw [if_pos hlt] at hK
      repeat' (first | done | with_reducible (first | refine y1 ?_ (by omega) | refine y2 ?_ (by omega) | refine y3 (fun _ => ?_) (fun _ => ?_) | refine y4 ?_ (by omega) (by omega) | refine y5 ?_ (by omega) | refine y6 ?_ (by with_unfolding_all rfl) | refine y7 ?_ (by with_unfolding_all rfl) | refine y8 ?_ (by with_unfolding_all rfl) | refine y9 ?_ (by with_unfolding_all rfl) | refine ya ?_ (by with_unfolding_all rfl)) | ((with_reducible refine And.intro ?_ ?_); (· omega)) | (simp -dsimp only [↓cw_ops, ↓cw_seq, ↓cw_ret, ↓cw_cond, ↓seqK_normal, ↓seqK_ret, ↓blockK_ret, ↓loopK_ret, ↓getK_same, ↓getK_ne, ↓evK_tmp, ↓condV_var, ↓opsW_nil, ↓opsW_d, ↓opW_move, ↓opW_assign, ↓resK_one, ↓r80_4_w, ↓s80_5_w, ↓s80_6_w, brK_true, ne_eq, Nat.reduceEqDiff, not_false_eq_true]))
      exact hK
  · have c1 : ¬ (k : Int) < (N : Int) := by omega
    rw [if_neg (by omega)] at hK
    repeat' (first | done | with_reducible (first | refine y1 ?_ (by omega) | refine y2 ?_ (by omega) | refine y3 (fun _ => ?_) (fun _ => ?_) | refine y4 ?_ (by omega) (by omega) | refine y5 ?_ (by omega) | refine y6 ?_ (by with_unfolding_all rfl) | refine y7 ?_ (by with_unfolding_all rfl) | refine y8 ?_ (by with_unfolding_all rfl) | refine y9 ?_ (by with_unfolding_all rfl) | refine ya ?_ (by with_unfolding_all rfl)) | ((with_reducible refine And.intro ?_ ?_); (· omega)) | (simp -dsimp only [↓cw_ops, ↓cw_seq, ↓cw_exit, ↓cw_ret, ↓cw_cond, ↓seqK_normal, ↓seqK_exit, ↓blockK_same, ↓loopK_exit, ↓getK_same, ↓getK_ne, ↓evK_tmp, ↓evK_int, ↓condV_var, ↓opsW_nil, ↓opsW_d, ↓opW_assign, ↓opW_bin, ↓bin_lss, ↓resK_one, ↓r80_0_w, ↓s80_1_w, ↓s80_12_w, ↓s80_13_w, ↓r80_14_w, ↓s80_15_w, brK_false, ne_eq, Nat.reduceEqDiff, not_false_eq_true, Bool.false_eq_true,  ↓g8, ↓a7, c1]))
    exact hK
def zf (f : Nat → Nat) (M : Nat) : Nat → Nat := fun k => if k < M then f k else 0
theorem rep_zero1 : ∀ n : Nat, rep n [Value.float .f64 0] = List.replicate n (Value.float .f64 0)
  | 0 => rfl
  | n + 1 => by rw [rep, rep_zero1 n]; rfl
theorem rowL_clear {f : Nat → Nat} {N M : Nat} (h : M ≤ N) : over (rowL f N) M (rep (N - M) [Value.float .f64 0]) = some (rowL (zf f M) N) := by
  have h3 := over_mid (rep (N - M) [Value.float .f64 0]) ((rowL f N).take M) ((rowL f N).drop M) [] (by rw [rep_zero1]; simp [rowL_len])
  rw [List.append_nil, List.append_nil, List.take_append_drop, List.length_take, rowL_len, Nat.min_eq_left h] at h3
  rw [h3]
  congr 1
  apply List.ext_getElem?
  intro k
  have hl : ((rowL f N).take M).length = M := by rw [List.length_take, rowL_len]; omega
  by_cases k1 : k < M
  · rw [List.getElem?_append_left (by omega), List.getElem?_take_of_lt k1, rowL_get (by omega), rowL_get (by omega)]
    unfold zf; rw [if_pos k1]
  · rw [List.getElem?_append_right (by omega), hl, rep_zero1]
    by_cases k2 : k < N
    · rw [List.getElem?_replicate, if_pos (by omega), rowL_get k2]; unfold zf; rw [if_neg k1]
    · rw [List.getElem?_replicate, if_neg (by omega), List.getElem?_eq_none (by rw [rowL_len]; omega)]
theorem clear_row {i M N c : Nat} {f : Nat → Nat} {h : Heap} {K : Value → Heap → Prop} (hi : i < h.n) (hg : h.b.get i = some (.cells (rowL f N) 27 false)) (hM : M < N) (q : ∀ h', Up h h' i (zf f M) N → K (.tuple #[]) h') :
    clrK env 25 (.slice (some ⟨i, M, none⟩) (N - M) c) h K := by
  have hall : (!Nat.beq ([Value.float .f64 0] : List Value).length 0 && (rep (N - M) [Value.float .f64 0]).all oneCell) = true := by
    rw [rep_zero1]
    simp [oneCell, Nat.beq]
  have hne : rep (N - M) [Value.float .f64 0] ≠ [] := by
    rw [rep_zero1]
    intro e
    have := congrArg List.length e
    simp at this; omega
  have hw : writeCells h ⟨i, M, none⟩ (rep (N - M) [Value.float .f64 0]) = some { h with b := h.b.set i (.cells (rowL (zf f M) N) 27 false) } := by
    unfold writeCells
    cases hr : rep (N - M) [Value.float .f64 0] with
    | nil => exact absurd hr hne
    | cons x l => simp only [hg]; rw [← hr, rowL_clear (by omega)]; rfl
  have e : aclear env [25] [.slice (some ⟨i, M, none⟩) (N - M) c] h = some (.tuple #[], { h with b := h.b.set i (.cells (rowL (zf f M) N) 27 false) }) := by
    simp only [aclear, und25, zero27]
    rw [show (Value.float .f64 0).cells.toList = [Value.float .f64 0] from rfl, hall, hw]
    rfl
  simp only [clrK, e]
  exact q _ ⟨rfl, hi, by simp [T.get_set], fun j hj => by rw [T.get_set_ne _ _ (Ne.symm hj)]⟩
end Go.Proofs.YtjcmcoabckkjoaaDoor.Or

namespace Go.Proofs.YtjcmcoabckkjoaaDoor.Or
open Go.Ev
set_option maxRecDepth 100000
set_option maxHeartbeats 400000
theorem slice_from0 {E : Env} {t : TypeId} {sz : Nat} {a : Option Addr} {n : Nat} {k : IntKind} {j : Int} {K : Value → Prop} (hs : slzOf E t = some sz) (hz : sz ≠ 0) (hj : j = 0)
    (q : K (.slice a n UNK)) : sliceVK E t (.slice a n UNK) (some (.int k j)) none none K := by
  subst hj
  unfold slzOf at hs
  split at hs
  · rename_i e hu
    have f1 : Nat.beq UNK UNK2 = false := rfl
    have f2 : Nat.beq UNK UNK = true := Nat.beq_refl _
    have hb : bound (.int k 0) n = some 0 := bnd_of (p := 0) (Nat.zero_le n)
    have hab : abounds n n (some (.int k 0)) none none = some (0, n, n) := by
      simp only [abounds, aboundsM, aboundsL, hb]
    obtain ⟨s, rfl⟩ := Nat.exists_eq_succ_of_ne_zero hz
    have h0 : Nat.beq 0 0 = true := rfl
    simp only [sliceVK, asliceS, hu, f1, f2, cond_false, cond_true, hab, hs, h0, onV_some']
    exact q
  · cases hs
theorem zf_le {f : Nat → Nat} {M k : Nat} (h : k < M) : zf f M k = f k := by unfold zf; rw [if_pos h]
theorem delete_ret {v : Value} {f : Nat → Nat} {N M B : Nat} {h : Heap} {K : Value → Heap → Prop} (o : OwnS B h 27 v N (rowL f N)) (hN : N ≤ 1000) (hf : Bits f N) (nf : NanFrom f N M)
    (hK : ∀ v' h', Rd h' v' f M → ExtB B h h' → K v' h') : Ret env (.func 62) [v, nanV] h K := by
  refine F62 rfl ?_
  have hMN := nf.le
  have r := rd_own o
  by_cases hlt : M < N
  · generalize hc : rowL f N = cs at o
    cases o with
    | nil => omega
    | emp i hi => omega
    | row i n cs h1 h2 h3 =>
      rw [← hc] at h3
      have w1 : IntKind.i64.wrap ((M : Int) + 1) = ((M + 1 : Nat) : Int) := by rw [wrap_i64 (by omega) (by omega)]; omega
      unfold nanV
      repeat' (first | done | with_reducible (first | refine y1 ?_ (by omega) | refine y2 ?_ (by omega) | refine y3 (fun _ => ?_) (fun _ => ?_) | refine y4 ?_ (by omega) (by omega) | refine y5 ?_ (by omega) | refine y6 ?_ (by with_unfolding_all rfl) | refine y7 ?_ (by with_unfolding_all rfl) | refine y8 ?_ (by with_unfolding_all rfl) | refine y9 ?_ (by with_unfolding_all rfl) | refine ya ?_ (by with_unfolding_all rfl)) | ((with_reducible refine And.intro ?_ ?_); (· omega)) | (simp -dsimp only [↓cw_ops, ↓cw_seq, ↓seqK_normal, ↓getK_same, ↓getK_ne, ↓evK_tmp, ↓evK_nilslice, ↓opsW_nil, ↓opsW_d, ↓opW_move, ↓opW_assign, ↓evs_nil, ↓evs_cons, ↓opW_call, ↓setAll_cons, ↓setAll_nil, ↓r62_31_w, ↓s62_32_w, ↓r62_33_w, ↓s62_34_w, ne_eq, Nat.reduceEqDiff, Nat.reduceAdd, not_false_eq_true, Nat.one_ne_zero]))
      refine index_ret r hN hf nf ?_
      rw [if_pos hlt]
      have c0 : ¬ (M : Int) = -1 := by omega
      repeat' (first | done | with_reducible (first | refine y1 ?_ (by omega) | refine y2 ?_ (by omega) | refine y3 (fun _ => ?_) (fun _ => ?_) | refine y4 ?_ (by omega) (by omega) | refine y5 ?_ (by omega) | refine y6 ?_ (by with_unfolding_all rfl) | refine y7 ?_ (by with_unfolding_all rfl) | refine y8 ?_ (by with_unfolding_all rfl) | refine y9 ?_ (by with_unfolding_all rfl) | refine ya ?_ (by with_unfolding_all rfl)) | ((with_reducible refine And.intro ?_ ?_); (· omega)) | (simp -dsimp only [↓cw_skip, ↓cw_ops, ↓cw_seq, ↓cw_block, ↓cw_cond, ↓seqK_normal, ↓getK_same, ↓getK_ne, ↓evK_tmp, ↓evK_int, ↓condV_var, ↓opsW_nil, ↓opsW_d, ↓opW_move, ↓opW_assign, ↓opW_bin, ↓bin_add, ↓bin_eql, ↓setAll_cons, ↓setAll_nil, ↓s62_20_w, ↓s62_21_w, ↓r62_22_w, ↓s62_23_w, ↓s62_24_w, ↓s62_27_w, ↓r62_28_w, ↓s62_29_w, ↓s62_30_w, brK_false, ne_eq, Nat.reduceEqDiff, Nat.reduceAdd, not_false_eq_true, Bool.false_eq_true,  c0, w1]))
      refine cw_loopI (fun x fr' h' => h' = h ∧ ∃ k : Nat, M + 1 ≤ k ∧ k ≤ N ∧ x = N - k ∧ fr'.get 5 = some (.int .i64 (M : Nat)) ∧ fr'.get 6 = some (.int .i64 (k : Nat))) (N - (M + 1)) ?_ (by omega) ?_
      · exact ⟨rfl, M + 1, by omega, by omega, rfl, by simp [T.get_set], by simp [T.get_set]⟩
      rintro x fr1 h' ⟨rfl, k, hk1, hk2, rfl, y5, y6⟩ hag
      have g5 := getK_of y5
      have g6 := getK_of y6
      have z0 := hag 0 rfl
      have a0 := getK_eq (hag 0 rfl)
      have a1 := getK_eq (hag 1 rfl)
      by_cases hkN : k < N
      · have c1 : (k : Int) < (N : Int) := by omega
        have d1 := cellAt_blk h2 h3 (rowL_get (f := f) (N := N) (k := k) hkN)
        have z1 : 0 + k * 1 = k := zero_add_one _
        have w2 : IntKind.i64.wrap ((k : Int) + 1) = ((k + 1 : Nat) : Int) := by rw [wrap_i64 (by omega) (by omega)]; omega
        repeat' (first | done | with_reducible (first | refine y1 ?_ (by omega) | refine y2 ?_ (by omega) | refine y3 (fun _ => ?_) (fun _ => ?_) | refine y4 ?_ (by omega) (by omega) | refine y5 ?_ (by omega) | refine y6 ?_ (by with_unfolding_all rfl) | refine y7 ?_ (by with_unfolding_all rfl) | refine y8 ?_ (by with_unfolding_all rfl) | refine y9 ?_ (by with_unfolding_all rfl) | refine ya ?_ (by with_unfolding_all rfl)) | ((with_reducible refine And.intro ?_ ?_); (· omega)) | (simp -dsimp only [↓cw_skip, ↓cw_ops, ↓cw_seq, ↓cw_block, ↓cw_cond, ↓seqK_normal, ↓getK_same, ↓getK_ne, ↓evK_tmp, ↓condV_var, ↓opsW_nil, ↓opsW_d, ↓opW_move, ↓opW_assign, ↓opW_bin, ↓bin_lss, ↓ld1_some, ↓idxS_some, ↓evs_nil, ↓evs_cons, ↓opW_callV, ↓lenS_some, ↓callV_some, ↓len_25, ↓ia_25, ↓ld_27, ↓r62_11_w, ↓s62_12_w, ↓r62_13_w, ↓s62_14_w, ↓s62_15_w, ↓s62_16_w, ↓r62_17_w, ↓s62_18_w, ↓s62_19_w, onV_some', brK_true, and_true, ne_eq, Nat.reduceEqDiff, not_false_eq_true, Nat.one_ne_zero, Addr.add_lit, Int.toNat_natCast, ↓g6, ↓a0, ↓a1, c1, z1, d1, List.nil_append, List.append_nil]))
        refine isNaN_ret (hf k hkN) ?_
        rw [nf.is k (by omega) hkN]
        repeat' (first | done | with_reducible (first | refine y1 ?_ (by omega) | refine y2 ?_ (by omega) | refine y3 (fun _ => ?_) (fun _ => ?_) | refine y4 ?_ (by omega) (by omega) | refine y5 ?_ (by omega) | refine y6 ?_ (by with_unfolding_all rfl) | refine y7 ?_ (by with_unfolding_all rfl) | refine y8 ?_ (by with_unfolding_all rfl) | refine y9 ?_ (by with_unfolding_all rfl) | refine ya ?_ (by with_unfolding_all rfl)) | ((with_reducible refine And.intro ?_ ?_); (· omega)) | (simp -dsimp only [↓cw_skip, ↓cw_ops, ↓cw_cond, ↓seqK_normal, ↓blockK_normal, ↓loopK_normal, ↓getK_same, ↓getK_ne, ↓evK_tmp, ↓evK_int, ↓condV_var, ↓opsW_nil, ↓opsW_d, ↓opW_move, ↓opW_assign, ↓opW_bin, ↓bin_add, ↓opW_un, ↓un_not, ↓r62_4_w, ↓s62_5_w, ↓s62_10_w, brK_false, true_and, ne_eq, Nat.reduceEqDiff, not_false_eq_true, Addr.add_lit, Int.toNat_natCast, Bool.false_eq_true,  ↓g6, Bool.not_true, w2]))
        refine ⟨N - (k + 1), by omega, k + 1, by omega, by omega, rfl, ?_, by simp [T.get_set]⟩
        simp only [T.get_set]; simpa using y5
      · have c1 : ¬ (k : Int) < (N : Int) := by omega
        repeat' (first | done | with_reducible (first | refine y1 ?_ (by omega) | refine y2 ?_ (by omega) | refine y3 (fun _ => ?_) (fun _ => ?_) | refine y4 ?_ (by omega) (by omega) | refine y5 ?_ (by omega) | refine y6 ?_ (by with_unfolding_all rfl) | refine y7 ?_ (by with_unfolding_all rfl) | refine y8 ?_ (by with_unfolding_all rfl) | refine y9 ?_ (by with_unfolding_all rfl) | refine ya ?_ (by with_unfolding_all rfl)) | ((with_reducible refine And.intro ?_ ?_); (· omega)) | (simp -dsimp only [↓cw_ops, ↓cw_seq, ↓cw_exit, ↓cw_cond, ↓seqK_normal, ↓seqK_exit, ↓blockK_same, ↓loopK_exit, ↓getK_same, ↓getK_ne, ↓evK_tmp, ↓condV_var, ↓opsW_nil, ↓opsW_d, ↓opW_move, ↓opW_bin, ↓bin_lss, ↓lenS_some, ↓len_25, ↓s62_16_w, ↓r62_17_w, ↓s62_18_w, ↓s62_19_w, brK_false, ne_eq, Nat.reduceEqDiff, not_false_eq_true, Nat.one_ne_zero, Bool.false_eq_true,  ↓g6, ↓a0, c1]))
        -- the cells behind are made noughts
        have fin : ∀ (fr' : Fr) h2, Up h' h2 i (zf f M) N → fr'.get 0 = some (.slice (some ⟨i, 0, none⟩) N UNK) → fr'.get 5 = some (.int .i64 (M : Nat)) → s62_1.wp env 42 none fr' h2 (resK env [.tmp 4] K) := by
          intro fr' h5 u e0 e5
          have j0 := getK_of e0
          have j5 := getK_of e5
          repeat' (first | done | with_reducible (first | refine y1 ?_ (by omega) | refine y2 ?_ (by omega) | refine y3 (fun _ => ?_) (fun _ => ?_) | refine y4 ?_ (by omega) (by omega) | refine y5 ?_ (by omega) | refine y6 ?_ (by with_unfolding_all rfl) | refine y7 ?_ (by with_unfolding_all rfl) | refine y8 ?_ (by with_unfolding_all rfl) | refine y9 ?_ (by with_unfolding_all rfl) | refine ya ?_ (by with_unfolding_all rfl)) | ((with_reducible refine And.intro ?_ ?_); (· omega)) | (simp -dsimp only [↓cw_ops, ↓cw_seq, ↓getK_same, ↓getK_ne, ↓evK_tmp, ↓opsW_d, ↓opW_move, ↓opW_slice, ↓evo_none, ↓evo_some, ↓r62_0_w, ↓s62_1_w, ne_eq, Nat.reduceEqDiff, not_false_eq_true, ↓j0, ↓j5]))
          refine slice_to slz_25 (by decide) (by omega) (by omega) ?_
          repeat' (first | done | with_reducible (first | refine y1 ?_ (by omega) | refine y2 ?_ (by omega) | refine y3 (fun _ => ?_) (fun _ => ?_) | refine y4 ?_ (by omega) (by omega) | refine y5 ?_ (by omega) | refine y6 ?_ (by with_unfolding_all rfl) | refine y7 ?_ (by with_unfolding_all rfl) | refine y8 ?_ (by with_unfolding_all rfl) | refine y9 ?_ (by with_unfolding_all rfl) | refine ya ?_ (by with_unfolding_all rfl)) | ((with_reducible refine And.intro ?_ ?_); (· omega)) | (simp -dsimp only [↓cw_ret, ↓seqK_normal, ↓getK_same, ↓evK_tmp, ↓opsW_nil, ↓opsW_d, ↓opW_assign, ↓resK_one, Int.toNat_natCast]))
          refine hK _ h5 ⟨_, _, rfl, fun k hk => ⟨i, rfl, u.lt', ?_⟩⟩ ⟨by rw [u.n]; exact Nat.le_refl _, fun j hj => u.o j (by omega)⟩
          have := u.cell (k := k) (by omega)
          rwa [zf_le hk] at this
        have z0' : fr1.get 0 = some (.slice (some ⟨i, 0, none⟩) N UNK) := z0.trans (by simp [T.get_set])
        by_cases h0 : M = 0
        · repeat' (first | done | with_reducible (first | refine y1 ?_ (by omega) | refine y2 ?_ (by omega) | refine y3 (fun _ => ?_) (fun _ => ?_) | refine y4 ?_ (by omega) (by omega) | refine y5 ?_ (by omega) | refine y6 ?_ (by with_unfolding_all rfl) | refine y7 ?_ (by with_unfolding_all rfl) | refine y8 ?_ (by with_unfolding_all rfl) | refine y9 ?_ (by with_unfolding_all rfl) | refine ya ?_ (by with_unfolding_all rfl)) | ((with_reducible refine And.intro ?_ ?_); (· omega)) | (simp -dsimp only [↓cw_ops, ↓cw_seq, ↓getK_same, ↓getK_ne, ↓evK_tmp, ↓opsW_d, ↓opW_move, ↓opW_slice, ↓evo_none, ↓evo_some, ↓r62_2_w, ↓s62_3_w, ne_eq, Nat.reduceEqDiff, not_false_eq_true, Nat.one_ne_zero, ↓g5, ↓a0]))
          refine slice_from0 slz_25 (by decide) (by omega) ?_
          repeat' (first | done | with_reducible (first | refine y1 ?_ (by omega) | refine y2 ?_ (by omega) | refine y3 (fun _ => ?_) (fun _ => ?_) | refine y4 ?_ (by omega) (by omega) | refine y5 ?_ (by omega) | refine y6 ?_ (by with_unfolding_all rfl) | refine y7 ?_ (by with_unfolding_all rfl) | refine y8 ?_ (by with_unfolding_all rfl) | refine y9 ?_ (by with_unfolding_all rfl) | refine ya ?_ (by with_unfolding_all rfl)) | ((with_reducible refine And.intro ?_ ?_); (· omega)) | (simp -dsimp only [↓getK_same, ↓evK_tmp, ↓opsW_n, ↓opW_clear]))
          refine clear_row (i := i) (M := M) (N := N) (c := UNK) (f := f) (h := h') h2 h3 hlt ?_ |> fun q => by rw [h0] at q; exact q
          intro h5 u
          have n5 := u.n
          repeat' (first | done | with_reducible (first | refine y1 ?_ (by omega) | refine y2 ?_ (by omega) | refine y3 (fun _ => ?_) (fun _ => ?_) | refine y4 ?_ (by omega) (by omega) | refine y5 ?_ (by omega) | refine y6 ?_ (by with_unfolding_all rfl) | refine y7 ?_ (by with_unfolding_all rfl) | refine y8 ?_ (by with_unfolding_all rfl) | refine y9 ?_ (by with_unfolding_all rfl) | refine ya ?_ (by with_unfolding_all rfl)) | ((with_reducible refine And.intro ?_ ?_); (· omega)) | (simp -dsimp only [↓seqK_normal, ↓opsW_nil]))
          refine fin _ h5 u ?_ ?_
          · simp only [T.get_set]; simpa using z0'
          · simp only [T.get_set]; simpa using y5
        · repeat' (first | done | with_reducible (first | refine y1 ?_ (by omega) | refine y2 ?_ (by omega) | refine y3 (fun _ => ?_) (fun _ => ?_) | refine y4 ?_ (by omega) (by omega) | refine y5 ?_ (by omega) | refine y6 ?_ (by with_unfolding_all rfl) | refine y7 ?_ (by with_unfolding_all rfl) | refine y8 ?_ (by with_unfolding_all rfl) | refine y9 ?_ (by with_unfolding_all rfl) | refine ya ?_ (by with_unfolding_all rfl)) | ((with_reducible refine And.intro ?_ ?_); (· omega)) | (simp -dsimp only [↓cw_ops, ↓cw_seq, ↓getK_same, ↓getK_ne, ↓evK_tmp, ↓opsW_d, ↓opW_move, ↓opW_slice, ↓evo_none, ↓evo_some, ↓r62_2_w, ↓s62_3_w, ne_eq, Nat.reduceEqDiff, not_false_eq_true, Nat.one_ne_zero, ↓g5, ↓a0]))
          refine slice_fromU slz_25 (by decide) rfl (by omega) (by omega) fun v hv => ?_
          rcases hv with ⟨_, rfl⟩ | ⟨e, _⟩
          · have ea : (some (⟨i, 0, none⟩ : Addr)).map (·.add (M * 1)) = some ⟨i, M, none⟩ := by
              rw [Option.map_some, Addr.add_lit, zero_add_one]
            rw [ea]
            repeat' (first | done | with_reducible (first | refine y1 ?_ (by omega) | refine y2 ?_ (by omega) | refine y3 (fun _ => ?_) (fun _ => ?_) | refine y4 ?_ (by omega) (by omega) | refine y5 ?_ (by omega) | refine y6 ?_ (by with_unfolding_all rfl) | refine y7 ?_ (by with_unfolding_all rfl) | refine y8 ?_ (by with_unfolding_all rfl) | refine y9 ?_ (by with_unfolding_all rfl) | refine ya ?_ (by with_unfolding_all rfl)) | ((with_reducible refine And.intro ?_ ?_); (· omega)) | (simp -dsimp only [↓getK_same, ↓evK_tmp, ↓opsW_n, ↓opW_clear]))
            refine clear_row h2 h3 hlt ?_
            intro h5 u
            have n5 := u.n
            repeat' (first | done | with_reducible (first | refine y1 ?_ (by omega) | refine y2 ?_ (by omega) | refine y3 (fun _ => ?_) (fun _ => ?_) | refine y4 ?_ (by omega) (by omega) | refine y5 ?_ (by omega) | refine y6 ?_ (by with_unfolding_all rfl) | refine y7 ?_ (by with_unfolding_all rfl) | refine y8 ?_ (by with_unfolding_all rfl) | refine y9 ?_ (by with_unfolding_all rfl) | refine ya ?_ (by with_unfolding_all rfl)) | ((with_reducible refine And.intro ?_ ?_); (· omega)) | (simp -dsimp only [↓seqK_normal, ↓opsW_nil]))
            refine fin _ h5 u ?_ ?_
            · simp only [T.get_set]; simpa using z0'
            · simp only [T.get_set]; simpa using y5
          · omega
  · have e : M = N := by omega
    subst e
    unfold nanV
    repeat' (first | done | with_reducible (first | refine y1 ?_ (by omega) | refine y2 ?_ (by omega) | refine y3 (fun _ => ?_) (fun _ => ?_) | refine y4 ?_ (by omega) (by omega) | refine y5 ?_ (by omega) | refine y6 ?_ (by with_unfolding_all rfl) | refine y7 ?_ (by with_unfolding_all rfl) | refine y8 ?_ (by with_unfolding_all rfl) | refine y9 ?_ (by with_unfolding_all rfl) | refine ya ?_ (by with_unfolding_all rfl)) | ((with_reducible refine And.intro ?_ ?_); (· omega)) | (simp -dsimp only [↓cw_ops, ↓cw_seq, ↓seqK_normal, ↓getK_same, ↓getK_ne, ↓evK_tmp, ↓evK_nilslice, ↓opsW_nil, ↓opsW_d, ↓opW_move, ↓opW_assign, ↓evs_nil, ↓evs_cons, ↓opW_call, ↓setAll_cons, ↓setAll_nil, ↓r62_31_w, ↓s62_32_w, ↓r62_33_w, ↓s62_34_w, ne_eq, Nat.reduceEqDiff, Nat.reduceAdd, not_false_eq_true, Nat.one_ne_zero]))
    refine index_ret r hN hf nf ?_
    rw [if_neg hlt]
    repeat' (first | done | with_reducible (first | refine y1 ?_ (by omega) | refine y2 ?_ (by omega) | refine y3 (fun _ => ?_) (fun _ => ?_) | refine y4 ?_ (by omega) (by omega) | refine y5 ?_ (by omega) | refine y6 ?_ (by with_unfolding_all rfl) | refine y7 ?_ (by with_unfolding_all rfl) | refine y8 ?_ (by with_unfolding_all rfl) | refine y9 ?_ (by with_unfolding_all rfl) | refine ya ?_ (by with_unfolding_all rfl)) | ((with_reducible refine And.intro ?_ ?_); (· omega)) | (simp -dsimp only [↓cw_ops, ↓cw_seq, ↓cw_ret, ↓cw_cond, ↓seqK_normal, ↓seqK_ret, ↓getK_same, ↓getK_ne, ↓evK_tmp, ↓evK_int, ↓condV_var, ↓opsW_nil, ↓opsW_d, ↓opW_move, ↓opW_assign, ↓opW_bin, ↓bin_eql, ↓resK_one, ↓setAll_cons, ↓setAll_nil, ↓r62_25_w, ↓s62_26_w, ↓s62_27_w, ↓r62_28_w, ↓s62_29_w, ↓s62_30_w, brK_true, ne_eq, Nat.reduceEqDiff, Nat.reduceAdd, not_false_eq_true, Nat.one_ne_zero]))
    exact hK v h r (ExtB.refl _ _)
/-- those that are numbers, in order -/
theorem numbers_ret {v : Value} {f : Nat → Nat} {N : Nat} {h : Heap} {K : Value → Heap → Prop} (r : Rd h v f N) (hN : N ≤ 1000) (hf : Bits f N)
    (hK : ∀ g M v' h', Rd h' v' g M → ExtB h.n h h' → Sw 0 N f g → SortedN g 0 N → NanFrom g N M → K v' h') : Ret env (.func 42) [v] h K := by
  refine F42 rfl ?_
  repeat' (first | done | with_reducible (first | refine y1 ?_ (by omega) | refine y2 ?_ (by omega) | refine y3 (fun _ => ?_) (fun _ => ?_) | refine y4 ?_ (by omega) (by omega) | refine y5 ?_ (by omega) | refine y6 ?_ (by with_unfolding_all rfl) | refine y7 ?_ (by with_unfolding_all rfl) | refine y8 ?_ (by with_unfolding_all rfl) | refine y9 ?_ (by with_unfolding_all rfl) | refine ya ?_ (by with_unfolding_all rfl)) | ((with_reducible refine And.intro ?_ ?_); (· omega)) | (simp -dsimp only [↓cw_ops, ↓cw_seq, ↓seqK_normal, ↓getK_same, ↓getK_ne, ↓evK_tmp, ↓evK_nilslice, ↓opsW_nil, ↓opsW_d, ↓opW_move, ↓opW_assign, ↓evs_nil, ↓evs_cons, ↓opW_call, ↓setAll_cons, ↓setAll_nil, ↓r42_0_w, ↓s42_1_w, ↓r42_2_w, ↓s42_3_w, ne_eq, Nat.reduceEqDiff, not_false_eq_true]))
  refine sort_ret r hN hf fun g v' h1 o X1 s so => ?_
  have n1 := X1.n
  have gb := hf.sw s (Nat.le_refl N)
  obtain ⟨M, nf⟩ := NanFrom.of N so gb
  repeat' (first | done | with_reducible (first | refine y1 ?_ (by omega) | refine y2 ?_ (by omega) | refine y3 (fun _ => ?_) (fun _ => ?_) | refine y4 ?_ (by omega) (by omega) | refine y5 ?_ (by omega) | refine y6 ?_ (by with_unfolding_all rfl) | refine y7 ?_ (by with_unfolding_all rfl) | refine y8 ?_ (by with_unfolding_all rfl) | refine y9 ?_ (by with_unfolding_all rfl) | refine ya ?_ (by with_unfolding_all rfl)) | ((with_reducible refine And.intro ?_ ?_); (· omega)) | (simp -dsimp only [↓getK_same, ↓evK_tmp, ↓evK_func, ↓opsW_d, ↓evs_nil, ↓evs_cons, ↓opW_call]))
  refine delete_ret (B := h.n) o hN gb nf fun v2 h2 r2 X2 => ?_
  have n2 := X2.n
  repeat' (first | done | with_reducible (first | refine y1 ?_ (by omega) | refine y2 ?_ (by omega) | refine y3 (fun _ => ?_) (fun _ => ?_) | refine y4 ?_ (by omega) (by omega) | refine y5 ?_ (by omega) | refine y6 ?_ (by with_unfolding_all rfl) | refine y7 ?_ (by with_unfolding_all rfl) | refine y8 ?_ (by with_unfolding_all rfl) | refine y9 ?_ (by with_unfolding_all rfl) | refine ya ?_ (by with_unfolding_all rfl)) | ((with_reducible refine And.intro ?_ ?_); (· omega)) | (simp -dsimp only [↓cw_ret, ↓seqK_normal, ↓getK_same, ↓evK_tmp, ↓opsW_nil, ↓opsW_d, ↓opW_assign, ↓resK_one]))
  exact hK g M v2 h2 r2 (X1.trans X2) s so nf
end Go.Proofs.YtjcmcoabckkjoaaDoor.Or

namespace Go.Proofs.YtjcmcoabckkjoaaDoor.Or
open Go.Ev
set_option maxRecDepth 100000
set_option maxHeartbeats 400000
theorem at_ret {v : Value} {f : Nat → Nat} {N : Nat} {i : Int} {h : Heap} {K : Value → Heap → Prop} (r : Rd h v f N) (hi : -1000 ≤ i ∧ i ≤ 1000) (hK : K (.tuple #[.float .f64 (if 0 ≤ i ∧ i < (N : Int) then f i.toNat else 0), .bool (decide (0 ≤ i ∧ i < (N : Int)))]) h) : Ret env (.func 41) [v, .int .i64 i] h K := by
  refine F41 rfl ?_
  obtain ⟨a, c, rfl, q⟩ := r
  by_cases h0 : i < 0
  · rw [if_neg (by omega), decide_eq_false (by omega)] at hK
    repeat' (first | done | with_reducible (first | refine y1 ?_ (by omega) | refine y2 ?_ (by omega) | refine y3 (fun _ => ?_) (fun _ => ?_) | refine y4 ?_ (by omega) (by omega) | refine y5 ?_ (by omega) | refine y6 ?_ (by with_unfolding_all rfl) | refine y7 ?_ (by with_unfolding_all rfl) | refine y8 ?_ (by with_unfolding_all rfl) | refine y9 ?_ (by with_unfolding_all rfl) | refine ya ?_ (by with_unfolding_all rfl)) | ((with_reducible refine And.intro ?_ ?_); (· omega)) | (simp -dsimp only [↓cw_ops, ↓cw_seq, ↓cw_ret, ↓cw_cond, ↓seqK_normal, ↓seqK_ret, ↓getK_same, ↓getK_ne, ↓evK_tmp, ↓evK_int, ↓evK_bool, ↓evK_float, ↓condV_var, ↓gdV_var, ↓opsW_nil, ↓opsW_d, ↓opsW_gd, ↓opW_move, ↓opW_assign, ↓opW_pick, ↓opW_bin, ↓bin_lss, ↓resK_two, ↓setAll_cons, ↓setAll_nil, ↓r41_2_w, ↓s41_3_w, ↓s41_4_w, ↓r41_5_w, ↓s41_6_w, ↓s41_7_w, ↓r41_8_w, ↓s41_9_w, brK_true, brK_false, ne_eq, Nat.reduceEqDiff, Nat.reduceAdd, not_false_eq_true, Bool.true_eq_false, h0]))
    exact hK
  · by_cases h1 : (N : Int) ≤ i
    · rw [if_neg (by omega), decide_eq_false (by omega)] at hK
      repeat' (first | done | with_reducible (first | refine y1 ?_ (by omega) | refine y2 ?_ (by omega) | refine y3 (fun _ => ?_) (fun _ => ?_) | refine y4 ?_ (by omega) (by omega) | refine y5 ?_ (by omega) | refine y6 ?_ (by with_unfolding_all rfl) | refine y7 ?_ (by with_unfolding_all rfl) | refine y8 ?_ (by with_unfolding_all rfl) | refine y9 ?_ (by with_unfolding_all rfl) | refine ya ?_ (by with_unfolding_all rfl)) | ((with_reducible refine And.intro ?_ ?_); (· omega)) | (simp -dsimp only [↓cw_ops, ↓cw_seq, ↓cw_ret, ↓cw_cond, ↓seqK_normal, ↓seqK_ret, ↓getK_same, ↓getK_ne, ↓evK_tmp, ↓evK_int, ↓evK_bool, ↓evK_float, ↓condV_var, ↓gdV_var, ↓opsW_nil, ↓opsW_d, ↓opsW_gd, ↓opW_move, ↓opW_assign, ↓opW_pick, ↓opW_bin, ↓bin_lss, ↓bin_geq, ↓lenS_some, ↓resK_two, ↓setAll_cons, ↓setAll_nil, ↓len_25, ↓r41_2_w, ↓s41_3_w, ↓s41_4_w, ↓r41_5_w, ↓s41_6_w, ↓s41_7_w, ↓r41_8_w, ↓s41_9_w, brK_true, brK_false, ne_eq, Nat.reduceEqDiff, Nat.reduceAdd, not_false_eq_true, Nat.one_ne_zero, Bool.false_eq_true,  h0, h1]))
      exact hK
    · rw [if_pos (by omega), decide_eq_true (by omega)] at hK
      obtain ⟨k, rfl⟩ := Int.eq_ofNat_of_zero_le (show 0 ≤ i by omega)
      obtain ⟨j, rfl, hj, d1⟩ := q k (by omega)
      have z1 : 0 + k * 1 = k := zero_add_one _
      have h0 : ¬ (k : Int) < 0 := by omega
      have h1 : ¬ (N : Int) ≤ (k : Int) := by omega
      rw [Int.toNat_natCast] at hK
      repeat' (first | done | with_reducible (first | refine y1 ?_ (by omega) | refine y2 ?_ (by omega) | refine y3 (fun _ => ?_) (fun _ => ?_) | refine y4 ?_ (by omega) (by omega) | refine y5 ?_ (by omega) | refine y6 ?_ (by with_unfolding_all rfl) | refine y7 ?_ (by with_unfolding_all rfl) | refine y8 ?_ (by with_unfolding_all rfl) | refine y9 ?_ (by with_unfolding_all rfl) | refine ya ?_ (by with_unfolding_all rfl)) | ((with_reducible refine And.intro ?_ ?_); (· omega)) | (simp -dsimp only [↓cw_skip, ↓cw_ops, ↓cw_seq, ↓cw_ret, ↓cw_cond, ↓seqK_normal, ↓getK_same, ↓getK_ne, ↓evK_tmp, ↓evK_int, ↓evK_bool, ↓evK_float, ↓condV_var, ↓gdV_var, ↓opsW_nil, ↓opsW_d, ↓opsW_gd, ↓opW_move, ↓opW_assign, ↓opW_pick, ↓opW_bin, ↓bin_lss, ↓bin_geq, ↓ld1_some, ↓idxS_some, ↓lenS_some, ↓resK_two, ↓setAll_cons, ↓setAll_nil, ↓len_25, ↓ia_25, ↓ld_27, ↓r41_0_w, ↓s41_1_w, ↓s41_4_w, ↓r41_5_w, ↓s41_6_w, ↓s41_7_w, ↓r41_8_w, ↓s41_9_w, onV_some', brK_true, brK_false, ne_eq, Nat.reduceEqDiff, Nat.reduceAdd, not_false_eq_true, Nat.one_ne_zero, Addr.add_lit, Int.toNat_natCast, Bool.false_eq_true,  h0, h1, z1, d1]))
      exact hK
theorem least_ret {v : Value} {f : Nat → Nat} {N : Nat} {h : Heap} {K : Value → Heap → Prop} (r : Rd h v f N) (hN : N ≤ 1000) (hf : Bits f N)
    (hK : ∀ g M h', ExtB h.n h h' → Sw 0 N f g → SortedN g 0 N → NanFrom g N M → K (.tuple #[.float .f64 (if 0 < M then g 0 else 0), .bool (decide (0 < M))]) h') : Ret env (.func 21) [v] h K := by
  refine F21 rfl ?_
  repeat' (first | done | with_reducible (first | refine y1 ?_ (by omega) | refine y2 ?_ (by omega) | refine y3 (fun _ => ?_) (fun _ => ?_) | refine y4 ?_ (by omega) (by omega) | refine y5 ?_ (by omega) | refine y6 ?_ (by with_unfolding_all rfl) | refine y7 ?_ (by with_unfolding_all rfl) | refine y8 ?_ (by with_unfolding_all rfl) | refine y9 ?_ (by with_unfolding_all rfl) | refine ya ?_ (by with_unfolding_all rfl)) | ((with_reducible refine And.intro ?_ ?_); (· omega)) | (simp -dsimp only [↓cw_ops, ↓cw_seq, ↓seqK_normal, ↓getK_same, ↓getK_ne, ↓evK_tmp, ↓evK_bool, ↓evK_float, ↓opsW_nil, ↓opsW_d, ↓opW_move, ↓opW_assign, ↓evs_nil, ↓evs_cons, ↓opW_call, ↓setAll_cons, ↓setAll_nil, ↓r21_0_w, ↓s21_1_w, ↓r21_2_w, ↓s21_3_w, ne_eq, Nat.reduceEqDiff, not_false_eq_true]))
  refine numbers_ret r hN hf fun g M v' h1 r1 X1 s so nf => ?_
  have n1 := X1.n
  have hq := hK g M h1 X1 s so nf
  repeat' (first | done | with_reducible (first | refine y1 ?_ (by omega) | refine y2 ?_ (by omega) | refine y3 (fun _ => ?_) (fun _ => ?_) | refine y4 ?_ (by omega) (by omega) | refine y5 ?_ (by omega) | refine y6 ?_ (by with_unfolding_all rfl) | refine y7 ?_ (by with_unfolding_all rfl) | refine y8 ?_ (by with_unfolding_all rfl) | refine y9 ?_ (by with_unfolding_all rfl) | refine ya ?_ (by with_unfolding_all rfl)) | ((with_reducible refine And.intro ?_ ?_); (· omega)) | (simp -dsimp only [↓getK_same, ↓evK_tmp, ↓evK_int, ↓opsW_d, ↓evs_nil, ↓evs_cons, ↓opW_call]))
  refine at_ret r1 (by omega) ?_
  have e : ((0 : Int) ≤ 0 ∧ (0 : Int) < (M : Int)) ↔ 0 < M := by omega
  simp only [e, Int.toNat_zero]
  repeat' (first | done | with_reducible (first | refine y1 ?_ (by omega) | refine y2 ?_ (by omega) | refine y3 (fun _ => ?_) (fun _ => ?_) | refine y4 ?_ (by omega) (by omega) | refine y5 ?_ (by omega) | refine y6 ?_ (by with_unfolding_all rfl) | refine y7 ?_ (by with_unfolding_all rfl) | refine y8 ?_ (by with_unfolding_all rfl) | refine y9 ?_ (by with_unfolding_all rfl) | refine ya ?_ (by with_unfolding_all rfl)) | ((with_reducible refine And.intro ?_ ?_); (· omega)) | (simp -dsimp only [↓cw_ret, ↓seqK_normal, ↓getK_same, ↓getK_ne, ↓evK_tmp, ↓opsW_nil, ↓opsW_d, ↓opW_assign, ↓resK_two, ↓opW_extract, ↓ext_tuple, List.getElem?_cons_zero, List.getElem?_cons_succ, onV_some', ne_eq, Nat.reduceEqDiff, not_false_eq_true]))
  exact hq
theorem most_ret {v : Value} {f : Nat → Nat} {N : Nat} {h : Heap} {K : Value → Heap → Prop} (r : Rd h v f N) (hN : N ≤ 1000) (hf : Bits f N)
    (hK : ∀ g M h', ExtB h.n h h' → Sw 0 N f g → SortedN g 0 N → NanFrom g N M → K (.tuple #[.float .f64 (if 0 < M then g (M - 1) else 0), .bool (decide (0 < M))]) h') : Ret env (.func 22) [v] h K := by
  refine F22 rfl ?_
  repeat' (first | done | with_reducible (first | refine y1 ?_ (by omega) | refine y2 ?_ (by omega) | refine y3 (fun _ => ?_) (fun _ => ?_) | refine y4 ?_ (by omega) (by omega) | refine y5 ?_ (by omega) | refine y6 ?_ (by with_unfolding_all rfl) | refine y7 ?_ (by with_unfolding_all rfl) | refine y8 ?_ (by with_unfolding_all rfl) | refine y9 ?_ (by with_unfolding_all rfl) | refine ya ?_ (by with_unfolding_all rfl)) | ((with_reducible refine And.intro ?_ ?_); (· omega)) | (simp -dsimp only [↓cw_ops, ↓cw_seq, ↓seqK_normal, ↓getK_same, ↓getK_ne, ↓evK_tmp, ↓evK_bool, ↓evK_float, ↓opsW_nil, ↓opsW_d, ↓opW_move, ↓opW_assign, ↓evs_nil, ↓evs_cons, ↓opW_call, ↓setAll_cons, ↓setAll_nil, ↓r22_2_w, ↓s22_3_w, ↓r22_4_w, ↓s22_5_w, ne_eq, Nat.reduceEqDiff, not_false_eq_true]))
  refine numbers_ret r hN hf fun g M v' h1 r1 X1 s so nf => ?_
  have n1 := X1.n
  have hM := nf.le
  have hq := hK g M h1 X1 s so nf
  obtain ⟨a, c, rfl, q⟩ := id r1
  have w1 : IntKind.i64.wrap ((M : Int) - 1) = (M : Int) - 1 := wrap_i64 (by omega) (by omega)
  repeat' (first | done | with_reducible (first | refine y1 ?_ (by omega) | refine y2 ?_ (by omega) | refine y3 (fun _ => ?_) (fun _ => ?_) | refine y4 ?_ (by omega) (by omega) | refine y5 ?_ (by omega) | refine y6 ?_ (by with_unfolding_all rfl) | refine y7 ?_ (by with_unfolding_all rfl) | refine y8 ?_ (by with_unfolding_all rfl) | refine y9 ?_ (by with_unfolding_all rfl) | refine ya ?_ (by with_unfolding_all rfl)) | ((with_reducible refine And.intro ?_ ?_); (· omega)) | (simp -dsimp only [↓cw_ops, ↓cw_seq, ↓seqK_normal, ↓getK_same, ↓getK_ne, ↓evK_tmp, ↓evK_int, ↓opsW_nil, ↓opsW_d, ↓opW_move, ↓opW_assign, ↓opW_bin, ↓bin_sub, ↓evs_nil, ↓evs_cons, ↓opW_call, ↓lenS_some, ↓len_25, ↓r22_0_w, ↓s22_1_w, ne_eq, Nat.reduceEqDiff, not_false_eq_true, w1]))
  refine at_ret r1 (by omega) ?_
  have e : ((0 : Int) ≤ (M : Int) - 1 ∧ (M : Int) - 1 < (M : Int)) ↔ 0 < M := by omega
  have e2 : ((M : Int) - 1).toNat = M - 1 := by omega
  simp only [e, e2]
  repeat' (first | done | with_reducible (first | refine y1 ?_ (by omega) | refine y2 ?_ (by omega) | refine y3 (fun _ => ?_) (fun _ => ?_) | refine y4 ?_ (by omega) (by omega) | refine y5 ?_ (by omega) | refine y6 ?_ (by with_unfolding_all rfl) | refine y7 ?_ (by with_unfolding_all rfl) | refine y8 ?_ (by with_unfolding_all rfl) | refine y9 ?_ (by with_unfolding_all rfl) | refine ya ?_ (by with_unfolding_all rfl)) | ((with_reducible refine And.intro ?_ ?_); (· omega)) | (simp -dsimp only [↓cw_ret, ↓seqK_normal, ↓getK_same, ↓getK_ne, ↓evK_tmp, ↓opsW_nil, ↓opsW_d, ↓opW_assign, ↓resK_two, ↓opW_extract, ↓ext_tuple, List.getElem?_cons_zero, List.getElem?_cons_succ, onV_some', ne_eq, Nat.reduceEqDiff, not_false_eq_true]))
  exact hq
theorem ratio_ret {v w : Value} {h : Heap} {K : Value → Heap → Prop} (hv : FB v) (hw : FB w) (hK : K (fA .quo v w) h) : Ret env (.func 17) [v, w] h K := by
  refine F17 rfl ?_
  have i1 := hv.isF
  have i2 := hw.isF
  repeat' (first | done | with_reducible (first | refine y1 ?_ (by omega) | refine y2 ?_ (by omega) | refine y3 (fun _ => ?_) (fun _ => ?_) | refine y4 ?_ (by omega) (by omega) | refine y5 ?_ (by omega) | refine y6 ?_ (by with_unfolding_all rfl) | refine y7 ?_ (by with_unfolding_all rfl) | refine y8 ?_ (by with_unfolding_all rfl) | refine y9 ?_ (by with_unfolding_all rfl) | refine ya ?_ (by with_unfolding_all rfl)) | ((with_reducible refine And.intro ?_ ?_); (· omega)) | (simp -dsimp only [↓cw_ops, ↓cw_seq, ↓cw_ret, ↓seqK_normal, ↓getK_same, ↓getK_ne, ↓evK_tmp, ↓evK_float, ↓opsW_nil, ↓opsW_d, ↓opW_move, ↓opW_assign, ↓opW_bin, ↓resK_one, ↓setAll_cons, ↓setAll_nil, ↓bin_quoF, ↓r17_0_w, ↓s17_1_w, ↓r17_2_w, ↓s17_3_w, ne_eq, Nat.reduceEqDiff, Nat.reduceAdd, not_false_eq_true, Nat.one_ne_zero, i1, i2]))
  exact hK
theorem size27 : size env 27 = some 1 := by kernel_rfl
theorem slice12 {j : Nat} {K : Value → Prop} : sliceVK env 25 (.slice (some ⟨j, 0, none⟩) 2 2) (some (.int .i64 1)) none none K = K (.slice (some ⟨j, 1, none⟩) 1 1) := by
  have f1 : Nat.beq 2 UNK2 = false := rfl
  have f2 : Nat.beq 2 UNK = false := rfl
  have hb : bound (.int .i64 1) 2 = some 1 := rfl
  have hab : abounds 2 2 (some (.int .i64 1)) none none = some (1, 2, 2) := by
    simp only [abounds, aboundsM, aboundsL, hb]
  simp only [sliceVK, asliceS, und25, f1, f2, cond_false, hab, size27, onV_some']
  rfl
theorem sum2_ret {x y : Value} {h : Heap} {K : Value → Heap → Prop} (hx : FB x) (hy : FB y) (hK : ∀ h', ExtB h.n h h' → K (fA .add x y) h') : Ret env (.func 13) [.slice (some ⟨h.n, 0, none⟩) 2 2] (newBlk h (.cells [x, y] 27 true)) K := by
  refine F13 rfl ?_
  have i1 := hx.isF
  have i2 := hy.isF
  have X1 : ExtB h.n h (newBlk h (.cells [x, y] 27 true)) := ExtB.new _ (Nat.le_refl _)
  have hb1 : (newBlk h (.cells [x, y] 27 true)).b.get h.n = some (.cells [x, y] 27 true) := newBlk_same _ _
  have hn1 : (newBlk h (.cells [x, y] 27 true)).n = h.n + 1 := rfl
  generalize newBlk h (.cells [x, y] 27 true) = h1 at X1 hb1 hn1 ⊢
  have c0 : cellAt h1 ⟨h.n, 0, none⟩ = some x := cellAt_blk (by omega) hb1 rfl
  have c1 : cellAt h1 ⟨h.n, 1, none⟩ = some y := cellAt_blk (by omega) hb1 rfl
  repeat' (first | done | with_reducible (first | refine y1 ?_ (by omega) | refine y2 ?_ (by omega) | refine y3 (fun _ => ?_) (fun _ => ?_) | refine y4 ?_ (by omega) (by omega) | refine y5 ?_ (by omega) | refine y6 ?_ (by with_unfolding_all rfl) | refine y7 ?_ (by with_unfolding_all rfl) | refine y8 ?_ (by with_unfolding_all rfl) | refine y9 ?_ (by with_unfolding_all rfl) | refine ya ?_ (by with_unfolding_all rfl)) | ((with_reducible refine And.intro ?_ ?_); (· omega)) | (simp -dsimp only [↓cw_skip, ↓cw_ops, ↓cw_seq, ↓cw_block, ↓cw_cond, ↓seqK_normal, ↓getK_same, ↓getK_ne, ↓evK_tmp, ↓evK_int, ↓evK_float, ↓condV_var, ↓opsW_nil, ↓opsW_d, ↓opW_move, ↓opW_assign, ↓opW_bin, ↓bin_eql, ↓ld1_some, ↓idxS_some, ↓lenS_some, ↓setAll_cons, ↓setAll_nil, ↓opW_slice, ↓evo_none, ↓evo_some, ↓len_25, ↓ia_25, ↓ld_27, ↓s13_13_w, ↓s13_14_w, ↓r13_15_w, ↓s13_16_w, ↓s13_17_w, ↓r13_18_w, ↓s13_19_w, ↓s13_22_w, ↓r13_23_w, ↓s13_24_w, ↓s13_25_w, ↓r13_26_w, ↓s13_27_w, onV_some', brK_false, ne_eq, Nat.reduceEqDiff, not_false_eq_true, Nat.add_zero, Addr.add_lit, Int.toNat_zero, Nat.zero_mul, Bool.false_eq_true,  c0, slice12]))
  refine cw_loopI (fun m fr h' => h' = h1 ∧ ((m = 1 ∧ fr.get 15 = some (.int .i64 0) ∧ fr.get 3 = some x) ∨ (m = 0 ∧ fr.get 15 = some (.int .i64 1) ∧ fr.get 3 = some (fA .add x y)))) 1 ?_ (by omega) ?_
  · exact ⟨rfl, .inl ⟨rfl, by simp [T.get_set], by simp [T.get_set]⟩⟩
  rintro m fr h' ⟨rfl, hm⟩ hag
  have a13 := getK_eq (hag 13 rfl)
  have a14 := getK_eq (hag 14 rfl)
  rcases hm with ⟨rfl, y15, y3⟩ | ⟨rfl, y15, y3⟩
  · have g15 := getK_of y15
    have g3 := getK_of y3
    have w1 : IntKind.i64.wrap (0 + 1) = 1 := by decide
    repeat' (first | done | with_reducible (first | refine y1 ?_ (by omega) | refine y2 ?_ (by omega) | refine y3 (fun _ => ?_) (fun _ => ?_) | refine y4 ?_ (by omega) (by omega) | refine y5 ?_ (by omega) | refine y6 ?_ (by with_unfolding_all rfl) | refine y7 ?_ (by with_unfolding_all rfl) | refine y8 ?_ (by with_unfolding_all rfl) | refine y9 ?_ (by with_unfolding_all rfl) | refine ya ?_ (by with_unfolding_all rfl)) | ((with_reducible refine And.intro ?_ ?_); (· omega)) | (simp -dsimp only [↓cw_skip, ↓cw_ops, ↓cw_seq, ↓cw_block, ↓cw_cond, ↓seqK_normal, ↓blockK_normal, ↓loopK_normal, ↓getK_same, ↓getK_ne, ↓evK_tmp, ↓evK_int, ↓condV_var, ↓opsW_nil, ↓opsW_d, ↓opW_move, ↓opW_assign, ↓opW_bin, ↓bin_add, ↓bin_lss, ↓ld1_some, ↓idxS_some, ↓bin_addF, ↓ia_25, ↓ld_27, ↓r13_2_w, ↓s13_3_w, ↓r13_4_w, ↓s13_5_w, ↓r13_6_w, ↓s13_7_w, ↓s13_8_w, ↓s13_9_w, ↓s13_10_w, ↓r13_11_w, ↓s13_12_w, onV_some', brK_true, true_and, ne_eq, Nat.reduceEqDiff, not_false_eq_true, Nat.add_zero, Addr.add_lit, Int.toNat_zero, Nat.zero_mul, ↓g15, ↓g3, ↓a13, ↓a14, c1, i1, i2, w1]))
    exact ⟨0, by omega, .inr ⟨rfl, by simp [T.get_set], by simp [T.get_set]⟩⟩
  · have g15 := getK_of y15
    have g3 := getK_of y3
    repeat' (first | done | with_reducible (first | refine y1 ?_ (by omega) | refine y2 ?_ (by omega) | refine y3 (fun _ => ?_) (fun _ => ?_) | refine y4 ?_ (by omega) (by omega) | refine y5 ?_ (by omega) | refine y6 ?_ (by with_unfolding_all rfl) | refine y7 ?_ (by with_unfolding_all rfl) | refine y8 ?_ (by with_unfolding_all rfl) | refine y9 ?_ (by with_unfolding_all rfl) | refine ya ?_ (by with_unfolding_all rfl)) | ((with_reducible refine And.intro ?_ ?_); (· omega)) | (simp -dsimp only [↓cw_ops, ↓cw_seq, ↓cw_exit, ↓cw_ret, ↓cw_cond, ↓seqK_normal, ↓seqK_exit, ↓blockK_same, ↓loopK_exit, ↓getK_same, ↓getK_ne, ↓evK_tmp, ↓condV_var, ↓opsW_nil, ↓opsW_d, ↓opW_move, ↓opW_assign, ↓opW_bin, ↓bin_lss, ↓resK_one, ↓r13_0_w, ↓s13_1_w, ↓s13_9_w, ↓s13_10_w, ↓r13_11_w, ↓s13_12_w, brK_false, ne_eq, Nat.reduceEqDiff, not_false_eq_true, Bool.false_eq_true,  ↓g15, ↓g3, ↓a14]))
    exact hK h' X1
theorem nanf_ret {h : Heap} {K : Value → Heap → Prop} (hK : K (.float .f64 9221120237041090561) h) : Ret env (.func 48) [] h K := by
  refine F48 rfl ?_
  repeat' (first | done | with_reducible (first | refine y1 ?_ (by omega) | refine y2 ?_ (by omega) | refine y3 (fun _ => ?_) (fun _ => ?_) | refine y4 ?_ (by omega) (by omega) | refine y5 ?_ (by omega) | refine y6 ?_ (by with_unfolding_all rfl) | refine y7 ?_ (by with_unfolding_all rfl) | refine y8 ?_ (by with_unfolding_all rfl) | refine y9 ?_ (by with_unfolding_all rfl) | refine ya ?_ (by with_unfolding_all rfl)) | ((with_reducible refine And.intro ?_ ?_); (· omega)) | (simp -dsimp only [↓cw_ops, ↓cw_seq, ↓seqK_normal, ↓evK_int, ↓evK_float, ↓opsW_nil, ↓opsW_d, ↓opW_assign, ↓evs_nil, ↓evs_cons, ↓opW_call, ↓r48_0_w, ↓s48_1_w, ↓r48_2_w, ↓s48_3_w]))
  refine from_u ?_
  repeat' (first | done | with_reducible (first | refine y1 ?_ (by omega) | refine y2 ?_ (by omega) | refine y3 (fun _ => ?_) (fun _ => ?_) | refine y4 ?_ (by omega) (by omega) | refine y5 ?_ (by omega) | refine y6 ?_ (by with_unfolding_all rfl) | refine y7 ?_ (by with_unfolding_all rfl) | refine y8 ?_ (by with_unfolding_all rfl) | refine y9 ?_ (by with_unfolding_all rfl) | refine ya ?_ (by with_unfolding_all rfl)) | ((with_reducible refine And.intro ?_ ?_); (· omega)) | (simp -dsimp only [↓cw_ret, ↓seqK_normal, ↓getK_same, ↓evK_tmp, ↓opsW_nil, ↓opsW_d, ↓opW_assign, ↓resK_one]))
  exact hK
end Go.Proofs.YtjcmcoabckkjoaaDoor.Or

