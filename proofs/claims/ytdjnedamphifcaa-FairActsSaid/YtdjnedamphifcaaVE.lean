/- Acts, windows, and both Is. Conditions, each theorem's own. -/
import Derived.Test.YtdjnedamphifcaaVB
set_option linter.unusedSimpArgs false
set_option linter.unusedVariables false
namespace Go.Proofs.Ytdjnedamphifcaa
open Go.Ev
set_option maxRecDepth 100000
set_option maxHeartbeats 400000
/-! acts, and the document's 'is a row of acts K-fair?' -/
structure ActD where
  kind : Int
  p : Int
  victim : Int
  pick : Int
def ActD.cells (a : ActD) : List Value := [.int .i64 a.kind, .int .i64 a.p, .int .i64 a.victim, .int .i64 a.pick]
def hit (a : ActD) (p v : Int) : Prop := (p < 0 ∧ a.kind = 2) ∨ (0 ≤ p ∧ a.kind = 1 ∧ a.p = p ∧ (v < 0 ∨ a.victim = v))
instance (a : ActD) (p v : Int) : Decidable (hit a p v) := by unfold hit; infer_instance
def hasL (l : List ActD) (p v : Int) : Bool := l.any fun a => decide (hit a p v)
theorem hasL_true {l : List ActD} {p v : Int} {i : Nat} (hi : i < l.length) (h : hit l[i] p v) : hasL l p v = true := by
  simp only [hasL, List.any_eq_true, decide_eq_true_eq]
  exact ⟨_, List.getElem_mem hi, h⟩
theorem hasL_false {l : List ActD} {p v : Int} (h : ∀ i (hi : i < l.length), ¬ hit l[i] p v) : hasL l p v = false := by
  rw [Bool.eq_false_iff]
  intro ht
  simp only [hasL, List.any_eq_true, decide_eq_true_eq] at ht
  obtain ⟨x, hx, hh⟩ := ht
  obtain ⟨i, hi, rfl⟩ := List.getElem_of_mem hx
  exact h i hi hh
theorem has_ret {B : Nat} {a : Option Addr} {c : Nat} {l : List ActD} {p v : Int} {h : Heap} {K : Value → Heap → Prop} (hl : l.length ≤ 100000) (hB : B ≤ h.n) (ra : RowAt B h a 4 (l.map ActD.cells))
    (hK : K (.bool (hasL l p v)) h) : Ret env (.func 17) [.slice a l.length c, .int .i64 p, .int .i64 v] h K := by
  refine F17 rfl ?_
  repeat' (first | done | with_reducible (first | refine y1 ?_ (by omega) | refine y2 ?_ (by omega) | refine y3 (fun _ => ?_) (fun _ => ?_) | refine y4 ?_ (by omega) (by omega) | refine y5 ?_ (by omega) | refine y6 ?_ (by with_unfolding_all rfl) | refine y7 ?_ (by with_unfolding_all rfl) | refine y8 ?_ (by with_unfolding_all rfl) | refine y9 ?_ (by with_unfolding_all rfl) | refine ya ?_ (by with_unfolding_all rfl)) | (simp -dsimp only [↓cw_ops, ↓cw_seq, ↓cw_block, ↓seqK_normal, ↓evK_int, ↓evK_bool, ↓opsW_nil, ↓opsW_d, ↓opW_assign, ↓setAll_cons, ↓setAll_nil, ↓s17_14_w, ↓s17_15_w, ↓r17_16_w, ↓s17_17_w, ↓s17_18_w, ↓r17_19_w, ↓s17_20_w, Nat.reduceAdd]))
  refine cw_loopI (fun n fr h' => h = h' ∧ ∃ k : Nat, k ≤ l.length ∧ n = l.length - k ∧ fr.get 7 = some (.int .i64 k) ∧ ∀ i (hi : i < l.length), i < k → ¬ hit l[i] p v) l.length ?_ (by omega) ?_
  · exact ⟨rfl, 0, by omega, by omega, by simp [T.get_set], fun i _ h => by omega⟩
  rintro n fr h' ⟨rfl, k, hk, rfl, g7, hno⟩ hag
  have e7 := getK_of g7
  have a0 := getK_eq (hag 0 rfl)
  have a1 := getK_eq (hag 1 rfl)
  have a2 := getK_eq (hag 2 rfl)
  by_cases hlt : k < l.length
  · obtain ⟨b0, off, hra, hb, dd⟩ := ra k (by simpa using hlt)
    simp only [List.getElem_map, ActD.cells] at dd
    subst hra
    have d0 := cellAt_of dd (j := 0) rfl
    have d1 := cellAt_of dd (j := 1) rfl
    have d2 := cellAt_of dd (j := 2) rfl
    simp only [Nat.add_zero] at d0
    have yes : hit l[k] p v → K (.bool true) h := fun hh => by rw [hasL_true hlt hh] at hK; exact hK
    have no : ¬ hit l[k] p v → ∀ i (hi : i < l.length), i < k + 1 → ¬ hit l[i] p v := fun hh i hi hik => by
      by_cases hi' : i < k
      · exact hno i hi hi'
      · have : i = k := by omega
        subst this; exact hh
    clear hK
    generalize l[k] = x at d0 d1 d2 yes no
    unfold hit at yes no
    by_cases hp : p < 0
    · by_cases h2 : x.kind = 2
      · repeat' (first | done | with_reducible (first | refine y1 ?_ (by omega) | refine y2 ?_ (by omega) | refine y3 (fun _ => ?_) (fun _ => ?_) | refine y4 ?_ (by omega) (by omega) | refine y5 ?_ (by omega) | refine y6 ?_ (by with_unfolding_all rfl) | refine y7 ?_ (by with_unfolding_all rfl) | refine y8 ?_ (by with_unfolding_all rfl) | refine y9 ?_ (by with_unfolding_all rfl) | refine ya ?_ (by with_unfolding_all rfl)) | (simp -dsimp only [↓cw_skip, ↓cw_ops, ↓cw_seq, ↓cw_block, ↓cw_ret, ↓cw_cond, ↓seqK_normal, ↓seqK_ret, ↓blockK_ret, ↓loopK_ret, ↓getK_same, ↓getK_ne, ↓evK_tmp, ↓evK_int, ↓evK_bool, ↓condV_var, ↓gdV_var, ↓gdV_undef, ↓opsW_nil, ↓opsW_d, ↓opsW_gd, ↓opW_move, ↓opW_assign, ↓opW_pick, ↓opW_bin, ↓bin_eql, ↓bin_lss, ↓ld1_some, ↓fldA_some, ↓idxS_some, ↓lenS_some, ↓resK_one, ↓len_26, ↓ia_26, ↓fa_52_0, ↓ld_50, ↓r17_4_w, ↓s17_5_w, ↓s17_6_w, ↓r17_7_w, ↓s17_8_w, ↓s17_9_w, ↓s17_10_w, ↓r17_11_w, ↓s17_12_w, ↓s17_13_w, onV_some', brK_true, brK_false, ne_eq, Nat.reduceEqDiff, not_false_eq_true, Nat.one_ne_zero, Nat.add_zero, Addr.add_lit, Int.toNat_natCast, Bool.true_eq_false, ↓e7, ↓a0, ↓a1, d0]))
        exact yes (by omega)
      · repeat' (first | done | with_reducible (first | refine y1 ?_ (by omega) | refine y2 ?_ (by omega) | refine y3 (fun _ => ?_) (fun _ => ?_) | refine y4 ?_ (by omega) (by omega) | refine y5 ?_ (by omega) | refine y6 ?_ (by with_unfolding_all rfl) | refine y7 ?_ (by with_unfolding_all rfl) | refine y8 ?_ (by with_unfolding_all rfl) | refine y9 ?_ (by with_unfolding_all rfl) | refine ya ?_ (by with_unfolding_all rfl)) | (simp -dsimp only [↓cw_skip, ↓cw_ops, ↓cw_seq, ↓cw_block, ↓cw_cond, ↓seqK_normal, ↓blockK_normal, ↓loopK_normal, ↓getK_same, ↓getK_ne, ↓evK_tmp, ↓evK_int, ↓evK_bool, ↓condV_var, ↓gdV_var, ↓gdV_undef, ↓opsW_nil, ↓opsW_d, ↓opsW_gd, ↓opW_move, ↓opW_assign, ↓opW_pick, ↓opW_bin, ↓bin_add, ↓bin_eql, ↓bin_lss, ↓bin_geq, ↓ld1_some, ↓fldA_some, ↓idxS_some, ↓lenS_some, ↓len_26, ↓ia_26, ↓fa_52_0, ↓ld_50, ↓r17_2_w, ↓s17_3_w, ↓s17_6_w, ↓r17_7_w, ↓s17_8_w, ↓s17_9_w, ↓s17_10_w, ↓r17_11_w, ↓s17_12_w, ↓s17_13_w, onV_some', brK_true, brK_false, true_and, ne_eq, Nat.reduceEqDiff, not_false_eq_true, Nat.one_ne_zero, Nat.add_zero, Addr.add_lit, Int.toNat_natCast, Bool.false_eq_true,  ↓e7, ↓a0, ↓a1, d0]))
        exact ⟨l.length - (k + 1), by omega, k + 1, by omega, rfl, by simp [T.get_set, wrap_succ (show k ≤ 4611686018427387904 by omega)], no (by omega)⟩
    · by_cases h1 : x.kind = 1
      · by_cases h3 : x.p = p
        · by_cases h4 : v < 0
          · repeat' (first | done | with_reducible (first | refine y1 ?_ (by omega) | refine y2 ?_ (by omega) | refine y3 (fun _ => ?_) (fun _ => ?_) | refine y4 ?_ (by omega) (by omega) | refine y5 ?_ (by omega) | refine y6 ?_ (by with_unfolding_all rfl) | refine y7 ?_ (by with_unfolding_all rfl) | refine y8 ?_ (by with_unfolding_all rfl) | refine y9 ?_ (by with_unfolding_all rfl) | refine ya ?_ (by with_unfolding_all rfl)) | (simp -dsimp only [↓cw_skip, ↓cw_ops, ↓cw_seq, ↓cw_block, ↓cw_ret, ↓cw_cond, ↓seqK_normal, ↓seqK_ret, ↓blockK_ret, ↓loopK_ret, ↓getK_same, ↓getK_ne, ↓evK_tmp, ↓evK_int, ↓evK_bool, ↓condV_var, ↓gdV_var, ↓opsW_nil, ↓opsW_d, ↓opsW_gd, ↓opW_move, ↓opW_assign, ↓opW_pick, ↓opW_bin, ↓bin_eql, ↓bin_lss, ↓bin_geq, ↓ld1_some, ↓fldA_some, ↓idxS_some, ↓lenS_some, ↓resK_one, ↓len_26, ↓ld_3, ↓ia_26, ↓fa_52_0, ↓ld_50, ↓fa_52_1, ↓r17_4_w, ↓s17_5_w, ↓s17_6_w, ↓r17_7_w, ↓s17_8_w, ↓s17_9_w, ↓s17_10_w, ↓r17_11_w, ↓s17_12_w, ↓s17_13_w, onV_some', brK_true, brK_false, ne_eq, Nat.reduceEqDiff, not_false_eq_true, Nat.one_ne_zero, Nat.add_zero, Addr.add_lit, Int.toNat_natCast, Bool.true_eq_false, Bool.false_eq_true,  ↓e7, ↓a0, ↓a1, ↓a2, d0, d1]))
            exact yes (by omega)
          · by_cases h5 : x.victim = v
            · repeat' (first | done | with_reducible (first | refine y1 ?_ (by omega) | refine y2 ?_ (by omega) | refine y3 (fun _ => ?_) (fun _ => ?_) | refine y4 ?_ (by omega) (by omega) | refine y5 ?_ (by omega) | refine y6 ?_ (by with_unfolding_all rfl) | refine y7 ?_ (by with_unfolding_all rfl) | refine y8 ?_ (by with_unfolding_all rfl) | refine y9 ?_ (by with_unfolding_all rfl) | refine ya ?_ (by with_unfolding_all rfl)) | (simp -dsimp only [↓cw_skip, ↓cw_ops, ↓cw_seq, ↓cw_block, ↓cw_ret, ↓cw_cond, ↓seqK_normal, ↓seqK_ret, ↓blockK_ret, ↓loopK_ret, ↓getK_same, ↓getK_ne, ↓evK_tmp, ↓evK_int, ↓evK_bool, ↓condV_var, ↓gdV_var, ↓opsW_nil, ↓opsW_d, ↓opsW_gd, ↓opW_move, ↓opW_assign, ↓opW_pick, ↓opW_bin, ↓bin_eql, ↓bin_lss, ↓bin_geq, ↓ld1_some, ↓fldA_some, ↓idxS_some, ↓lenS_some, ↓resK_one, ↓len_26, ↓ld_3, ↓ia_26, ↓fa_52_0, ↓ld_50, ↓fa_52_1, ↓fa_52_2, ↓r17_4_w, ↓s17_5_w, ↓s17_6_w, ↓r17_7_w, ↓s17_8_w, ↓s17_9_w, ↓s17_10_w, ↓r17_11_w, ↓s17_12_w, ↓s17_13_w, onV_some', brK_true, brK_false, ne_eq, Nat.reduceEqDiff, not_false_eq_true, Nat.one_ne_zero, Nat.add_zero, Addr.add_lit, Int.toNat_natCast, Bool.false_eq_true,  ↓e7, ↓a0, ↓a1, ↓a2, d0, d1, d2]))
              exact yes (by omega)
            · repeat' (first | done | with_reducible (first | refine y1 ?_ (by omega) | refine y2 ?_ (by omega) | refine y3 (fun _ => ?_) (fun _ => ?_) | refine y4 ?_ (by omega) (by omega) | refine y5 ?_ (by omega) | refine y6 ?_ (by with_unfolding_all rfl) | refine y7 ?_ (by with_unfolding_all rfl) | refine y8 ?_ (by with_unfolding_all rfl) | refine y9 ?_ (by with_unfolding_all rfl) | refine ya ?_ (by with_unfolding_all rfl)) | (simp -dsimp only [↓cw_skip, ↓cw_ops, ↓cw_seq, ↓cw_block, ↓cw_cond, ↓seqK_normal, ↓blockK_normal, ↓loopK_normal, ↓getK_same, ↓getK_ne, ↓evK_tmp, ↓evK_int, ↓evK_bool, ↓condV_var, ↓gdV_var, ↓opsW_nil, ↓opsW_d, ↓opsW_gd, ↓opW_move, ↓opW_assign, ↓opW_pick, ↓opW_bin, ↓bin_add, ↓bin_eql, ↓bin_lss, ↓bin_geq, ↓ld1_some, ↓fldA_some, ↓idxS_some, ↓lenS_some, ↓len_26, ↓ld_3, ↓ia_26, ↓fa_52_0, ↓ld_50, ↓fa_52_1, ↓fa_52_2, ↓r17_2_w, ↓s17_3_w, ↓s17_6_w, ↓r17_7_w, ↓s17_8_w, ↓s17_9_w, ↓s17_10_w, ↓r17_11_w, ↓s17_12_w, ↓s17_13_w, onV_some', brK_true, brK_false, true_and, ne_eq, Nat.reduceEqDiff, not_false_eq_true, Nat.one_ne_zero, Nat.add_zero, Addr.add_lit, Int.toNat_natCast, Bool.false_eq_true,  ↓e7, ↓a0, ↓a1, ↓a2, d0, d1, d2]))
              exact ⟨l.length - (k + 1), by omega, k + 1, by omega, rfl, by simp [T.get_set, wrap_succ (show k ≤ 4611686018427387904 by omega)], no (by omega)⟩
        · repeat' (first | done | with_reducible (first | refine y1 ?_ (by omega) | refine y2 ?_ (by omega) | refine y3 (fun _ => ?_) (fun _ => ?_) | refine y4 ?_ (by omega) (by omega) | refine y5 ?_ (by omega) | refine y6 ?_ (by with_unfolding_all rfl) | refine y7 ?_ (by with_unfolding_all rfl) | refine y8 ?_ (by with_unfolding_all rfl) | refine y9 ?_ (by with_unfolding_all rfl) | refine ya ?_ (by with_unfolding_all rfl)) | (simp -dsimp only [↓cw_skip, ↓cw_ops, ↓cw_seq, ↓cw_block, ↓cw_cond, ↓seqK_normal, ↓blockK_normal, ↓loopK_normal, ↓getK_same, ↓getK_ne, ↓evK_tmp, ↓evK_int, ↓evK_bool, ↓condV_var, ↓gdV_var, ↓gdV_undef, ↓opsW_nil, ↓opsW_d, ↓opsW_gd, ↓opW_move, ↓opW_assign, ↓opW_pick, ↓opW_bin, ↓bin_add, ↓bin_eql, ↓bin_lss, ↓bin_geq, ↓ld1_some, ↓fldA_some, ↓idxS_some, ↓lenS_some, ↓len_26, ↓ld_3, ↓ia_26, ↓fa_52_0, ↓ld_50, ↓fa_52_1, ↓r17_2_w, ↓s17_3_w, ↓s17_6_w, ↓r17_7_w, ↓s17_8_w, ↓s17_9_w, ↓s17_10_w, ↓r17_11_w, ↓s17_12_w, ↓s17_13_w, onV_some', brK_true, brK_false, true_and, ne_eq, Nat.reduceEqDiff, not_false_eq_true, Nat.one_ne_zero, Nat.add_zero, Addr.add_lit, Int.toNat_natCast, Bool.false_eq_true,  ↓e7, ↓a0, ↓a1, d0, d1]))
          exact ⟨l.length - (k + 1), by omega, k + 1, by omega, rfl, by simp [T.get_set, wrap_succ (show k ≤ 4611686018427387904 by omega)], no (by omega)⟩
      · repeat' (first | done | with_reducible (first | refine y1 ?_ (by omega) | refine y2 ?_ (by omega) | refine y3 (fun _ => ?_) (fun _ => ?_) | refine y4 ?_ (by omega) (by omega) | refine y5 ?_ (by omega) | refine y6 ?_ (by with_unfolding_all rfl) | refine y7 ?_ (by with_unfolding_all rfl) | refine y8 ?_ (by with_unfolding_all rfl) | refine y9 ?_ (by with_unfolding_all rfl) | refine ya ?_ (by with_unfolding_all rfl)) | (simp -dsimp only [↓cw_skip, ↓cw_ops, ↓cw_seq, ↓cw_block, ↓cw_cond, ↓seqK_normal, ↓blockK_normal, ↓loopK_normal, ↓getK_same, ↓getK_ne, ↓evK_tmp, ↓evK_int, ↓evK_bool, ↓condV_var, ↓gdV_var, ↓gdV_undef, ↓opsW_nil, ↓opsW_d, ↓opsW_gd, ↓opW_move, ↓opW_assign, ↓opW_pick, ↓opW_bin, ↓bin_add, ↓bin_eql, ↓bin_lss, ↓bin_geq, ↓ld1_some, ↓fldA_some, ↓idxS_some, ↓lenS_some, ↓len_26, ↓ia_26, ↓fa_52_0, ↓ld_50, ↓r17_2_w, ↓s17_3_w, ↓s17_6_w, ↓r17_7_w, ↓s17_8_w, ↓s17_9_w, ↓s17_10_w, ↓r17_11_w, ↓s17_12_w, ↓s17_13_w, onV_some', brK_true, brK_false, true_and, ne_eq, Nat.reduceEqDiff, not_false_eq_true, Nat.one_ne_zero, Nat.add_zero, Addr.add_lit, Int.toNat_natCast, Bool.false_eq_true,  ↓e7, ↓a0, ↓a1, d0]))
        exact ⟨l.length - (k + 1), by omega, k + 1, by omega, rfl, by simp [T.get_set, wrap_succ (show k ≤ 4611686018427387904 by omega)], no (by omega)⟩
  · rw [hasL_false (fun i hi => hno i hi (by omega))] at hK
    repeat' (first | done | with_reducible (first | refine y1 ?_ (by omega) | refine y2 ?_ (by omega) | refine y3 (fun _ => ?_) (fun _ => ?_) | refine y4 ?_ (by omega) (by omega) | refine y5 ?_ (by omega) | refine y6 ?_ (by with_unfolding_all rfl) | refine y7 ?_ (by with_unfolding_all rfl) | refine y8 ?_ (by with_unfolding_all rfl) | refine y9 ?_ (by with_unfolding_all rfl) | refine ya ?_ (by with_unfolding_all rfl)) | (simp -dsimp only [↓cw_ops, ↓cw_seq, ↓cw_exit, ↓cw_ret, ↓cw_cond, ↓seqK_normal, ↓seqK_exit, ↓blockK_same, ↓loopK_exit, ↓getK_same, ↓getK_ne, ↓evK_tmp, ↓evK_bool, ↓condV_var, ↓opsW_nil, ↓opsW_d, ↓opW_move, ↓opW_assign, ↓opW_bin, ↓bin_lss, ↓lenS_some, ↓resK_one, ↓len_26, ↓r17_0_w, ↓s17_1_w, ↓s17_10_w, ↓r17_11_w, ↓s17_12_w, ↓s17_13_w, brK_false, ne_eq, Nat.reduceEqDiff, not_false_eq_true, Nat.one_ne_zero, Bool.false_eq_true,  ↓e7, ↓a0]))
    exact hK
end Go.Proofs.Ytdjnedamphifcaa

namespace Go.Proofs.Ytdjnedamphifcaa
open Go.Ev
set_option maxRecDepth 100000
set_option maxHeartbeats 400000
/-! windows -/
def win (l : List ActD) (at_ k : Nat) : List ActD := (l.drop at_).take k
def rowOK (W : List ActD) (ps p : Nat) : Prop := ∀ v : Nat, v < ps → p ≠ v → hasL W p v = true
structure winOK (W : List ActD) (ps : Nat) : Prop where
  t : hasL W (-1) 0 = true
  one : ps = 1 → hasL W 0 (-1) = true
  all : ∀ p, p < ps → rowOK W ps p
structure IsP (ps : Nat) (k : Int) (l : List ActD) : Prop where
  kp : 1 ≤ k
  ok : ∀ at_ : Nat, at_ + k.toNat ≤ l.length → winOK (win l at_ k.toNat) ps
def Sliceable (a : Option Addr) (n c : Nat) : Prop := ∀ (i j : Nat) (K : Value → Prop), i < j → j ≤ n → (∀ c', K (.slice (a.map (·.add (i * 4))) (j - i) c')) → sliceVK env 26 (.slice a n c) (some (.int .i64 (i : Int))) (some (.int .i64 (j : Int))) none K
theorem sliceable_C {a : Option Addr} {n c : Nat} (h1 : n ≤ c) (h2 : c < UNK) : Sliceable a n c := fun i j K hij hj q => by
  refine slice_fromTo slz_26 h2 (by omega) (by omega) (by omega) ?_
  have : Nat.beq c (i : Int).toNat = false := by
    cases hh : Nat.beq c (i : Int).toNat with
    | false => rfl
    | true => have := Nat.eq_of_beq_eq_true hh; omega
  rw [this]
  have := q (c - i)
  simpa [show ((j : Int) - (i : Int)).toNat = j - i by omega] using this
theorem sliceable_U {a : Option Addr} {n : Nat} : Sliceable a n UNK := fun i j K hij hj q => by
  refine slice_fromToU slz_26 (by decide) (by omega) (by omega) (by omega) fun c => ?_
  have := q c
  simpa [show ((j : Int) - (i : Int)).toNat = j - i by omega] using this
theorem sliceable_0 {a : Option Addr} {c : Nat} : Sliceable a 0 c := fun i j K hij hj q => by omega
theorem win_len {l : List ActD} {i k : Nat} (h : i + k ≤ l.length) : (win l i k).length = k := by unfold win; rw [List.length_take, List.length_drop]; omega
theorem row_win {B : Nat} {h : Heap} {a : Option Addr} {l : List ActD} {i k : Nat} (ra : RowAt B h a 4 (l.map ActD.cells)) (hk : i + k ≤ l.length) : RowAt B h (a.map (·.add (i * 4))) 4 ((win l i k).map ActD.cells) := by
  intro j hj
  rw [List.length_map, win_len hk] at hj
  obtain ⟨b, off, rfl, h2, h3⟩ := ra (i + j) (by rw [List.length_map]; omega)
  refine ⟨b, off + i * 4, by simp [Addr.add], h2, ?_⟩
  rw [show off + i * 4 + j * 4 = off + (i + j) * 4 by omega, h3]
  simp only [List.getElem_map, win, List.getElem_take, List.getElem_drop]
theorem refV {B : Nat} {fr : Fr} {h : Heap} {Kr : Ex → Fr → Heap → Prop} {W : List ActD} {a : Option Addr} {c ps p : Nat} (hl : W.length ≤ 100000) (hB : B ≤ h.n) (ra : RowAt B h a 4 (W.map ActD.cells)) (hps : ps ≤ 8) (g0 : fr.get 0 = some (.int .i64 ps)) (g8 : fr.get 8 = some (.slice a W.length c)) (g9 : fr.get 9 = some (.int .i64 p)) (g10 : fr.get 10 = some (.int .i64 (0 : Int)))
    (hyes : ∀ fr', (∀ t, t < 10 → fr'.get t = fr.get t) → rowOK W ps p → Kr .normal fr' h) (hno : ∀ fr', fr'.get 6 = some (.bool false) → ¬ rowOK W ps p → Kr .ret fr' h) : s8_19.wp env 61 none fr h Kr := by
  repeat' (first | done | with_reducible (first | refine y1 ?_ (by omega) | refine y2 ?_ (by omega) | refine y3 (fun _ => ?_) (fun _ => ?_) | refine y4 ?_ (by omega) (by omega) | refine y5 ?_ (by omega) | refine y6 ?_ (by with_unfolding_all rfl) | refine y7 ?_ (by with_unfolding_all rfl) | refine y8 ?_ (by with_unfolding_all rfl) | refine y9 ?_ (by with_unfolding_all rfl) | refine ya ?_ (by with_unfolding_all rfl)) | (simp -dsimp only [↓cw_block, ↓s8_18_w, ↓s8_19_w]))
  refine cw_loopI (fun n fr' h' => h = h' ∧ ∃ v : Nat, v ≤ ps ∧ n = ps - v ∧ fr'.get 10 = some (.int .i64 v) ∧ (∀ t, t < 10 → fr'.get t = fr.get t) ∧ ∀ v', v' < v → p ≠ v' → hasL W p v' = true) ps ?_ (by omega) ?_
  · exact ⟨rfl, 0, by omega, by omega, by simpa using g10, fun _ _ => rfl, fun i h => by omega⟩
  rintro n fr2 h' ⟨rfl, v, hv, rfl, f10, hfr, hrow⟩ hag2
  have e10 := getK_of f10
  have e0 := getK_of ((hfr 0 (by decide)).trans g0)
  have e8 := getK_of ((hfr 8 (by decide)).trans g8)
  have e9 := getK_of ((hfr 9 (by decide)).trans g9)
  have fx : ∀ (fr3 : Fr), (∀ t, t < 10 → fr3.get t = fr2.get t) → ∀ t, t < 10 → fr3.get t = fr.get t := fun fr3 hh t ht => (hh t ht).trans (hfr t ht)
  by_cases hlt : v < ps
  · by_cases hne : p = v
    · subst hne
      repeat' (first | done | with_reducible (first | refine y1 ?_ (by omega) | refine y2 ?_ (by omega) | refine y3 (fun _ => ?_) (fun _ => ?_) | refine y4 ?_ (by omega) (by omega) | refine y5 ?_ (by omega) | refine y6 ?_ (by with_unfolding_all rfl) | refine y7 ?_ (by with_unfolding_all rfl) | refine y8 ?_ (by with_unfolding_all rfl) | refine y9 ?_ (by with_unfolding_all rfl) | refine ya ?_ (by with_unfolding_all rfl)) | (simp -dsimp only [↓cw_skip, ↓cw_ops, ↓cw_seq, ↓cw_block, ↓cw_cond, ↓seqK_normal, ↓blockK_normal, ↓loopK_normal, ↓getK_same, ↓getK_ne, ↓evK_tmp, ↓evK_int, ↓evK_bool, ↓condV_var, ↓gdV_var, ↓opsW_nil, ↓opsW_d, ↓opsW_gd, ↓opW_move, ↓opW_assign, ↓opW_pick, ↓opW_bin, ↓bin_add, ↓bin_neq, ↓bin_lss, ↓r8_6_w, ↓s8_7_w, ↓s8_10_w, ↓r8_11_w, ↓s8_12_w, ↓s8_13_w, ↓s8_14_w, ↓r8_15_w, ↓s8_16_w, ↓s8_17_w, brK_true, brK_false, true_and, ne_eq, Nat.reduceEqDiff, not_false_eq_true, Bool.false_eq_true,  ↓e10, ↓e0, ↓e9]))
      refine ⟨ps - (p + 1), by omega, p + 1, by omega, rfl, by simp [T.get_set, wrap_succ (show p ≤ 4611686018427387904 by omega)], fx _ (fun t ht => by simp only [T.get_set]; repeat' (first | rfl | (rw [if_neg (by omega)]))), fun v' h1 h2 => hrow v' (by omega) h2⟩
    · repeat' (first | done | with_reducible (first | refine y1 ?_ (by omega) | refine y2 ?_ (by omega) | refine y3 (fun _ => ?_) (fun _ => ?_) | refine y4 ?_ (by omega) (by omega) | refine y5 ?_ (by omega) | refine y6 ?_ (by with_unfolding_all rfl) | refine y7 ?_ (by with_unfolding_all rfl) | refine y8 ?_ (by with_unfolding_all rfl) | refine y9 ?_ (by with_unfolding_all rfl) | refine ya ?_ (by with_unfolding_all rfl)) | (simp -dsimp only [↓cw_skip, ↓cw_ops, ↓cw_seq, ↓cw_block, ↓cw_cond, ↓seqK_normal, ↓getK_same, ↓getK_ne, ↓evK_tmp, ↓condV_var, ↓gdV_var, ↓opsW_nil, ↓opsW_d, ↓opsW_gd, ↓opW_move, ↓opW_bin, ↓bin_neq, ↓bin_lss, ↓evs_nil, ↓evs_cons, ↓opW_call, ↓r8_11_w, ↓s8_12_w, ↓s8_13_w, ↓s8_14_w, ↓r8_15_w, ↓s8_16_w, ↓s8_17_w, brK_true, ne_eq, Nat.reduceEqDiff, not_false_eq_true, ↓e10, ↓e0, ↓e8, ↓e9]))
      refine has_ret hl hB ra ?_
      cases hh : hasL W p v with
      | true =>
        repeat' (first | done | with_reducible (first | refine y1 ?_ (by omega) | refine y2 ?_ (by omega) | refine y3 (fun _ => ?_) (fun _ => ?_) | refine y4 ?_ (by omega) (by omega) | refine y5 ?_ (by omega) | refine y6 ?_ (by with_unfolding_all rfl) | refine y7 ?_ (by with_unfolding_all rfl) | refine y8 ?_ (by with_unfolding_all rfl) | refine y9 ?_ (by with_unfolding_all rfl) | refine ya ?_ (by with_unfolding_all rfl)) | (simp -dsimp only [↓cw_skip, ↓cw_ops, ↓cw_cond, ↓seqK_normal, ↓blockK_normal, ↓loopK_normal, ↓getK_same, ↓getK_ne, ↓evK_tmp, ↓evK_int, ↓condV_var, ↓gdV_var, ↓opsW_nil, ↓opsW_d, ↓opsW_gd, ↓opW_move, ↓opW_assign, ↓opW_pick, ↓opW_bin, ↓bin_add, ↓opW_un, ↓un_not, ↓r8_6_w, ↓s8_7_w, ↓s8_10_w, brK_true, brK_false, true_and, ne_eq, Nat.reduceEqDiff, not_false_eq_true, Bool.false_eq_true,  ↓e10, Bool.not_true]))
        refine ⟨ps - (v + 1), by omega, v + 1, by omega, rfl, by simp [T.get_set, wrap_succ (show v ≤ 4611686018427387904 by omega)], fx _ (fun t ht => by simp only [T.get_set]; repeat' (first | rfl | (rw [if_neg (by omega)]))), fun v' h1 h2 => ?_⟩
        by_cases hv' : v' < v
        · exact hrow v' hv' h2
        · have : v' = v := by omega
          subst this; exact hh
      | false =>
        repeat' (first | done | with_reducible (first | refine y1 ?_ (by omega) | refine y2 ?_ (by omega) | refine y3 (fun _ => ?_) (fun _ => ?_) | refine y4 ?_ (by omega) (by omega) | refine y5 ?_ (by omega) | refine y6 ?_ (by with_unfolding_all rfl) | refine y7 ?_ (by with_unfolding_all rfl) | refine y8 ?_ (by with_unfolding_all rfl) | refine y9 ?_ (by with_unfolding_all rfl) | refine ya ?_ (by with_unfolding_all rfl)) | (simp -dsimp only [↓cw_ops, ↓cw_seq, ↓cw_ret, ↓cw_cond, ↓seqK_normal, ↓seqK_ret, ↓blockK_ret, ↓loopK_ret, ↓getK_same, ↓getK_ne, ↓evK_tmp, ↓evK_bool, ↓condV_var, ↓gdV_var, ↓opsW_nil, ↓opsW_d, ↓opsW_gd, ↓opW_assign, ↓opW_pick, ↓opW_un, ↓un_not, ↓r8_8_w, ↓s8_9_w, ↓s8_10_w, brK_true, ne_eq, Nat.reduceEqDiff, not_false_eq_true, Bool.not_false]))
        exact hno _ (by simp [T.get_set]) fun hr => absurd (hh.symm.trans (hr v hlt hne)) (by simp)
  · have e : v = ps := by omega
    subst e
    repeat' (first | done | with_reducible (first | refine y1 ?_ (by omega) | refine y2 ?_ (by omega) | refine y3 (fun _ => ?_) (fun _ => ?_) | refine y4 ?_ (by omega) (by omega) | refine y5 ?_ (by omega) | refine y6 ?_ (by with_unfolding_all rfl) | refine y7 ?_ (by with_unfolding_all rfl) | refine y8 ?_ (by with_unfolding_all rfl) | refine y9 ?_ (by with_unfolding_all rfl) | refine ya ?_ (by with_unfolding_all rfl)) | (simp -dsimp only [↓cw_ops, ↓cw_seq, ↓cw_exit, ↓cw_cond, ↓seqK_normal, ↓seqK_exit, ↓blockK_same, ↓loopK_exit, ↓getK_same, ↓getK_ne, ↓evK_tmp, ↓condV_var, ↓opsW_nil, ↓opsW_d, ↓opW_move, ↓opW_bin, ↓bin_lss, ↓s8_14_w, ↓r8_15_w, ↓s8_16_w, ↓s8_17_w, brK_false, ne_eq, Nat.reduceEqDiff, not_false_eq_true, Bool.false_eq_true,  ↓e10, ↓e0]))
    exact hyes _ (fx _ (fun t ht => by simp only [T.get_set]; repeat' (first | rfl | (rw [if_neg (by omega)])))) fun v' h1 h2 => hrow v' h1 h2
theorem refIs_ret {B : Nat} {a : Option Addr} {c : Nat} {l : List ActD} {ps : Nat} {k : Int} {h : Heap} {K : Value → Heap → Prop} (hl : l.length ≤ 100000) (hp : 1 ≤ ps ∧ ps ≤ 8) (hB : B ≤ h.n) (ra : RowAt B h a 4 (l.map ActD.cells)) (hs : Sliceable a l.length c)
    (hK : ∀ b, (b = true ↔ IsP ps k l) → K (.bool b) h) : Ret env (.func 8) [.int .i64 ps, .int .i64 k, .slice a l.length c] h K := by
  obtain ⟨hp1, hp2⟩ := hp
  refine F8 rfl ?_
  by_cases hk : k < 1
  · repeat' (first | done | with_reducible (first | refine y1 ?_ (by omega) | refine y2 ?_ (by omega) | refine y3 (fun _ => ?_) (fun _ => ?_) | refine y4 ?_ (by omega) (by omega) | refine y5 ?_ (by omega) | refine y6 ?_ (by with_unfolding_all rfl) | refine y7 ?_ (by with_unfolding_all rfl) | refine y8 ?_ (by with_unfolding_all rfl) | refine y9 ?_ (by with_unfolding_all rfl) | refine ya ?_ (by with_unfolding_all rfl)) | (simp -dsimp only [↓cw_ops, ↓cw_seq, ↓cw_ret, ↓cw_cond, ↓seqK_normal, ↓seqK_ret, ↓getK_same, ↓getK_ne, ↓evK_tmp, ↓evK_int, ↓evK_bool, ↓condV_var, ↓gdV_var, ↓opsW_nil, ↓opsW_d, ↓opsW_gd, ↓opW_move, ↓opW_assign, ↓opW_pick, ↓opW_bin, ↓bin_lss, ↓resK_one, ↓setAll_cons, ↓setAll_nil, ↓r8_55_w, ↓s8_56_w, ↓s8_57_w, ↓r8_58_w, ↓s8_59_w, ↓s8_60_w, ↓r8_61_w, ↓s8_62_w, brK_true, brK_false, ne_eq, Nat.reduceEqDiff, Nat.reduceAdd, not_false_eq_true, Nat.one_ne_zero, Bool.false_eq_true]))
    exact hK false ⟨fun e => (by cases e), fun hh => absurd hh.kp (by omega)⟩
  obtain ⟨q, rfl⟩ := Int.eq_ofNat_of_zero_le (show 0 ≤ k by omega)
  repeat' (first | done | with_reducible (first | refine y1 ?_ (by omega) | refine y2 ?_ (by omega) | refine y3 (fun _ => ?_) (fun _ => ?_) | refine y4 ?_ (by omega) (by omega) | refine y5 ?_ (by omega) | refine y6 ?_ (by with_unfolding_all rfl) | refine y7 ?_ (by with_unfolding_all rfl) | refine y8 ?_ (by with_unfolding_all rfl) | refine y9 ?_ (by with_unfolding_all rfl) | refine ya ?_ (by with_unfolding_all rfl)) | (simp -dsimp only [↓cw_skip, ↓cw_ops, ↓cw_seq, ↓cw_block, ↓cw_cond, ↓seqK_normal, ↓getK_same, ↓getK_ne, ↓evK_tmp, ↓evK_int, ↓evK_bool, ↓condV_var, ↓gdV_var, ↓opsW_nil, ↓opsW_d, ↓opsW_gd, ↓opW_move, ↓opW_assign, ↓opW_pick, ↓opW_bin, ↓bin_lss, ↓setAll_cons, ↓setAll_nil, ↓s8_50_w, ↓s8_51_w, ↓r8_52_w, ↓s8_53_w, ↓s8_54_w, ↓s8_57_w, ↓r8_58_w, ↓s8_59_w, ↓s8_60_w, ↓r8_61_w, ↓s8_62_w, brK_true, brK_false, ne_eq, Nat.reduceEqDiff, Nat.reduceAdd, not_false_eq_true, Nat.one_ne_zero, Bool.false_eq_true]))
  refine cw_loopI (fun n fr h' => h = h' ∧ ∃ i : Nat, i ≤ l.length ∧ n = l.length - i ∧ fr.get 7 = some (.int .i64 i) ∧ ∀ j, j < i → winOK (win l j q) ps) l.length ?_ (by omega) ?_
  · exact ⟨rfl, 0, by omega, by omega, by simp [T.get_set], fun i h => by omega⟩
  rintro n fr h' ⟨rfl, i, hi, rfl, g7, hok⟩ hag
  have e7 := getK_of g7
  have a0 := getK_eq (hag 0 rfl)
  have a1 := getK_eq (hag 1 rfl)
  have a2 := getK_eq (hag 2 rfl)
  have ws : IntKind.wrap .i64 ((l.length : Int) - (i : Int)) = (l.length : Int) - (i : Int) := wrap_i64 (by omega) (by omega)
  by_cases hlt : (q : Int) ≤ (l.length : Int) - (i : Int)
  · have wa : IntKind.wrap .i64 ((i : Int) + (q : Int)) = ((i + q : Nat) : Int) := by rw [wrap_i64 (by omega) (by omega)]; omega
    repeat' (first | done | with_reducible (first | refine y1 ?_ (by omega) | refine y2 ?_ (by omega) | refine y3 (fun _ => ?_) (fun _ => ?_) | refine y4 ?_ (by omega) (by omega) | refine y5 ?_ (by omega) | refine y6 ?_ (by with_unfolding_all rfl) | refine y7 ?_ (by with_unfolding_all rfl) | refine y8 ?_ (by with_unfolding_all rfl) | refine y9 ?_ (by with_unfolding_all rfl) | refine ya ?_ (by with_unfolding_all rfl)) | (simp -dsimp only [↓cw_skip, ↓cw_ops, ↓cw_seq, ↓cw_block, ↓cw_cond, ↓seqK_normal, ↓getK_same, ↓getK_ne, ↓evK_tmp, ↓condV_var, ↓opsW_nil, ↓opsW_d, ↓opW_move, ↓opW_bin, ↓bin_add, ↓bin_sub, ↓bin_geq, ↓lenS_some, ↓opW_slice, ↓evo_none, ↓evo_some, ↓len_26, ↓r8_43_w, ↓s8_44_w, ↓s8_45_w, ↓s8_46_w, ↓r8_47_w, ↓s8_48_w, ↓s8_49_w, brK_true, ne_eq, Nat.reduceEqDiff, not_false_eq_true, ↓e7, ↓a1, ↓a2, ws, wa]))
    refine hs i (i + q) _ (by omega) (by omega) fun c' => ?_
    rw [show i + q - i = q by omega]
    have hw := win_len (l := l) (i := i) (k := q) (by omega)
    have rw_ := row_win ra (i := i) (k := q) (by omega)
    have bad : ¬ winOK (win l i q) ps → K (.bool false) h := fun hb => hK false ⟨fun e => (by cases e), fun hh => absurd (hh.ok i (by simpa using (by omega : i + q ≤ l.length))) (by simpa using hb)⟩
    have good : winOK (win l i q) ps → ∀ j, j < i + 1 → winOK (win l j q) ps := fun hh j hj => by
      by_cases hj' : j < i
      · exact hok j hj'
      · have : j = i := by omega
        subst this; exact hh
    clear hK hok
    generalize win l i q = W at hw rw_ bad good
    subst hw
    repeat' (first | done | with_reducible (first | refine y1 ?_ (by omega) | refine y2 ?_ (by omega) | refine y3 (fun _ => ?_) (fun _ => ?_) | refine y4 ?_ (by omega) (by omega) | refine y5 ?_ (by omega) | refine y6 ?_ (by with_unfolding_all rfl) | refine y7 ?_ (by with_unfolding_all rfl) | refine y8 ?_ (by with_unfolding_all rfl) | refine y9 ?_ (by with_unfolding_all rfl) | refine ya ?_ (by with_unfolding_all rfl)) | (simp -dsimp only [↓cw_ops, ↓cw_seq, ↓seqK_normal, ↓getK_same, ↓evK_tmp, ↓evK_int, ↓opsW_nil, ↓opsW_d, ↓opW_move, ↓opW_assign, ↓evs_nil, ↓evs_cons, ↓opW_call, ↓r8_40_w, ↓s8_41_w, ↓s8_42_w]))
    refine has_ret (by omega) hB rw_ ?_
    cases ht : hasL W (-1) 0 with
    | false =>
      repeat' (first | done | with_reducible (first | refine y1 ?_ (by omega) | refine y2 ?_ (by omega) | refine y3 (fun _ => ?_) (fun _ => ?_) | refine y4 ?_ (by omega) (by omega) | refine y5 ?_ (by omega) | refine y6 ?_ (by with_unfolding_all rfl) | refine y7 ?_ (by with_unfolding_all rfl) | refine y8 ?_ (by with_unfolding_all rfl) | refine y9 ?_ (by with_unfolding_all rfl) | refine ya ?_ (by with_unfolding_all rfl)) | (simp -dsimp only [↓cw_ops, ↓cw_seq, ↓cw_ret, ↓cw_cond, ↓seqK_normal, ↓seqK_ret, ↓blockK_ret, ↓loopK_ret, ↓getK_same, ↓evK_tmp, ↓evK_bool, ↓condV_var, ↓opsW_nil, ↓opsW_d, ↓opW_assign, ↓resK_one, ↓opW_un, ↓un_not, ↓r8_37_w, ↓s8_38_w, ↓s8_39_w, brK_true, Bool.not_false]))
      exact bad fun hh => absurd (ht.symm.trans hh.t) (by simp)
    | true =>
      repeat' (first | done | with_reducible (first | refine y1 ?_ (by omega) | refine y2 ?_ (by omega) | refine y3 (fun _ => ?_) (fun _ => ?_) | refine y4 ?_ (by omega) (by omega) | refine y5 ?_ (by omega) | refine y6 ?_ (by with_unfolding_all rfl) | refine y7 ?_ (by with_unfolding_all rfl) | refine y8 ?_ (by with_unfolding_all rfl) | refine y9 ?_ (by with_unfolding_all rfl) | refine ya ?_ (by with_unfolding_all rfl)) | (simp -dsimp only [↓cw_skip, ↓cw_ops, ↓cw_seq, ↓cw_block, ↓cw_cond, ↓seqK_normal, ↓getK_same, ↓evK_tmp, ↓evK_int, ↓condV_var, ↓opsW_nil, ↓opsW_d, ↓opW_assign, ↓opW_un, ↓un_not, ↓s8_33_w, ↓s8_34_w, ↓r8_35_w, ↓s8_36_w, ↓s8_39_w, brK_false, Bool.false_eq_true,  Bool.not_true]))
      refine cw_loopI (fun n fr' h' => h = h' ∧ ∃ p : Nat, p ≤ ps ∧ n = ps - p ∧ fr'.get 9 = some (.int .i64 p) ∧ (0 < p → ps = 1 → hasL W 0 (-1) = true) ∧ ∀ p', p' < p → rowOK W ps p') ps ?_ (by omega) ?_
      · exact ⟨rfl, 0, by omega, by omega, by simp [T.get_set], fun h => by omega, fun i h => by omega⟩
      rintro n fr2 h' ⟨rfl, p, hp, rfl, g9, hone, hrows⟩ hag2
      have e9 := getK_of g9
      have b0 := getK_eq (hag2 0 rfl)
      have b1 := getK_eq (hag2 1 rfl)
      have b2 := getK_eq (hag2 2 rfl)
      have b7 := getK_eq (hag2 7 rfl)
      have b8 := getK_eq (hag2 8 rfl)
      by_cases hpl : p < ps
      · have c0 : fr2.get 0 = some (.int .i64 ps) := (hag2 0 rfl).trans (by simp only [T.get_set]; simpa [setAll, T.get_set] using hag 0 rfl)
        have c8 : fr2.get 8 = some (.slice (a.map (·.add (i * 4))) W.length c') := (hag2 8 rfl).trans (by simp [T.get_set])
        have fin : ∀ (fr3 fr' : Fr), (∀ t, t < 10 → fr'.get t = fr3.get t) → fr3.get 9 = some (.int .i64 p) → fr'.get 9 = some (.int .i64 p) := fun _ _ h1 h2 => (h1 9 (by decide)).trans h2
        have tail : (ps = 1 → hasL W 0 (-1) = true) → rowOK W ps p → ∃ m, m < ps - p ∧ ∃ p_1 : Nat, p_1 ≤ ps ∧ m = ps - p_1 ∧ ((p + 1 : Nat) : Int) = (p_1 : Int) ∧ (0 < p_1 → ps = 1 → hasL W 0 (-1) = true) ∧ ∀ p', p' < p_1 → rowOK W ps p' := fun h1 h2 => ⟨ps - (p + 1), by omega, p + 1, by omega, rfl, rfl, fun _ => h1, fun p' hp' => by
          by_cases hp2 : p' < p
          · exact hrows p' hp2
          · have : p' = p := by omega
            subst this; exact h2⟩
        by_cases h1 : ps = 1
        · repeat' (first | done | with_reducible (first | refine y1 ?_ (by omega) | refine y2 ?_ (by omega) | refine y3 (fun _ => ?_) (fun _ => ?_) | refine y4 ?_ (by omega) (by omega) | refine y5 ?_ (by omega) | refine y6 ?_ (by with_unfolding_all rfl) | refine y7 ?_ (by with_unfolding_all rfl) | refine y8 ?_ (by with_unfolding_all rfl) | refine y9 ?_ (by with_unfolding_all rfl) | refine ya ?_ (by with_unfolding_all rfl)) | (simp -dsimp only [↓cw_skip, ↓cw_ops, ↓cw_seq, ↓cw_block, ↓cw_cond, ↓seqK_normal, ↓getK_same, ↓getK_ne, ↓evK_tmp, ↓evK_int, ↓condV_var, ↓gdV_var, ↓opsW_nil, ↓opsW_d, ↓opsW_gd, ↓opW_move, ↓opW_bin, ↓bin_eql, ↓bin_lss, ↓evs_nil, ↓evs_cons, ↓opW_call, ↓r8_25_w, ↓s8_26_w, ↓s8_27_w, ↓s8_28_w, ↓s8_29_w, ↓r8_30_w, ↓s8_31_w, ↓s8_32_w, brK_true, ne_eq, Nat.reduceEqDiff, not_false_eq_true, Nat.one_ne_zero, ↓e9, ↓a0, ↓b0, ↓b8]))
          refine has_ret (by omega) hB rw_ ?_
          cases ho : hasL W 0 (-1) with
          | false =>
            repeat' (first | done | with_reducible (first | refine y1 ?_ (by omega) | refine y2 ?_ (by omega) | refine y3 (fun _ => ?_) (fun _ => ?_) | refine y4 ?_ (by omega) (by omega) | refine y5 ?_ (by omega) | refine y6 ?_ (by with_unfolding_all rfl) | refine y7 ?_ (by with_unfolding_all rfl) | refine y8 ?_ (by with_unfolding_all rfl) | refine y9 ?_ (by with_unfolding_all rfl) | refine ya ?_ (by with_unfolding_all rfl)) | (simp -dsimp only [↓cw_ops, ↓cw_seq, ↓cw_ret, ↓cw_cond, ↓seqK_normal, ↓seqK_ret, ↓blockK_ret, ↓loopK_ret, ↓getK_same, ↓getK_ne, ↓evK_tmp, ↓evK_bool, ↓condV_var, ↓gdV_var, ↓opsW_nil, ↓opsW_d, ↓opsW_gd, ↓opW_assign, ↓opW_pick, ↓resK_one, ↓opW_un, ↓un_not, ↓r8_22_w, ↓s8_23_w, ↓s8_24_w, brK_true, ne_eq, Nat.reduceEqDiff, not_false_eq_true, Bool.not_false]))
            exact bad fun hh => absurd (ho.symm.trans (hh.one h1)) (by simp)
          | true =>
            repeat' (first | done | with_reducible (first | refine y1 ?_ (by omega) | refine y2 ?_ (by omega) | refine y3 (fun _ => ?_) (fun _ => ?_) | refine y4 ?_ (by omega) (by omega) | refine y5 ?_ (by omega) | refine y6 ?_ (by with_unfolding_all rfl) | refine y7 ?_ (by with_unfolding_all rfl) | refine y8 ?_ (by with_unfolding_all rfl) | refine y9 ?_ (by with_unfolding_all rfl) | refine ya ?_ (by with_unfolding_all rfl)) | (simp -dsimp only [↓cw_skip, ↓cw_ops, ↓cw_seq, ↓cw_cond, ↓seqK_normal, ↓getK_same, ↓getK_ne, ↓evK_tmp, ↓evK_int, ↓condV_var, ↓gdV_var, ↓opsW_nil, ↓opsW_d, ↓opsW_gd, ↓opW_assign, ↓opW_pick, ↓opW_un, ↓un_not, ↓r8_20_w, ↓s8_21_w, ↓s8_24_w, brK_true, brK_false, ne_eq, Nat.reduceEqDiff, not_false_eq_true, Bool.false_eq_true,  Bool.not_true]))
            refine refV (W := W) (ps := ps) (p := p) (by omega) hB rw_ hp2 (by simpa [T.get_set] using c0) (by simpa [T.get_set] using c8) (by simpa [T.get_set] using g9) (by simp [T.get_set]) (fun fr' hf hr => ?_) (fun fr' h6 hr => ?_)
            · have k9 := getK_of (fin _ fr' hf (by simpa [T.get_set] using g9))
              obtain ⟨m, h1, h2, h3, h4, h5, h6, h7⟩ := tail (fun _ => ho) hr
              repeat' (first | done | with_reducible (first | refine y1 ?_ (by omega) | refine y2 ?_ (by omega) | refine y3 (fun _ => ?_) (fun _ => ?_) | refine y4 ?_ (by omega) (by omega) | refine y5 ?_ (by omega) | refine y6 ?_ (by with_unfolding_all rfl) | refine y7 ?_ (by with_unfolding_all rfl) | refine y8 ?_ (by with_unfolding_all rfl) | refine y9 ?_ (by with_unfolding_all rfl) | refine ya ?_ (by with_unfolding_all rfl)) | (simp -dsimp only [↓cw_ops, ↓seqK_normal, ↓blockK_normal, ↓loopK_normal, ↓getK_same, ↓evK_tmp, ↓evK_int, ↓opsW_nil, ↓opsW_d, ↓opW_move, ↓opW_assign, ↓opW_bin, ↓bin_add, ↓r8_4_w, ↓s8_5_w, true_and, ↓k9]))
              exact ⟨m, h1, h2, h3, h4, by rw [← h5]; simp [T.get_set, wrap_succ (show p ≤ 4611686018427387904 by omega)], by first | exact h6 | (intros; trivial), h7⟩
            · have k6 := getK_of h6
              repeat' (first | done | with_reducible (first | refine y1 ?_ (by omega) | refine y2 ?_ (by omega) | refine y3 (fun _ => ?_) (fun _ => ?_) | refine y4 ?_ (by omega) (by omega) | refine y5 ?_ (by omega) | refine y6 ?_ (by with_unfolding_all rfl) | refine y7 ?_ (by with_unfolding_all rfl) | refine y8 ?_ (by with_unfolding_all rfl) | refine y9 ?_ (by with_unfolding_all rfl) | refine ya ?_ (by with_unfolding_all rfl)) | (simp -dsimp only [↓seqK_ret, ↓blockK_ret, ↓loopK_ret, ↓resK_one, ↓k6]))
              exact bad fun hh => hr (hh.all p hpl)
        · repeat' (first | done | with_reducible (first | refine y1 ?_ (by omega) | refine y2 ?_ (by omega) | refine y3 (fun _ => ?_) (fun _ => ?_) | refine y4 ?_ (by omega) (by omega) | refine y5 ?_ (by omega) | refine y6 ?_ (by with_unfolding_all rfl) | refine y7 ?_ (by with_unfolding_all rfl) | refine y8 ?_ (by with_unfolding_all rfl) | refine y9 ?_ (by with_unfolding_all rfl) | refine ya ?_ (by with_unfolding_all rfl)) | (simp -dsimp only [↓cw_skip, ↓cw_ops, ↓cw_seq, ↓cw_block, ↓cw_cond, ↓seqK_normal, ↓getK_same, ↓getK_ne, ↓evK_tmp, ↓evK_int, ↓evK_bool, ↓condV_var, ↓gdV_var, ↓opsW_nil, ↓opsW_d, ↓opsW_gd, ↓opW_move, ↓opW_assign, ↓opW_pick, ↓opW_bin, ↓bin_eql, ↓bin_lss, ↓r8_20_w, ↓s8_21_w, ↓s8_24_w, ↓r8_25_w, ↓s8_26_w, ↓s8_27_w, ↓s8_28_w, ↓s8_29_w, ↓r8_30_w, ↓s8_31_w, ↓s8_32_w, brK_true, brK_false, ne_eq, Nat.reduceEqDiff, not_false_eq_true, Nat.one_ne_zero, Bool.false_eq_true,  ↓e9, ↓a0, ↓b0]))
          refine refV (W := W) (ps := ps) (p := p) (by omega) hB rw_ hp2 (by simpa [T.get_set] using c0) (by simpa [T.get_set] using c8) (by simpa [T.get_set] using g9) (by simp [T.get_set]) (fun fr' hf hr => ?_) (fun fr' h6 hr => ?_)
          · have k9 := getK_of (fin _ fr' hf (by simpa [T.get_set] using g9))
            obtain ⟨m, h1', h2, h3, h4, h5, h6, h7⟩ := tail (fun hh => absurd hh h1) hr
            repeat' (first | done | with_reducible (first | refine y1 ?_ (by omega) | refine y2 ?_ (by omega) | refine y3 (fun _ => ?_) (fun _ => ?_) | refine y4 ?_ (by omega) (by omega) | refine y5 ?_ (by omega) | refine y6 ?_ (by with_unfolding_all rfl) | refine y7 ?_ (by with_unfolding_all rfl) | refine y8 ?_ (by with_unfolding_all rfl) | refine y9 ?_ (by with_unfolding_all rfl) | refine ya ?_ (by with_unfolding_all rfl)) | (simp -dsimp only [↓cw_ops, ↓seqK_normal, ↓blockK_normal, ↓loopK_normal, ↓getK_same, ↓evK_tmp, ↓evK_int, ↓opsW_nil, ↓opsW_d, ↓opW_move, ↓opW_assign, ↓opW_bin, ↓bin_add, ↓r8_4_w, ↓s8_5_w, true_and, ↓k9]))
            exact ⟨m, h1', h2, h3, h4, by rw [← h5]; simp [T.get_set, wrap_succ (show p ≤ 4611686018427387904 by omega)], h6, h7⟩
          · have k6 := getK_of h6
            repeat' (first | done | with_reducible (first | refine y1 ?_ (by omega) | refine y2 ?_ (by omega) | refine y3 (fun _ => ?_) (fun _ => ?_) | refine y4 ?_ (by omega) (by omega) | refine y5 ?_ (by omega) | refine y6 ?_ (by with_unfolding_all rfl) | refine y7 ?_ (by with_unfolding_all rfl) | refine y8 ?_ (by with_unfolding_all rfl) | refine y9 ?_ (by with_unfolding_all rfl) | refine ya ?_ (by with_unfolding_all rfl)) | (simp -dsimp only [↓seqK_ret, ↓blockK_ret, ↓loopK_ret, ↓resK_one, ↓k6]))
            exact bad fun hh => hr (hh.all p hpl)
      · have e : p = ps := by omega
        subst e
        repeat' (first | done | with_reducible (first | refine y1 ?_ (by omega) | refine y2 ?_ (by omega) | refine y3 (fun _ => ?_) (fun _ => ?_) | refine y4 ?_ (by omega) (by omega) | refine y5 ?_ (by omega) | refine y6 ?_ (by with_unfolding_all rfl) | refine y7 ?_ (by with_unfolding_all rfl) | refine y8 ?_ (by with_unfolding_all rfl) | refine y9 ?_ (by with_unfolding_all rfl) | refine ya ?_ (by with_unfolding_all rfl)) | (simp -dsimp only [↓cw_ops, ↓cw_seq, ↓cw_exit, ↓cw_cond, ↓seqK_normal, ↓seqK_exit, ↓blockK_normal, ↓blockK_same, ↓loopK_normal, ↓loopK_exit, ↓getK_same, ↓getK_ne, ↓evK_tmp, ↓evK_int, ↓condV_var, ↓opsW_nil, ↓opsW_d, ↓opW_move, ↓opW_assign, ↓opW_bin, ↓bin_add, ↓bin_lss, ↓r8_2_w, ↓s8_3_w, ↓s8_29_w, ↓r8_30_w, ↓s8_31_w, ↓s8_32_w, brK_false, true_and, ne_eq, Nat.reduceEqDiff, not_false_eq_true, Nat.one_ne_zero, Bool.false_eq_true,  ↓e7, ↓e9, ↓a0, ↓b0, ↓b7]))
        exact ⟨l.length - (i + 1), by omega, i + 1, by omega, rfl, by simp [T.get_set, wrap_succ (show i ≤ 4611686018427387904 by omega)], good ⟨ht, hone (by omega), hrows⟩⟩
  · repeat' (first | done | with_reducible (first | refine y1 ?_ (by omega) | refine y2 ?_ (by omega) | refine y3 (fun _ => ?_) (fun _ => ?_) | refine y4 ?_ (by omega) (by omega) | refine y5 ?_ (by omega) | refine y6 ?_ (by with_unfolding_all rfl) | refine y7 ?_ (by with_unfolding_all rfl) | refine y8 ?_ (by with_unfolding_all rfl) | refine y9 ?_ (by with_unfolding_all rfl) | refine ya ?_ (by with_unfolding_all rfl)) | (simp -dsimp only [↓cw_ops, ↓cw_seq, ↓cw_exit, ↓cw_ret, ↓cw_cond, ↓seqK_normal, ↓seqK_exit, ↓blockK_same, ↓loopK_exit, ↓getK_same, ↓getK_ne, ↓evK_tmp, ↓evK_bool, ↓condV_var, ↓opsW_nil, ↓opsW_d, ↓opW_move, ↓opW_assign, ↓opW_bin, ↓bin_sub, ↓bin_geq, ↓lenS_some, ↓resK_one, ↓len_26, ↓r8_0_w, ↓s8_1_w, ↓s8_46_w, ↓r8_47_w, ↓s8_48_w, ↓s8_49_w, brK_false, ne_eq, Nat.reduceEqDiff, not_false_eq_true, Bool.false_eq_true,  ↓e7, ↓a1, ↓a2, ws]))
    refine hK true ⟨fun _ => ⟨by omega, fun j hj => hok j (by simp at hj; omega)⟩, fun _ => rfl⟩
end Go.Proofs.Ytdjnedamphifcaa

namespace Go.Proofs.Ytdjnedamphifcaa
open Go.Ev
set_option maxRecDepth 100000
set_option maxHeartbeats 400000
/-! the map of who was started where -/
def kv2 (p : Int × Int) : Value := .agg ⟨[.int .i64 p.1, .int .i64 p.2]⟩
def yesV : Value := .agg ⟨[.bool true]⟩
def noV : Value := .agg ⟨[.bool false]⟩
theorem und3 : und env 3 = some (.int .i64) := by kernel_rfl
theorem und53 : und env 53 = some (.map 55 54) := by kernel_rfl
theorem und55 : und env 55 = some (.array 2 3) := by kernel_rfl
theorem zero54 : zero env 54 = some noV := by kernel_rfl
theorem eq55 : ∀ {a b c d : Int}, aeq env 100 55 (.agg ⟨[.int .i64 a, .int .i64 b]⟩) (.agg ⟨[.int .i64 c, .int .i64 d]⟩) = some (decide (a = c ∧ b = d)) := by
  intro a b c d
  have h1 : aeq env 100 55 (.agg ⟨[.int .i64 a, .int .i64 b]⟩) (.agg ⟨[.int .i64 c, .int .i64 d]⟩) = bindB (some (a == c)) (bindB (some (b == d)) (some true)) := by kernel_rfl
  rw [h1, bindB_some, bindB_some, Bool.and_true, beqI, beqI, ← Bool.decide_and]
theorem chk55 : ∀ {a b : Int}, acheck env 20 55 (.agg ⟨[.int .i64 a, .int .i64 b]⟩) = true := by
  intro a b
  kernel_rfl
theorem key2 : KeyOK env 55 kv2 where
  und := ⟨_, und55, fun a b => by
    obtain ⟨a1, a2⟩ := a
    obtain ⟨b1, b2⟩ := b
    rw [show keyOk (.array 2 3) = false from rfl, cond_false]
    simp only [kv2, eq55, Prod.mk.injEq]⟩
  chk := fun a => chk55
  same := fun a => by simp [sameV, sameV.go, kv2]
def DM (D : List (Int × Int)) (p : Int × Int) : Option Value := if p ∈ D then some yesV else none
theorem DM_get (D : List (Int × Int)) (p : Int × Int) : (DM D p).getD noV = .agg ⟨[.bool (decide (p ∈ D))]⟩ := by
  unfold DM
  by_cases h : p ∈ D
  · rw [if_pos h, decide_eq_true h]; rfl
  · rw [if_neg h, decide_eq_false h]; rfl
theorem DM_put (D : List (Int × Int)) (p k : Int × Int) : (if k = p then some yesV else DM D k) = DM (D ++ [p]) k := by
  unfold DM
  by_cases h : k = p
  · simp [h]
  · simp [h]
def keyOf (ps : Nat) (x : ActD) : Int × Int := if ps = 1 then (x.p, 0) else (x.p, x.victim)
def keys (ps : Nat) (W : List ActD) : List (Int × Int) := (W.filter fun x => decide (x.kind = 1)).map (keyOf ps)
theorem keys_succ {ps : Nat} {W : List ActD} {k : Nat} (h : k < W.length) : keys ps (W.take (k + 1)) = if W[k].kind = 1 then keys ps (W.take k) ++ [keyOf ps W[k]] else keys ps (W.take k) := by
  unfold keys
  rw [List.take_succ_eq_append_getElem h, List.filter_append]
  by_cases hk : W[k].kind = 1 <;> simp [hk]
theorem tick_succ {W : List ActD} {k : Nat} (h : k < W.length) : hasL (W.take (k + 1)) (-1) 0 = (hasL (W.take k) (-1) 0 || decide (W[k].kind = 2)) := by
  unfold hasL
  rw [List.take_succ_eq_append_getElem h, List.any_append]
  congr 1
  simp [hit]
theorem mem_keys {ps : Nat} {W : List ActD} {p v : Nat} (hp : ps ≠ 1) : decide (((p : Int), (v : Int)) ∈ keys ps W) = hasL W p v := by
  have : (((p : Int), (v : Int)) ∈ keys ps W) ↔ hasL W p v = true := by
    simp only [keys, keyOf, if_neg hp, List.mem_map, List.mem_filter, decide_eq_true_eq, hasL, List.any_eq_true, Prod.mk.injEq]
    constructor
    · rintro ⟨x, ⟨h1, h2⟩, h3, h4⟩
      exact ⟨x, h1, by unfold hit; omega⟩
    · rintro ⟨x, h1, h2⟩
      unfold hit at h2
      exact ⟨x, ⟨h1, by omega⟩, by omega, by omega⟩
  cases hh : hasL W p v with
  | true => exact decide_eq_true (this.2 hh)
  | false => exact decide_eq_false fun hm => by rw [this.1 hm] at hh; cases hh
theorem mem_keys1 {W : List ActD} : decide (((0 : Int), (0 : Int)) ∈ keys 1 W) = hasL W 0 (-1) := by
  have : (((0 : Int), (0 : Int)) ∈ keys 1 W) ↔ hasL W 0 (-1) = true := by
    simp only [keys, keyOf, if_true, List.mem_map, List.mem_filter, decide_eq_true_eq, hasL, List.any_eq_true, Prod.mk.injEq]
    constructor
    · rintro ⟨x, ⟨h1, h2⟩, h3, h4⟩
      exact ⟨x, h1, by unfold hit; omega⟩
    · rintro ⟨x, h1, h2⟩
      unfold hit at h2
      exact ⟨x, ⟨h1, by omega⟩, by omega, trivial⟩
  cases hh : hasL W 0 (-1) with
  | true => exact decide_eq_true (this.2 hh)
  | false => exact decide_eq_false fun hm => by rw [this.1 hm] at hh; cases hh
theorem mapPhase {B r ps : Nat} {fr : Fr} {h : Heap} {Kr : Ex → Fr → Heap → Prop} {W : List ActD} {a : Option Addr} {c : Nat} (hl : W.length ≤ 100000) (hB : B ≤ r) (ra : RowAt B h a 4 (W.map ActD.cells)) (hm : MapAt kv2 h r (DM []))
    (g0 : fr.get 0 = some (.int .i64 ps)) (g8 : fr.get 8 = some (.map (some r))) (g9 : fr.get 9 = some (.bool false)) (g34 : fr.get 34 = some (.slice a W.length c)) (g35 : fr.get 35 = some (.int .i64 W.length)) (g36 : fr.get 36 = some (.int .i64 (0 : Int)))
    (hK : ∀ fr' h', (∀ t, t < 9 → fr'.get t = fr.get t) → fr'.get 9 = some (.bool (hasL W (-1) 0)) → MapAt kv2 h' r (DM (keys ps W)) → ExtB r h h' → Kr .normal fr' h') : s7_77.wp env 100 none fr h Kr := by
  repeat' (first | done | with_reducible (first | refine y1 ?_ (by omega) | refine y2 ?_ (by omega) | refine y3 (fun _ => ?_) (fun _ => ?_) | refine y4 ?_ (by omega) (by omega) | refine y5 ?_ (by omega) | refine y6 ?_ (by with_unfolding_all rfl) | refine y7 ?_ (by with_unfolding_all rfl) | refine y8 ?_ (by with_unfolding_all rfl) | refine y9 ?_ (by with_unfolding_all rfl) | refine ya ?_ (by with_unfolding_all rfl)) | (simp -dsimp only [↓cw_block, ↓s7_76_w, ↓s7_77_w]))
  refine cw_loopI (fun n fr' h' => ∃ k : Nat, k ≤ W.length ∧ n = W.length - k ∧ fr'.get 36 = some (.int .i64 k) ∧ fr'.get 9 = some (.bool (hasL (W.take k) (-1) 0)) ∧ (∀ t, t < 9 → fr'.get t = fr.get t) ∧ MapAt kv2 h' r (DM (keys ps (W.take k))) ∧ ExtB r h h') W.length ?_ (by omega) ?_
  · exact ⟨0, by omega, by omega, by simpa using g36, by simpa [hasL] using g9, fun _ _ => rfl, by simpa [keys] using hm, ExtB.refl _ _⟩
  rintro n fr2 h' ⟨k, hk, rfl, f36, f9, hfr, hm, X⟩ hag
  have e36 := getK_of f36
  have e9 := getK_of f9
  have e0 := getK_of ((hfr 0 (by decide)).trans g0)
  have e8 := getK_of ((hfr 8 (by decide)).trans g8)
  have e34 := getK_of ((hag 34 rfl).trans g34)
  have e35 := getK_of ((hag 35 rfl).trans g35)
  have hrn := hm.1
  by_cases hlt : k < W.length
  · obtain ⟨b0, off, hra, hb, dd⟩ := (ra.ext (X.mono hB)) k (by simpa using hlt)
    simp only [List.getElem_map, ActD.cells] at dd
    subst hra
    have ks := keys_succ (ps := ps) hlt
    have ts := tick_succ hlt
    have hb' : b0 < h'.n := by omega
    generalize W[k] = x at dd ks ts
    have X1 : ExtB h'.n h' (newBlk h' (.cells [.int .i64 x.kind, .int .i64 x.p, .int .i64 x.victim, .int .i64 x.pick] 52 true)) := ExtB.new _ (Nat.le_refl _)
    have m1 : MapAt kv2 (newBlk h' (.cells [.int .i64 x.kind, .int .i64 x.p, .int .i64 x.victim, .int .i64 x.pick] 52 true)) r (DM (keys ps (W.take k))) := hm.ext X1.n (X1.get _ hrn)
    by_cases h2 : x.kind = 2
    · rw [if_neg (by omega)] at ks
      rw [decide_eq_true h2, Bool.or_true] at ts
      repeat' (first | done | with_reducible (first | refine y1 ?_ (by omega) | refine y2 ?_ (by omega) | refine y3 (fun _ => ?_) (fun _ => ?_) | refine y4 ?_ (by omega) (by omega) | refine y5 ?_ (by omega) | refine y6 ?_ (by with_unfolding_all rfl) | refine y7 ?_ (by with_unfolding_all rfl) | refine y8 ?_ (by with_unfolding_all rfl) | refine y9 ?_ (by with_unfolding_all rfl) | refine ya ?_ (by with_unfolding_all rfl)) | (simp -dsimp only [↓cw_skip, ↓cw_ops, ↓cw_seq, ↓cw_block, ↓cw_cond, ↓seqK_normal, ↓blockK_normal, ↓loopK_normal, ↓getK_same, ↓getK_ne, ↓evK_tmp, ↓evK_int, ↓evK_bool, ↓condV_var, ↓opsW_nil, ↓opsW_d, ↓opsW_n, ↓opW_move, ↓opW_assign, ↓opW_bin, ↓bin_add, ↓bin_eql, ↓bin_lss, ↓ld1_some, ↓ldN_some, ↓fldA_some, ↓idxS_some, ↓ia_26, ↓ld_52, ↓al_52, ↓st_52, ↓fa_52_0, ↓ld_50, ↓r7_51_w, ↓s7_52_w, ↓r7_53_w, ↓s7_54_w, ↓s7_65_w, ↓r7_66_w, ↓s7_67_w, ↓s7_68_w, ↓r7_69_w, ↓s7_70_w, ↓s7_71_w, ↓s7_72_w, ↓s7_73_w, ↓r7_74_w, ↓s7_75_w, cellAt_newE, List.getElem?_cons_zero, onV_some', brK_true, ne_eq, Nat.reduceEqDiff, not_false_eq_true, Nat.add_zero, Addr.add_lit, Int.toNat_natCast, ↓e36, ↓e34, ↓e35, dd]))
      refine ⟨W.length - (k + 1), by omega, k + 1, by omega, rfl, by simp [T.get_set, wrap_succ (show k ≤ 4611686018427387904 by omega)], by simp [T.get_set, ts], fun t ht => ?_, by rw [ks]; exact m1, X.trans (X1.mono (by omega))⟩
      rw [← hfr t ht]; simp only [T.get_set]; repeat' (first | rfl | (rw [if_neg (by omega)]))
    rw [decide_eq_false h2, Bool.or_false] at ts
    by_cases h1 : x.kind = 1
    · rw [if_pos h1] at ks
      by_cases hp : ps = 1
      · repeat' (first | done | with_reducible (first | refine y1 ?_ (by omega) | refine y2 ?_ (by omega) | refine y3 (fun _ => ?_) (fun _ => ?_) | refine y4 ?_ (by omega) (by omega) | refine y5 ?_ (by omega) | refine y6 ?_ (by with_unfolding_all rfl) | refine y7 ?_ (by with_unfolding_all rfl) | refine y8 ?_ (by with_unfolding_all rfl) | refine y9 ?_ (by with_unfolding_all rfl) | refine ya ?_ (by with_unfolding_all rfl)) | (simp -dsimp only [↓cw_skip, ↓cw_ops, ↓cw_seq, ↓cw_block, ↓cw_cond, ↓seqK_normal, ↓getK_same, ↓getK_ne, ↓evK_tmp, ↓evK_int, ↓evK_bool, ↓condV_var, ↓gdV_var, ↓opsW_nil, ↓opsW_d, ↓opsW_n, ↓opsW_gd, ↓opW_move, ↓opW_assign, ↓opW_pick, ↓opW_bin, ↓bin_eql, ↓bin_lss, ↓ld1_some, ↓ldN_some, ↓fldA_some, ↓idxS_some, ↓evp_nil, ↓evp_cons, ↓opW_mapUpdate, ↓ld_3, ↓ia_26, ↓ld_52, ↓al_52, ↓st_52, ↓fa_52_0, ↓ld_50, ↓fa_52_1, ↓bd_55, ↓bd_54, ↓r7_55_w, ↓s7_56_w, ↓s7_62_w, ↓r7_63_w, ↓s7_64_w, ↓s7_65_w, ↓r7_66_w, ↓s7_67_w, ↓s7_68_w, ↓r7_69_w, ↓s7_70_w, ↓s7_71_w, ↓s7_72_w, ↓s7_73_w, ↓r7_74_w, ↓s7_75_w, cellAt_newE, List.getElem?_cons_zero, List.getElem?_cons_succ, onV_some', brK_true, brK_false, ne_eq, Nat.reduceEqDiff, Nat.reduceAdd, not_false_eq_true, Nat.add_zero, Addr.add_lit, Int.toNat_natCast, Bool.false_eq_true,  ↓e36, ↓e0, ↓e8, ↓e34, ↓e35, dd]))
        refine upd_map (kv := kv2) (k := (x.p, 0)) m1 und53 key2 fun bb m2 => ?_
        have m3 := m2.congr (DM_put _ _)
        have X2 : ExtB r h' { newBlk h' (.cells [.int .i64 x.kind, .int .i64 x.p, .int .i64 x.victim, .int .i64 x.pick] 52 true) with b := (newBlk h' (.cells [.int .i64 x.kind, .int .i64 x.p, .int .i64 x.victim, .int .i64 x.pick] 52 true)).b.set r bb } := (X1.mono (by omega)).trans (ExtB.set _ (Nat.le_refl _))
        rw [keyOf, if_pos hp] at ks
        rw [← ks] at m3
        repeat' (first | done | with_reducible (first | refine y1 ?_ (by omega) | refine y2 ?_ (by omega) | refine y3 (fun _ => ?_) (fun _ => ?_) | refine y4 ?_ (by omega) (by omega) | refine y5 ?_ (by omega) | refine y6 ?_ (by with_unfolding_all rfl) | refine y7 ?_ (by with_unfolding_all rfl) | refine y8 ?_ (by with_unfolding_all rfl) | refine y9 ?_ (by with_unfolding_all rfl) | refine ya ?_ (by with_unfolding_all rfl)) | (simp -dsimp only [↓cw_ops, ↓seqK_normal, ↓blockK_normal, ↓loopK_normal, ↓getK_same, ↓getK_ne, ↓evK_tmp, ↓evK_int, ↓opsW_nil, ↓opsW_d, ↓opW_move, ↓opW_bin, ↓bin_add, ↓r7_51_w, ↓s7_52_w, newBlk_n, ne_eq, Nat.reduceEqDiff, Nat.reduceAdd, not_false_eq_true, Nat.add_zero, Addr.add_lit, Int.toNat_natCast, ↓e36]))
        refine ⟨W.length - (k + 1), by omega, k + 1, by omega, rfl, by simp [T.get_set, wrap_succ (show k ≤ 4611686018427387904 by omega)], by simpa [T.get_set, ts] using f9, fun t ht => ?_, m3, X.trans X2⟩
        rw [← hfr t ht]; simp only [T.get_set]; repeat' (first | rfl | (rw [if_neg (by omega)]))
      · repeat' (first | done | with_reducible (first | refine y1 ?_ (by omega) | refine y2 ?_ (by omega) | refine y3 (fun _ => ?_) (fun _ => ?_) | refine y4 ?_ (by omega) (by omega) | refine y5 ?_ (by omega) | refine y6 ?_ (by with_unfolding_all rfl) | refine y7 ?_ (by with_unfolding_all rfl) | refine y8 ?_ (by with_unfolding_all rfl) | refine y9 ?_ (by with_unfolding_all rfl) | refine ya ?_ (by with_unfolding_all rfl)) | (simp -dsimp only [↓cw_skip, ↓cw_ops, ↓cw_seq, ↓cw_block, ↓cw_cond, ↓seqK_normal, ↓getK_same, ↓getK_ne, ↓evK_tmp, ↓evK_int, ↓evK_bool, ↓condV_var, ↓gdV_var, ↓opsW_nil, ↓opsW_d, ↓opsW_n, ↓opsW_gd, ↓opW_move, ↓opW_assign, ↓opW_pick, ↓opW_bin, ↓bin_eql, ↓bin_lss, ↓ld1_some, ↓ldN_some, ↓fldA_some, ↓idxS_some, ↓evp_nil, ↓evp_cons, ↓opW_mapUpdate, ↓ld_3, ↓ia_26, ↓ld_52, ↓al_52, ↓st_52, ↓fa_52_0, ↓ld_50, ↓fa_52_1, ↓bd_55, ↓bd_54, ↓fa_52_2, ↓r7_57_w, ↓s7_58_w, ↓s7_59_w, ↓r7_60_w, ↓s7_61_w, ↓s7_62_w, ↓r7_63_w, ↓s7_64_w, ↓s7_65_w, ↓r7_66_w, ↓s7_67_w, ↓s7_68_w, ↓r7_69_w, ↓s7_70_w, ↓s7_71_w, ↓s7_72_w, ↓s7_73_w, ↓r7_74_w, ↓s7_75_w, cellAt_newE, List.getElem?_cons_zero, List.getElem?_cons_succ, onV_some', brK_true, brK_false, ne_eq, Nat.reduceEqDiff, Nat.reduceAdd, not_false_eq_true, Nat.add_zero, Addr.add_lit, Int.toNat_natCast, Bool.false_eq_true,  ↓e36, ↓e0, ↓e8, ↓e34, ↓e35, dd]))
        refine upd_map (kv := kv2) (k := (x.p, x.victim)) m1 und53 key2 fun bb m2 => ?_
        have m3 := m2.congr (DM_put _ _)
        have X2 : ExtB r h' { newBlk h' (.cells [.int .i64 x.kind, .int .i64 x.p, .int .i64 x.victim, .int .i64 x.pick] 52 true) with b := (newBlk h' (.cells [.int .i64 x.kind, .int .i64 x.p, .int .i64 x.victim, .int .i64 x.pick] 52 true)).b.set r bb } := (X1.mono (by omega)).trans (ExtB.set _ (Nat.le_refl _))
        rw [keyOf, if_neg hp] at ks
        rw [← ks] at m3
        repeat' (first | done | with_reducible (first | refine y1 ?_ (by omega) | refine y2 ?_ (by omega) | refine y3 (fun _ => ?_) (fun _ => ?_) | refine y4 ?_ (by omega) (by omega) | refine y5 ?_ (by omega) | refine y6 ?_ (by with_unfolding_all rfl) | refine y7 ?_ (by with_unfolding_all rfl) | refine y8 ?_ (by with_unfolding_all rfl) | refine y9 ?_ (by with_unfolding_all rfl) | refine ya ?_ (by with_unfolding_all rfl)) | (simp -dsimp only [↓cw_ops, ↓seqK_normal, ↓blockK_normal, ↓loopK_normal, ↓getK_same, ↓getK_ne, ↓evK_tmp, ↓evK_int, ↓opsW_nil, ↓opsW_d, ↓opW_move, ↓opW_bin, ↓bin_add, ↓r7_51_w, ↓s7_52_w, newBlk_n, ne_eq, Nat.reduceEqDiff, Nat.reduceAdd, not_false_eq_true, Nat.add_zero, Addr.add_lit, Int.toNat_natCast, ↓e36]))
        refine ⟨W.length - (k + 1), by omega, k + 1, by omega, rfl, by simp [T.get_set, wrap_succ (show k ≤ 4611686018427387904 by omega)], by simpa [T.get_set, ts] using f9, fun t ht => ?_, m3, X.trans X2⟩
        rw [← hfr t ht]; simp only [T.get_set]; repeat' (first | rfl | (rw [if_neg (by omega)]))
    · rw [if_neg h1] at ks
      repeat' (first | done | with_reducible (first | refine y1 ?_ (by omega) | refine y2 ?_ (by omega) | refine y3 (fun _ => ?_) (fun _ => ?_) | refine y4 ?_ (by omega) (by omega) | refine y5 ?_ (by omega) | refine y6 ?_ (by with_unfolding_all rfl) | refine y7 ?_ (by with_unfolding_all rfl) | refine y8 ?_ (by with_unfolding_all rfl) | refine y9 ?_ (by with_unfolding_all rfl) | refine ya ?_ (by with_unfolding_all rfl)) | (simp -dsimp only [↓cw_skip, ↓cw_ops, ↓cw_seq, ↓cw_block, ↓cw_cond, ↓seqK_normal, ↓blockK_normal, ↓loopK_normal, ↓getK_same, ↓getK_ne, ↓evK_tmp, ↓evK_int, ↓evK_bool, ↓condV_var, ↓gdV_var, ↓opsW_nil, ↓opsW_d, ↓opsW_n, ↓opsW_gd, ↓opW_move, ↓opW_assign, ↓opW_pick, ↓opW_bin, ↓bin_add, ↓bin_eql, ↓bin_lss, ↓ld1_some, ↓ldN_some, ↓fldA_some, ↓idxS_some, ↓ia_26, ↓ld_52, ↓al_52, ↓st_52, ↓fa_52_0, ↓ld_50, ↓r7_51_w, ↓s7_52_w, ↓s7_59_w, ↓r7_60_w, ↓s7_61_w, ↓s7_62_w, ↓r7_63_w, ↓s7_64_w, ↓s7_65_w, ↓r7_66_w, ↓s7_67_w, ↓s7_68_w, ↓r7_69_w, ↓s7_70_w, ↓s7_71_w, ↓s7_72_w, ↓s7_73_w, ↓r7_74_w, ↓s7_75_w, cellAt_newE, List.getElem?_cons_zero, onV_some', brK_true, brK_false, ne_eq, Nat.reduceEqDiff, not_false_eq_true, Nat.add_zero, Addr.add_lit, Int.toNat_natCast, Bool.false_eq_true,  ↓e36, ↓e34, ↓e35, dd]))
      refine ⟨W.length - (k + 1), by omega, k + 1, by omega, rfl, by simp [T.get_set, wrap_succ (show k ≤ 4611686018427387904 by omega)], by simpa [T.get_set, ts] using f9, fun t ht => ?_, by rw [ks]; exact m1, X.trans (X1.mono (by omega))⟩
      rw [← hfr t ht]; simp only [T.get_set]; repeat' (first | rfl | (rw [if_neg (by omega)]))
  · have e : k = W.length := by omega
    subst e
    rw [List.take_length] at f9 hm
    repeat' (first | done | with_reducible (first | refine y1 ?_ (by omega) | refine y2 ?_ (by omega) | refine y3 (fun _ => ?_) (fun _ => ?_) | refine y4 ?_ (by omega) (by omega) | refine y5 ?_ (by omega) | refine y6 ?_ (by with_unfolding_all rfl) | refine y7 ?_ (by with_unfolding_all rfl) | refine y8 ?_ (by with_unfolding_all rfl) | refine y9 ?_ (by with_unfolding_all rfl) | refine ya ?_ (by with_unfolding_all rfl)) | (simp -dsimp only [↓cw_ops, ↓cw_seq, ↓cw_exit, ↓cw_cond, ↓seqK_normal, ↓seqK_exit, ↓blockK_same, ↓loopK_exit, ↓getK_same, ↓evK_tmp, ↓condV_var, ↓opsW_nil, ↓opsW_d, ↓opW_bin, ↓bin_lss, ↓s7_72_w, ↓s7_73_w, ↓r7_74_w, ↓s7_75_w, brK_false, Bool.false_eq_true,  ↓e36, ↓e35]))
    refine hK _ h' (fun t ht => ?_) (by simpa [T.get_set] using f9) hm X
    rw [← hfr t ht]; simp only [T.get_set]; repeat' (first | rfl | (rw [if_neg (by omega)]))
end Go.Proofs.Ytdjnedamphifcaa

namespace Go.Proofs.Ytdjnedamphifcaa
open Go.Ev
set_option maxRecDepth 100000
set_option maxHeartbeats 400000
theorem vPhase {r ps p : Nat} {fr : Fr} {h : Heap} {Kr : Ex → Fr → Heap → Prop} {W : List ActD} (hps : ps ≤ 8) (h1 : ps ≠ 1) (hm : MapAt kv2 h r (DM (keys ps W)))
    (g8 : fr.get 8 = some (.map (some r))) (g12 : fr.get 12 = some (.int .i64 p)) (g82 : fr.get 82 = some (.int .i64 ps)) (g83 : fr.get 83 = some (.int .i64 (0 : Int)))
    (hyes : ∀ fr', (∀ t, (t < 13 ∨ t = 78 ∨ t = 79) → fr'.get t = fr.get t) → rowOK W ps p → Kr .normal fr' h) (hno : ∀ fr', fr'.get 6 = some (.bool false) → ¬ rowOK W ps p → Kr .ret fr' h) : s7_21.wp env 100 none fr h Kr := by
  repeat' (first | done | with_reducible (first | refine y1 ?_ (by omega) | refine y2 ?_ (by omega) | refine y3 (fun _ => ?_) (fun _ => ?_) | refine y4 ?_ (by omega) (by omega) | refine y5 ?_ (by omega) | refine y6 ?_ (by with_unfolding_all rfl) | refine y7 ?_ (by with_unfolding_all rfl) | refine y8 ?_ (by with_unfolding_all rfl) | refine y9 ?_ (by with_unfolding_all rfl) | refine ya ?_ (by with_unfolding_all rfl)) | (simp -dsimp only [↓cw_block, ↓s7_20_w, ↓s7_21_w]))
  refine cw_loopI (fun n fr' h' => h = h' ∧ ∃ v : Nat, v ≤ ps ∧ n = ps - v ∧ fr'.get 83 = some (.int .i64 v) ∧ (∀ t, (t < 13 ∨ t = 78 ∨ t = 79) → fr'.get t = fr.get t) ∧ ∀ v', v' < v → p ≠ v' → hasL W p v' = true) ps ?_ (by omega) ?_
  · exact ⟨rfl, 0, by omega, by omega, by simpa using g83, fun _ _ => rfl, fun i h => by omega⟩
  rintro n fr2 h' ⟨rfl, v, hv, rfl, f83, hfr, hrow⟩ hag2
  have e83 := getK_of f83
  have e82 := getK_of ((hag2 82 rfl).trans g82)
  have e8 := getK_of ((hfr 8 (by decide)).trans g8)
  have e12 := getK_of ((hfr 12 (by decide)).trans g12)
  have fx : ∀ (fr3 : Fr), (∀ t, (t < 13 ∨ t = 78 ∨ t = 79) → fr3.get t = fr2.get t) → ∀ t, (t < 13 ∨ t = 78 ∨ t = 79) → fr3.get t = fr.get t := fun fr3 hh t ht => (hh t ht).trans (hfr t ht)
  by_cases hlt : v < ps
  · by_cases hne : p = v
    · subst hne
      repeat' (first | done | with_reducible (first | refine y1 ?_ (by omega) | refine y2 ?_ (by omega) | refine y3 (fun _ => ?_) (fun _ => ?_) | refine y4 ?_ (by omega) (by omega) | refine y5 ?_ (by omega) | refine y6 ?_ (by with_unfolding_all rfl) | refine y7 ?_ (by with_unfolding_all rfl) | refine y8 ?_ (by with_unfolding_all rfl) | refine y9 ?_ (by with_unfolding_all rfl) | refine ya ?_ (by with_unfolding_all rfl)) | (simp -dsimp only [↓cw_skip, ↓cw_ops, ↓cw_seq, ↓cw_block, ↓cw_cond, ↓seqK_normal, ↓blockK_normal, ↓loopK_normal, ↓getK_same, ↓getK_ne, ↓evK_tmp, ↓evK_int, ↓evK_bool, ↓condV_var, ↓gdV_var, ↓opsW_nil, ↓opsW_d, ↓opsW_gd, ↓opW_move, ↓opW_assign, ↓opW_pick, ↓opW_bin, ↓bin_add, ↓bin_neq, ↓bin_lss, ↓r7_6_w, ↓s7_7_w, ↓s7_10_w, ↓r7_11_w, ↓s7_12_w, ↓r7_13_w, ↓s7_14_w, ↓s7_15_w, ↓s7_16_w, ↓s7_17_w, ↓r7_18_w, ↓s7_19_w, brK_true, brK_false, true_and, ne_eq, Nat.reduceEqDiff, not_false_eq_true, Bool.false_eq_true,  ↓e83, ↓e82, ↓e12]))
      refine ⟨ps - (p + 1), by omega, p + 1, by omega, rfl, by simp [T.get_set, wrap_succ (show p ≤ 4611686018427387904 by omega)], fx _ (fun t ht => by simp only [T.get_set]; repeat' (first | rfl | (rw [if_neg (by omega)]))), fun v' h1 h2 => hrow v' (by omega) h2⟩
    · repeat' (first | done | with_reducible (first | refine y1 ?_ (by omega) | refine y2 ?_ (by omega) | refine y3 (fun _ => ?_) (fun _ => ?_) | refine y4 ?_ (by omega) (by omega) | refine y5 ?_ (by omega) | refine y6 ?_ (by with_unfolding_all rfl) | refine y7 ?_ (by with_unfolding_all rfl) | refine y8 ?_ (by with_unfolding_all rfl) | refine y9 ?_ (by with_unfolding_all rfl) | refine ya ?_ (by with_unfolding_all rfl)) | (simp -dsimp only [↓cw_skip, ↓cw_ops, ↓cw_seq, ↓cw_block, ↓cw_cond, ↓seqK_normal, ↓getK_same, ↓getK_ne, ↓evK_tmp, ↓condV_var, ↓gdV_var, ↓opsW_nil, ↓opsW_d, ↓opsW_gd, ↓opW_move, ↓opW_assign, ↓opW_bin, ↓bin_neq, ↓bin_lss, ↓evp_nil, ↓evp_cons, ↓opW_lookup, ↓bd_55, ↓r7_11_w, ↓s7_12_w, ↓r7_13_w, ↓s7_14_w, ↓s7_15_w, ↓s7_16_w, ↓s7_17_w, ↓r7_18_w, ↓s7_19_w, brK_true, ne_eq, Nat.reduceEqDiff, not_false_eq_true, ↓e83, ↓e82, ↓e8, ↓e12]))
      refine look_map (kv := kv2) (k := ((p : Int), (v : Int))) hm und53 key2 zero54 ?_
      rw [DM_get, mem_keys h1]
      cases hh : hasL W p v with
      | true =>
        repeat' (first | done | with_reducible (first | refine y1 ?_ (by omega) | refine y2 ?_ (by omega) | refine y3 (fun _ => ?_) (fun _ => ?_) | refine y4 ?_ (by omega) (by omega) | refine y5 ?_ (by omega) | refine y6 ?_ (by with_unfolding_all rfl) | refine y7 ?_ (by with_unfolding_all rfl) | refine y8 ?_ (by with_unfolding_all rfl) | refine y9 ?_ (by with_unfolding_all rfl) | refine ya ?_ (by with_unfolding_all rfl)) | (simp -dsimp only [↓cw_skip, ↓cw_ops, ↓cw_cond, ↓seqK_normal, ↓blockK_normal, ↓loopK_normal, ↓getK_same, ↓getK_ne, ↓evK_tmp, ↓evK_int, ↓condV_var, ↓gdV_var, ↓opsW_nil, ↓opsW_d, ↓opsW_gd, ↓opW_move, ↓opW_pick, ↓opW_bin, ↓bin_add, ↓opW_un, ↓un_not, ↓part_one, ↓fd_54_0, ↓r7_6_w, ↓s7_7_w, ↓s7_10_w, List.getElem?_cons_zero, onV_some', brK_true, brK_false, true_and, ne_eq, Nat.reduceEqDiff, not_false_eq_true, Bool.false_eq_true,  ↓e83, Bool.not_true]))
        refine ⟨ps - (v + 1), by omega, v + 1, by omega, rfl, by simp [T.get_set, wrap_succ (show v ≤ 4611686018427387904 by omega)], fx _ (fun t ht => by simp only [T.get_set]; repeat' (first | rfl | (rw [if_neg (by omega)]))), fun v' h1 h2 => ?_⟩
        by_cases hv' : v' < v
        · exact hrow v' hv' h2
        · have : v' = v := by omega
          subst this; exact hh
      | false =>
        repeat' (first | done | with_reducible (first | refine y1 ?_ (by omega) | refine y2 ?_ (by omega) | refine y3 (fun _ => ?_) (fun _ => ?_) | refine y4 ?_ (by omega) (by omega) | refine y5 ?_ (by omega) | refine y6 ?_ (by with_unfolding_all rfl) | refine y7 ?_ (by with_unfolding_all rfl) | refine y8 ?_ (by with_unfolding_all rfl) | refine y9 ?_ (by with_unfolding_all rfl) | refine ya ?_ (by with_unfolding_all rfl)) | (simp -dsimp only [↓cw_ops, ↓cw_seq, ↓cw_ret, ↓cw_cond, ↓seqK_normal, ↓seqK_ret, ↓blockK_ret, ↓loopK_ret, ↓getK_same, ↓getK_ne, ↓evK_tmp, ↓evK_bool, ↓condV_var, ↓gdV_var, ↓opsW_nil, ↓opsW_d, ↓opsW_gd, ↓opW_assign, ↓opW_pick, ↓opW_un, ↓un_not, ↓part_one, ↓fd_54_0, ↓r7_8_w, ↓s7_9_w, ↓s7_10_w, List.getElem?_cons_zero, onV_some', brK_true, ne_eq, Nat.reduceEqDiff, not_false_eq_true, Bool.not_false]))
        exact hno _ (by simp [T.get_set]) fun hr => absurd (hh.symm.trans (hr v hlt hne)) (by simp)
  · have e : v = ps := by omega
    subst e
    repeat' (first | done | with_reducible (first | refine y1 ?_ (by omega) | refine y2 ?_ (by omega) | refine y3 (fun _ => ?_) (fun _ => ?_) | refine y4 ?_ (by omega) (by omega) | refine y5 ?_ (by omega) | refine y6 ?_ (by with_unfolding_all rfl) | refine y7 ?_ (by with_unfolding_all rfl) | refine y8 ?_ (by with_unfolding_all rfl) | refine y9 ?_ (by with_unfolding_all rfl) | refine ya ?_ (by with_unfolding_all rfl)) | (simp -dsimp only [↓cw_ops, ↓cw_seq, ↓cw_exit, ↓cw_cond, ↓seqK_normal, ↓seqK_exit, ↓blockK_same, ↓loopK_exit, ↓getK_same, ↓evK_tmp, ↓condV_var, ↓opsW_nil, ↓opsW_d, ↓opW_bin, ↓bin_lss, ↓s7_16_w, ↓s7_17_w, ↓r7_18_w, ↓s7_19_w, brK_false, Bool.false_eq_true,  ↓e83, ↓e82]))
    exact hyes _ (fx _ (fun t ht => by simp only [T.get_set]; repeat' (first | rfl | (rw [if_neg (by omega)])))) fun v' h1 h2 => hrow v' h1 h2
theorem pvPhase {r ps : Nat} {fr : Fr} {h : Heap} {Kr : Ex → Fr → Heap → Prop} {W : List ActD} (hps : ps ≤ 8) (h1 : ps ≠ 1) (hm : MapAt kv2 h r (DM (keys ps W)))
    (g0 : fr.get 0 = some (.int .i64 ps)) (g8 : fr.get 8 = some (.map (some r))) (g78 : fr.get 78 = some (.int .i64 ps)) (g79 : fr.get 79 = some (.int .i64 (0 : Int)))
    (hyes : ∀ fr', (∀ t, t < 12 → fr'.get t = fr.get t) → (∀ p, p < ps → rowOK W ps p) → Kr .normal fr' h) (hno : ∀ fr', fr'.get 6 = some (.bool false) → ¬ (∀ p, p < ps → rowOK W ps p) → Kr .ret fr' h) : s7_32.wp env 100 none fr h Kr := by
  repeat' (first | done | with_reducible (first | refine y1 ?_ (by omega) | refine y2 ?_ (by omega) | refine y3 (fun _ => ?_) (fun _ => ?_) | refine y4 ?_ (by omega) (by omega) | refine y5 ?_ (by omega) | refine y6 ?_ (by with_unfolding_all rfl) | refine y7 ?_ (by with_unfolding_all rfl) | refine y8 ?_ (by with_unfolding_all rfl) | refine y9 ?_ (by with_unfolding_all rfl) | refine ya ?_ (by with_unfolding_all rfl)) | (simp -dsimp only [↓cw_block, ↓s7_31_w, ↓s7_32_w]))
  refine cw_loopI (fun n fr' h' => h = h' ∧ ∃ p : Nat, p ≤ ps ∧ n = ps - p ∧ fr'.get 79 = some (.int .i64 p) ∧ (∀ t, t < 12 ∨ t = 78 → fr'.get t = fr.get t) ∧ ∀ p', p' < p → rowOK W ps p') ps ?_ (by omega) ?_
  · exact ⟨rfl, 0, by omega, by omega, by simpa using g79, fun _ _ => rfl, fun i h => by omega⟩
  rintro n fr2 h' ⟨rfl, p, hp, rfl, f79, hfr, hrow⟩ hag2
  have e79 := getK_of f79
  have e78 := getK_of ((hfr 78 (by decide)).trans g78)
  have e0 := getK_of ((hfr 0 (by decide)).trans g0)
  have e8 := getK_of ((hfr 8 (by decide)).trans g8)
  by_cases hlt : p < ps
  · repeat' (first | done | with_reducible (first | refine y1 ?_ (by omega) | refine y2 ?_ (by omega) | refine y3 (fun _ => ?_) (fun _ => ?_) | refine y4 ?_ (by omega) (by omega) | refine y5 ?_ (by omega) | refine y6 ?_ (by with_unfolding_all rfl) | refine y7 ?_ (by with_unfolding_all rfl) | refine y8 ?_ (by with_unfolding_all rfl) | refine y9 ?_ (by with_unfolding_all rfl) | refine ya ?_ (by with_unfolding_all rfl)) | (simp -dsimp only [↓cw_skip, ↓cw_ops, ↓cw_seq, ↓cw_block, ↓cw_cond, ↓seqK_normal, ↓getK_same, ↓getK_ne, ↓evK_tmp, ↓evK_int, ↓condV_var, ↓opsW_nil, ↓opsW_d, ↓opW_move, ↓opW_assign, ↓opW_bin, ↓bin_lss, ↓r7_22_w, ↓s7_23_w, ↓r7_24_w, ↓s7_25_w, ↓s7_26_w, ↓s7_27_w, ↓s7_28_w, ↓r7_29_w, ↓s7_30_w, brK_true, ne_eq, Nat.reduceEqDiff, not_false_eq_true, ↓e79, ↓e78, ↓e0]))
    refine vPhase (r := r) (W := W) (p := p) hps h1 hm (by simp only [T.get_set]; simpa using (hfr 8 (by decide)).trans g8) (by simp [T.get_set]) (by simp [T.get_set]) (by simp [T.get_set]) (fun fr' hf hr => ?_) (fun fr' h6 hr => ?_)
    · have k79 := getK_of ((hf 79 (by decide)).trans (by simp only [T.get_set]; simpa using f79))
      repeat' (first | done | with_reducible (first | refine y1 ?_ (by omega) | refine y2 ?_ (by omega) | refine y3 (fun _ => ?_) (fun _ => ?_) | refine y4 ?_ (by omega) (by omega) | refine y5 ?_ (by omega) | refine y6 ?_ (by with_unfolding_all rfl) | refine y7 ?_ (by with_unfolding_all rfl) | refine y8 ?_ (by with_unfolding_all rfl) | refine y9 ?_ (by with_unfolding_all rfl) | refine ya ?_ (by with_unfolding_all rfl)) | (simp -dsimp only [↓cw_ops, ↓seqK_normal, ↓blockK_normal, ↓loopK_normal, ↓getK_same, ↓evK_tmp, ↓evK_int, ↓opsW_nil, ↓opsW_d, ↓opW_move, ↓opW_bin, ↓bin_add, ↓r7_4_w, ↓s7_5_w, true_and, ↓k79]))
      refine ⟨ps - (p + 1), by omega, p + 1, by omega, rfl, by simp [T.get_set, wrap_succ (show p ≤ 4611686018427387904 by omega)], fun t ht => ?_, fun p' hp' => ?_⟩
      · rw [← hfr t ht]
        have := hf t (by omega)
        simp only [T.get_set] at this ⊢
        rw [if_neg (by omega), if_neg (by omega), this]
        repeat' (first | rfl | (rw [if_neg (by omega)]))
      · by_cases hv' : p' < p
        · exact hrow p' hv'
        · have : p' = p := by omega
          subst this; exact hr
    · have k6 := getK_of h6
      repeat' (first | done | with_reducible (first | refine y1 ?_ (by omega) | refine y2 ?_ (by omega) | refine y3 (fun _ => ?_) (fun _ => ?_) | refine y4 ?_ (by omega) (by omega) | refine y5 ?_ (by omega) | refine y6 ?_ (by with_unfolding_all rfl) | refine y7 ?_ (by with_unfolding_all rfl) | refine y8 ?_ (by with_unfolding_all rfl) | refine y9 ?_ (by with_unfolding_all rfl) | refine ya ?_ (by with_unfolding_all rfl)) | (simp -dsimp only [↓seqK_ret, ↓blockK_ret, ↓loopK_ret]))
      exact hno _ h6 fun hh => hr (hh p hlt)
  · have e : p = ps := by omega
    subst e
    repeat' (first | done | with_reducible (first | refine y1 ?_ (by omega) | refine y2 ?_ (by omega) | refine y3 (fun _ => ?_) (fun _ => ?_) | refine y4 ?_ (by omega) (by omega) | refine y5 ?_ (by omega) | refine y6 ?_ (by with_unfolding_all rfl) | refine y7 ?_ (by with_unfolding_all rfl) | refine y8 ?_ (by with_unfolding_all rfl) | refine y9 ?_ (by with_unfolding_all rfl) | refine ya ?_ (by with_unfolding_all rfl)) | (simp -dsimp only [↓cw_ops, ↓cw_seq, ↓cw_exit, ↓cw_cond, ↓seqK_normal, ↓seqK_exit, ↓blockK_same, ↓loopK_exit, ↓getK_same, ↓evK_tmp, ↓condV_var, ↓opsW_nil, ↓opsW_d, ↓opW_bin, ↓bin_lss, ↓s7_27_w, ↓s7_28_w, ↓r7_29_w, ↓s7_30_w, brK_false, Bool.false_eq_true,  ↓e79, ↓e78]))
    refine hyes _ (fun t ht => ?_) hrow
    rw [← hfr t (by omega)]; simp only [T.get_set]; repeat' (first | rfl | (rw [if_neg (by omega)]))
end Go.Proofs.Ytdjnedamphifcaa

namespace Go.Proofs.Ytdjnedamphifcaa
open Go.Ev
set_option maxRecDepth 100000
set_option maxHeartbeats 400000
theorem fairIs0 {k : Int} {v : Value} {h : Heap} {K : Value → Heap → Prop} (hK : K (.bool false) h) : Ret env (.func 7) [.int .i64 0, .int .i64 k, v] h K := by
  refine F7 rfl ?_
  repeat' (first | done | with_reducible (first | refine y1 ?_ (by omega) | refine y2 ?_ (by omega) | refine y3 (fun _ => ?_) (fun _ => ?_) | refine y4 ?_ (by omega) (by omega) | refine y5 ?_ (by omega) | refine y6 ?_ (by with_unfolding_all rfl) | refine y7 ?_ (by with_unfolding_all rfl) | refine y8 ?_ (by with_unfolding_all rfl) | refine y9 ?_ (by with_unfolding_all rfl) | refine ya ?_ (by with_unfolding_all rfl)) | (simp -dsimp only [↓cw_ops, ↓cw_seq, ↓cw_ret, ↓cw_cond, ↓seqK_normal, ↓seqK_ret, ↓getK_same, ↓getK_ne, ↓evK_tmp, ↓evK_int, ↓evK_bool, ↓condV_var, ↓gdV_var, ↓opsW_nil, ↓opsW_d, ↓opsW_gd, ↓opW_move, ↓opW_assign, ↓opW_pick, ↓opW_bin, ↓bin_lss, ↓resK_one, ↓setAll_cons, ↓setAll_nil, ↓r7_96_w, ↓s7_97_w, ↓s7_98_w, ↓r7_99_w, ↓s7_100_w, ↓s7_101_w, ↓r7_102_w, ↓s7_103_w, brK_true, brK_false, ne_eq, Nat.reduceEqDiff, Nat.reduceAdd, not_false_eq_true, Nat.one_ne_zero, Bool.true_eq_false]))
  exact hK
theorem fairIs_ret {B : Nat} {a : Option Addr} {c : Nat} {l : List ActD} {ps : Nat} {k : Int} {h : Heap} {K : Value → Heap → Prop} (hl : l.length ≤ 100000) (hp : 1 ≤ ps ∧ ps ≤ 8) (hk2 : k ≤ 9223372036854775807) (hB : B ≤ h.n) (ra : RowAt B h a 4 (l.map ActD.cells)) (hs : Sliceable a l.length c)
    (hK : ∀ b h', (b = true ↔ IsP ps k l) → ExtB h.n h h' → K (.bool b) h') : Ret env (.func 7) [.int .i64 ps, .int .i64 k, .slice a l.length c] h K := by
  obtain ⟨hp1, hp2⟩ := hp
  refine F7 rfl ?_
  by_cases hk : k < 1
  · repeat' (first | done | with_reducible (first | refine y1 ?_ (by omega) | refine y2 ?_ (by omega) | refine y3 (fun _ => ?_) (fun _ => ?_) | refine y4 ?_ (by omega) (by omega) | refine y5 ?_ (by omega) | refine y6 ?_ (by with_unfolding_all rfl) | refine y7 ?_ (by with_unfolding_all rfl) | refine y8 ?_ (by with_unfolding_all rfl) | refine y9 ?_ (by with_unfolding_all rfl) | refine ya ?_ (by with_unfolding_all rfl)) | (simp -dsimp only [↓cw_ops, ↓cw_seq, ↓cw_ret, ↓cw_cond, ↓seqK_normal, ↓seqK_ret, ↓getK_same, ↓getK_ne, ↓evK_tmp, ↓evK_int, ↓evK_bool, ↓condV_var, ↓gdV_var, ↓opsW_nil, ↓opsW_d, ↓opsW_gd, ↓opW_move, ↓opW_assign, ↓opW_pick, ↓opW_bin, ↓bin_lss, ↓resK_one, ↓setAll_cons, ↓setAll_nil, ↓r7_96_w, ↓s7_97_w, ↓s7_98_w, ↓r7_99_w, ↓s7_100_w, ↓s7_101_w, ↓r7_102_w, ↓s7_103_w, brK_true, brK_false, ne_eq, Nat.reduceEqDiff, Nat.reduceAdd, not_false_eq_true, Nat.one_ne_zero, Bool.false_eq_true]))
    exact hK false h ⟨fun e => (by cases e), fun hh => absurd hh.kp (by omega)⟩ (ExtB.refl _ _)
  obtain ⟨q, rfl⟩ := Int.eq_ofNat_of_zero_le (show 0 ≤ k by omega)
  repeat' (first | done | with_reducible (first | refine y1 ?_ (by omega) | refine y2 ?_ (by omega) | refine y3 (fun _ => ?_) (fun _ => ?_) | refine y4 ?_ (by omega) (by omega) | refine y5 ?_ (by omega) | refine y6 ?_ (by with_unfolding_all rfl) | refine y7 ?_ (by with_unfolding_all rfl) | refine y8 ?_ (by with_unfolding_all rfl) | refine y9 ?_ (by with_unfolding_all rfl) | refine ya ?_ (by with_unfolding_all rfl)) | (simp -dsimp only [↓cw_skip, ↓cw_ops, ↓cw_seq, ↓cw_block, ↓cw_cond, ↓seqK_normal, ↓getK_same, ↓getK_ne, ↓evK_tmp, ↓evK_int, ↓evK_bool, ↓condV_var, ↓gdV_var, ↓opsW_nil, ↓opsW_d, ↓opsW_gd, ↓opW_move, ↓opW_assign, ↓opW_pick, ↓opW_bin, ↓bin_lss, ↓setAll_cons, ↓setAll_nil, ↓s7_90_w, ↓s7_91_w, ↓r7_92_w, ↓s7_93_w, ↓s7_94_w, ↓s7_95_w, ↓s7_98_w, ↓r7_99_w, ↓s7_100_w, ↓s7_101_w, ↓r7_102_w, ↓s7_103_w, brK_true, brK_false, ne_eq, Nat.reduceEqDiff, Nat.reduceAdd, not_false_eq_true, Nat.one_ne_zero, Bool.false_eq_true]))
  refine cw_loopI (fun n fr h' => ∃ i : Nat, i ≤ l.length ∧ n = l.length - i ∧ fr.get 7 = some (.int .i64 i) ∧ (0 < i → q ≤ l.length) ∧ ExtB h.n h h' ∧ ∀ j, j < i → winOK (win l j q) ps) l.length ?_ (by omega) ?_
  · exact ⟨0, by omega, by omega, by simp [T.get_set], fun h => by omega, ExtB.refl _ _, fun i h => by omega⟩
  rintro n fr h' ⟨i, hi, rfl, g7, hq, X, hok⟩ hag
  have e7 := getK_of g7
  have a0 := getK_eq (hag 0 rfl)
  have a1 := getK_eq (hag 1 rfl)
  have a2 := getK_eq (hag 2 rfl)
  have c0 : fr.get 0 = some (.int .i64 ps) := (hag 0 rfl).trans (by simp [T.get_set])
  have wa : IntKind.wrap .i64 ((i : Int) + (q : Int)) = ((i + q : Nat) : Int) := by
    by_cases h0 : 0 < i
    · have := hq h0
      rw [wrap_i64 (by omega) (by omega)]; omega
    · rw [wrap_i64 (by omega) (by omega)]; omega
  have hn' := X.n
  by_cases hlt : i + q ≤ l.length
  · repeat' (first | done | with_reducible (first | refine y1 ?_ (by omega) | refine y2 ?_ (by omega) | refine y3 (fun _ => ?_) (fun _ => ?_) | refine y4 ?_ (by omega) (by omega) | refine y5 ?_ (by omega) | refine y6 ?_ (by with_unfolding_all rfl) | refine y7 ?_ (by with_unfolding_all rfl) | refine y8 ?_ (by with_unfolding_all rfl) | refine y9 ?_ (by with_unfolding_all rfl) | refine ya ?_ (by with_unfolding_all rfl)) | (simp -dsimp only [↓cw_skip, ↓cw_ops, ↓cw_seq, ↓cw_block, ↓cw_cond, ↓seqK_normal, ↓getK_same, ↓getK_ne, ↓evK_tmp, ↓evK_bool, ↓condV_var, ↓opsW_nil, ↓opsW_d, ↓opW_move, ↓opW_assign, ↓opW_bin, ↓bin_add, ↓bin_leq, ↓lenS_some, ↓opW_slice, ↓evo_none, ↓evo_some, ↓len_26, ↓mm_53, ↓r7_78_w, ↓s7_79_w, ↓s7_80_w, ↓r7_81_w, ↓s7_82_w, ↓r7_83_w, ↓s7_84_w, ↓s7_85_w, ↓s7_86_w, ↓r7_87_w, ↓s7_88_w, ↓s7_89_w, brK_true, ne_eq, Nat.reduceEqDiff, not_false_eq_true, ↓e7, ↓a1, ↓a2, wa]))
    have X0 : ExtB h'.n h' (newBlk h' (.map [] 0)) := ExtB.new _ (Nat.le_refl _)
    have m0 : MapAt kv2 (newBlk h' (.map [] 0)) h'.n (DM []) := (MapAt.new h').congr fun k => by simp [DM]
    have hn0 : (newBlk h' (.map [] 0)).n = h'.n + 1 := rfl
    generalize newBlk h' (.map [] 0) = h2 at X0 m0 hn0 ⊢
    refine hs i (i + q) _ (by omega) (by omega) fun c' => ?_
    rw [show i + q - i = q by omega]
    have hw := win_len (l := l) (i := i) (k := q) hlt
    have rw_ := ((row_win ra (i := i) (k := q) hlt).ext (X.mono hB)).ext (X0.mono (by omega))
    have bad : ∀ h3, ExtB h.n h h3 → ¬ winOK (win l i q) ps → K (.bool false) h3 := fun h3 x3 hb => hK false h3 ⟨fun e => (by cases e), fun hh => absurd (hh.ok i (by simpa using hlt)) (by simpa using hb)⟩ x3
    have good : winOK (win l i q) ps → ∀ j, j < i + 1 → winOK (win l j q) ps := fun hh j hj => by
      by_cases hj' : j < i
      · exact hok j hj'
      · have : j = i := by omega
        subst this; exact hh
    clear hK hok
    generalize win l i q = W at hw rw_ bad good
    subst hw
    repeat' (first | done | with_reducible (first | refine y1 ?_ (by omega) | refine y2 ?_ (by omega) | refine y3 (fun _ => ?_) (fun _ => ?_) | refine y4 ?_ (by omega) (by omega) | refine y5 ?_ (by omega) | refine y6 ?_ (by with_unfolding_all rfl) | refine y7 ?_ (by with_unfolding_all rfl) | refine y8 ?_ (by with_unfolding_all rfl) | refine y9 ?_ (by with_unfolding_all rfl) | refine ya ?_ (by with_unfolding_all rfl)) | (simp -dsimp only [↓seqK_normal, ↓getK_same, ↓evK_tmp, ↓evK_int, ↓opsW_nil, ↓opsW_d, ↓opW_move, ↓lenS_some, ↓len_26, wa]))
    refine mapPhase (c := c') (B := B) (r := h'.n) (ps := ps) (W := W) (by omega) (by omega) rw_ m0 (by simp only [T.get_set]; simpa using c0) (by simp [T.get_set]) (by simp [T.get_set]) (by simp [T.get_set]) (by simp [T.get_set]) (by simp [T.get_set]) fun fr3 h3 f3 f9 m3 X3 => ?_
    have XX : ExtB h.n h h3 := X.trans ((X0.mono (by omega)).trans (X3.mono (by omega)))
    have d0 : fr3.get 0 = some (.int .i64 ps) := (f3 0 (by decide)).trans (by simp only [T.get_set]; simpa using c0)
    have d7 : fr3.get 7 = some (.int .i64 i) := (f3 7 (by decide)).trans (by simp only [T.get_set]; simpa using g7)
    have d8 : fr3.get 8 = some (.map (some h'.n)) := (f3 8 (by decide)).trans (by simp [T.get_set])
    have k0 := getK_of d0
    have k7 := getK_of d7
    have k8 := getK_of d8
    have k9 := getK_of f9
    have nxt : winOK W ps → ∃ m, m < l.length - i ∧ ∃ i_1 : Nat, i_1 ≤ l.length ∧ m = l.length - i_1 ∧ ((i + 1 : Nat) : Int) = (i_1 : Int) ∧ (0 < i_1 → W.length ≤ l.length) ∧ ExtB h.n h h3 ∧ ∀ j, j < i_1 → winOK (win l j W.length) ps := fun hw => ⟨l.length - (i + 1), by omega, i + 1, by omega, rfl, rfl, fun _ => by omega, XX, good hw⟩
    cases ht : hasL W (-1) 0 with
    | false =>
      rw [ht] at k9
      repeat' (first | done | with_reducible (first | refine y1 ?_ (by omega) | refine y2 ?_ (by omega) | refine y3 (fun _ => ?_) (fun _ => ?_) | refine y4 ?_ (by omega) (by omega) | refine y5 ?_ (by omega) | refine y6 ?_ (by with_unfolding_all rfl) | refine y7 ?_ (by with_unfolding_all rfl) | refine y8 ?_ (by with_unfolding_all rfl) | refine y9 ?_ (by with_unfolding_all rfl) | refine ya ?_ (by with_unfolding_all rfl)) | (simp -dsimp only [↓cw_ops, ↓cw_seq, ↓cw_ret, ↓cw_cond, ↓seqK_normal, ↓seqK_ret, ↓blockK_ret, ↓loopK_ret, ↓getK_same, ↓evK_tmp, ↓evK_bool, ↓condV_var, ↓opsW_nil, ↓opsW_d, ↓opW_move, ↓opW_assign, ↓resK_one, ↓opW_un, ↓un_not, ↓r7_45_w, ↓s7_46_w, ↓s7_47_w, ↓r7_48_w, ↓s7_49_w, ↓s7_50_w, brK_true, ↓k9, Bool.not_false]))
      exact bad h3 XX fun hh => absurd (ht.symm.trans hh.t) (by simp)
    | true =>
      rw [ht] at k9
      by_cases h1 : ps = 1
      · subst h1
        repeat' (first | done | with_reducible (first | refine y1 ?_ (by omega) | refine y2 ?_ (by omega) | refine y3 (fun _ => ?_) (fun _ => ?_) | refine y4 ?_ (by omega) (by omega) | refine y5 ?_ (by omega) | refine y6 ?_ (by with_unfolding_all rfl) | refine y7 ?_ (by with_unfolding_all rfl) | refine y8 ?_ (by with_unfolding_all rfl) | refine y9 ?_ (by with_unfolding_all rfl) | refine ya ?_ (by with_unfolding_all rfl)) | (simp -dsimp only [↓cw_skip, ↓cw_ops, ↓cw_seq, ↓cw_cond, ↓seqK_normal, ↓getK_same, ↓getK_ne, ↓evK_tmp, ↓evK_int, ↓condV_var, ↓opsW_nil, ↓opsW_d, ↓opW_move, ↓opW_bin, ↓bin_eql, ↓evp_nil, ↓opW_un, ↓un_not, ↓opW_lookup, ↓bd_55, ↓r7_38_w, ↓s7_39_w, ↓s7_40_w, ↓s7_41_w, ↓r7_42_w, ↓s7_43_w, ↓s7_44_w, ↓s7_47_w, ↓r7_48_w, ↓s7_49_w, ↓s7_50_w, brK_true, brK_false, ne_eq, Nat.reduceEqDiff, not_false_eq_true, Bool.false_eq_true,  ↓k0, ↓k8, ↓k9, Bool.not_true]))
        refine look_map (kv := kv2) (k := ((0 : Int), (0 : Int))) m3 und53 key2 zero54 ?_
        rw [DM_get, mem_keys1]
        cases ho : hasL W 0 (-1) with
        | false =>
          repeat' (first | done | with_reducible (first | refine y1 ?_ (by omega) | refine y2 ?_ (by omega) | refine y3 (fun _ => ?_) (fun _ => ?_) | refine y4 ?_ (by omega) (by omega) | refine y5 ?_ (by omega) | refine y6 ?_ (by with_unfolding_all rfl) | refine y7 ?_ (by with_unfolding_all rfl) | refine y8 ?_ (by with_unfolding_all rfl) | refine y9 ?_ (by with_unfolding_all rfl) | refine ya ?_ (by with_unfolding_all rfl)) | (simp -dsimp only [↓cw_ops, ↓cw_seq, ↓cw_ret, ↓cw_cond, ↓seqK_normal, ↓seqK_ret, ↓blockK_ret, ↓loopK_ret, ↓getK_same, ↓evK_tmp, ↓evK_bool, ↓condV_var, ↓opsW_nil, ↓opsW_d, ↓opW_assign, ↓resK_one, ↓opW_un, ↓un_not, ↓part_one, ↓fd_54_0, ↓r7_35_w, ↓s7_36_w, ↓s7_37_w, List.getElem?_cons_zero, onV_some', brK_true, Bool.not_false]))
          exact bad h3 XX fun hh => absurd (ho.symm.trans (hh.one rfl)) (by simp)
        | true =>
          obtain ⟨m, g1, i1, g2, g3, g4, g5, g6, g8⟩ := nxt ⟨ht, fun _ => ho, fun p hp v hv hne => by omega⟩
          repeat' (first | done | with_reducible (first | refine y1 ?_ (by omega) | refine y2 ?_ (by omega) | refine y3 (fun _ => ?_) (fun _ => ?_) | refine y4 ?_ (by omega) (by omega) | refine y5 ?_ (by omega) | refine y6 ?_ (by with_unfolding_all rfl) | refine y7 ?_ (by with_unfolding_all rfl) | refine y8 ?_ (by with_unfolding_all rfl) | refine y9 ?_ (by with_unfolding_all rfl) | refine ya ?_ (by with_unfolding_all rfl)) | (simp -dsimp only [↓cw_skip, ↓cw_ops, ↓cw_exit, ↓cw_cond, ↓seqK_normal, ↓seqK_exit, ↓blockK_same, ↓loopK_normal, ↓getK_same, ↓getK_ne, ↓evK_tmp, ↓evK_int, ↓condV_var, ↓opsW_nil, ↓opsW_d, ↓opW_move, ↓opW_assign, ↓opW_bin, ↓bin_add, ↓opW_un, ↓un_not, ↓part_one, ↓fd_54_0, ↓r7_2_w, ↓s7_3_w, ↓s7_37_w, List.getElem?_cons_zero, onV_some', brK_false, ne_eq, Nat.reduceEqDiff, not_false_eq_true, Bool.false_eq_true,  ↓k7, Bool.not_true]))
          exact ⟨m, g1, i1, g2, g3, by rw [← g4]; simp [T.get_set, wrap_succ (show i ≤ 4611686018427387904 by omega)], g5, g6, g8⟩
      · repeat' (first | done | with_reducible (first | refine y1 ?_ (by omega) | refine y2 ?_ (by omega) | refine y3 (fun _ => ?_) (fun _ => ?_) | refine y4 ?_ (by omega) (by omega) | refine y5 ?_ (by omega) | refine y6 ?_ (by with_unfolding_all rfl) | refine y7 ?_ (by with_unfolding_all rfl) | refine y8 ?_ (by with_unfolding_all rfl) | refine y9 ?_ (by with_unfolding_all rfl) | refine ya ?_ (by with_unfolding_all rfl)) | (simp -dsimp only [↓cw_skip, ↓cw_ops, ↓cw_seq, ↓cw_cond, ↓seqK_normal, ↓getK_same, ↓getK_ne, ↓evK_tmp, ↓evK_int, ↓condV_var, ↓opsW_nil, ↓opsW_d, ↓opW_move, ↓opW_bin, ↓bin_eql, ↓opW_un, ↓un_not, ↓r7_33_w, ↓s7_34_w, ↓s7_41_w, ↓r7_42_w, ↓s7_43_w, ↓s7_44_w, ↓s7_47_w, ↓r7_48_w, ↓s7_49_w, ↓s7_50_w, brK_false, ne_eq, Nat.reduceEqDiff, not_false_eq_true, Bool.false_eq_true,  ↓k0, ↓k9, Bool.not_true]))
        refine pvPhase (r := h'.n) (W := W) hp2 h1 m3 (by simp only [T.get_set]; simpa using d0) (by simp only [T.get_set]; simpa using d8) (by simp [T.get_set]) (by simp [T.get_set]) (fun fr4 hf hr => ?_) (fun fr4 h6 hr => ?_)
        · have j7 := getK_of ((hf 7 (by decide)).trans (by simp only [T.get_set]; simpa using d7))
          obtain ⟨m, g1, i1, g2, g3, g4, g5, g6, g8⟩ := nxt ⟨ht, fun hh => absurd hh h1, hr⟩
          repeat' (first | done | with_reducible (first | refine y1 ?_ (by omega) | refine y2 ?_ (by omega) | refine y3 (fun _ => ?_) (fun _ => ?_) | refine y4 ?_ (by omega) (by omega) | refine y5 ?_ (by omega) | refine y6 ?_ (by with_unfolding_all rfl) | refine y7 ?_ (by with_unfolding_all rfl) | refine y8 ?_ (by with_unfolding_all rfl) | refine y9 ?_ (by with_unfolding_all rfl) | refine ya ?_ (by with_unfolding_all rfl)) | (simp -dsimp only [↓cw_ops, ↓seqK_normal, ↓blockK_normal, ↓loopK_normal, ↓getK_same, ↓evK_tmp, ↓evK_int, ↓opsW_nil, ↓opsW_d, ↓opW_move, ↓opW_assign, ↓opW_bin, ↓bin_add, ↓r7_2_w, ↓s7_3_w, ↓j7]))
          exact ⟨m, g1, i1, g2, g3, by rw [← g4]; simp [T.get_set, wrap_succ (show i ≤ 4611686018427387904 by omega)], g5, g6, g8⟩
        · have j6 := getK_of h6
          repeat' (first | done | with_reducible (first | refine y1 ?_ (by omega) | refine y2 ?_ (by omega) | refine y3 (fun _ => ?_) (fun _ => ?_) | refine y4 ?_ (by omega) (by omega) | refine y5 ?_ (by omega) | refine y6 ?_ (by with_unfolding_all rfl) | refine y7 ?_ (by with_unfolding_all rfl) | refine y8 ?_ (by with_unfolding_all rfl) | refine y9 ?_ (by with_unfolding_all rfl) | refine ya ?_ (by with_unfolding_all rfl)) | (simp -dsimp only [↓seqK_ret, ↓blockK_ret, ↓loopK_ret, ↓resK_one, ↓j6]))
          exact bad h3 XX fun hh => hr hh.all
  · repeat' (first | done | with_reducible (first | refine y1 ?_ (by omega) | refine y2 ?_ (by omega) | refine y3 (fun _ => ?_) (fun _ => ?_) | refine y4 ?_ (by omega) (by omega) | refine y5 ?_ (by omega) | refine y6 ?_ (by with_unfolding_all rfl) | refine y7 ?_ (by with_unfolding_all rfl) | refine y8 ?_ (by with_unfolding_all rfl) | refine y9 ?_ (by with_unfolding_all rfl) | refine ya ?_ (by with_unfolding_all rfl)) | (simp -dsimp only [↓cw_ops, ↓cw_seq, ↓cw_exit, ↓cw_ret, ↓cw_cond, ↓seqK_normal, ↓seqK_exit, ↓blockK_same, ↓loopK_exit, ↓getK_same, ↓getK_ne, ↓evK_tmp, ↓evK_bool, ↓condV_var, ↓opsW_nil, ↓opsW_d, ↓opW_move, ↓opW_assign, ↓opW_bin, ↓bin_add, ↓bin_leq, ↓lenS_some, ↓resK_one, ↓len_26, ↓r7_0_w, ↓s7_1_w, ↓s7_86_w, ↓r7_87_w, ↓s7_88_w, ↓s7_89_w, brK_false, ne_eq, Nat.reduceEqDiff, not_false_eq_true, Bool.false_eq_true,  ↓e7, ↓a1, ↓a2, wa]))
    exact hK true h' ⟨fun _ => ⟨by omega, fun j hj => hok j (by simp at hj; omega)⟩, fun _ => rfl⟩ X
end Go.Proofs.Ytdjnedamphifcaa

