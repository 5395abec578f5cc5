/- THE PROGRAM's Same, walked; what is written into a copy. Conditions: none beyond each theorem's own. -/
import Derived.Test.YtohjaacnlmkhbaaGreatDoorWG
set_option linter.unusedSimpArgs false
set_option linter.unusedVariables false
namespace Go.Proofs.YtohjaacnlmkhbaaGreatDoor
open Go.Ev
set_option maxRecDepth 100000
set_option maxHeartbeats 400000
/-! which are the same: the program's answer -/
def ptT (k : Nat) : Nat := if k < 10 then 106 else 107
structure BndL (i : Nat) (l : List Value) : Prop where
  len : l.length = 56
  one : l.all oneCell = true
  at_ : ∀ k, k < 14 → l[4 * k + 1]? = some (.iface (ptT k) (.pointer (some ⟨i, k, none⟩)))
theorem bounds_ret {i : Nat} {h : Heap} {K : Value → Heap → Prop} (hK : ∀ l h', ExtB h.n h h' → BndL i l → K (.agg ⟨l⟩) h') : Ret env (.func 59) [.pointer (some ⟨i, 0, none⟩)] h K := by
  refine F59 rfl ?_
  repeat' (first | done | with_reducible (first | refine y1 ?_ (by omega) | refine y2 ?_ (by omega) | refine y3 (fun _ => ?_) (fun _ => ?_) | refine y4 ?_ (by omega) (by omega) | refine y5 ?_ (by omega) | refine y6 ?_ (by with_unfolding_all rfl) | refine y7 ?_ (by with_unfolding_all rfl) | refine y8 ?_ (by with_unfolding_all rfl) | refine y9 ?_ (by with_unfolding_all rfl) | refine ya ?_ (by with_unfolding_all rfl)) | ((with_reducible refine And.intro ?_ ?_); (· omega)) | (simp -dsimp only [↓cw_ops, ↓cw_plan, ↓cw_seq, ↓cw_ret, ↓seqK_normal, ↓getK_same, ↓getK_ne, ↓evK_tmp, ↓evK_int, ↓evK_string, ↓opsW_nil, ↓opsW_d, ↓planW_nil, ↓planW_d, ↓planW_n, ↓agK_nil, ↓opW_move, ↓ldN_some, ↓fldA_some, ↓setAll_cons, ↓setAll_nil, ↓evp_nil, ↓evp_cons, ↓opW_nilCheck, ↓resK_cellR, ↓al_101, ↓st_101, ↓fa_25_0, ↓fa_25_1, ↓fa_25_2, ↓fa_25_3, ↓fa_25_4, ↓fa_25_5, ↓fa_25_6, ↓fa_25_7, ↓fa_25_8, ↓fa_25_9, ↓fa_25_10, ↓fa_25_11, ↓fa_25_12, ↓fa_25_13, ↓agl_101, ↓mi_106, ↓bd_100, ↓mi_107, ↓bd_101, ↓p59_0_w, ↓s59_1_w, ↓r59_2_w, ↓s59_3_w, cellsAt_newE, newBlk_n, List.length_cons, List.length_nil, onV_some', Nat.le_refl, true_and, ne_eq, Nat.reduceEqDiff, Nat.reduceAdd, not_false_eq_true, Nat.add_zero, Addr.add_lit]))
  refine hK _ _ (ExtB.new _ (Nat.le_refl _)) ⟨rfl, rfl, fun k hk => ?_⟩
  rcases k with _ | _ | _ | _ | _ | _ | _ | _ | _ | _ | _ | _ | _ | _ | k <;> first | rfl | omega
theorem alikeI_ret {i j k : Nat} {x y : Int} {h : Heap} {K : Value → Heap → Prop} (hx : cellAt h ⟨i, k, none⟩ = some (.int .i64 x)) (hy : cellAt h ⟨j, k, none⟩ = some (.int .i64 y)) (hK : K (.bool (decide (x = y))) h) :
    Ret env (.func 60) [.iface 106 (.pointer (some ⟨i, k, none⟩)), .iface 106 (.pointer (some ⟨j, k, none⟩))] h K := by
  refine F60 rfl ?_
  by_cases he : x = y
  · rw [decide_eq_true he] at hK
    repeat' (first | done | with_reducible (first | refine y1 ?_ (by omega) | refine y2 ?_ (by omega) | refine y3 (fun _ => ?_) (fun _ => ?_) | refine y4 ?_ (by omega) (by omega) | refine y5 ?_ (by omega) | refine y6 ?_ (by with_unfolding_all rfl) | refine y7 ?_ (by with_unfolding_all rfl) | refine y8 ?_ (by with_unfolding_all rfl) | refine y9 ?_ (by with_unfolding_all rfl) | refine ya ?_ (by with_unfolding_all rfl)) | ((with_reducible refine And.intro ?_ ?_); (· omega)) | (simp -dsimp only [↓cw_ops, ↓cw_plan, ↓cw_seq, ↓cw_block, ↓cw_ret, ↓cw_cond, ↓seqK_normal, ↓seqK_ret, ↓blockK_ret, ↓getK_same, ↓getK_ne, ↓evK_tmp, ↓evK_bool, ↓condV_var, ↓gdV_var, ↓opsW_nil, ↓opsW_d, ↓planW_nil, ↓planW_d, ↓planW_gd, ↓agK_nil, ↓opW_move, ↓opW_assign, ↓opW_pick, ↓opW_bin, ↓bin_eql, ↓ld1_some, ↓resK_one, ↓setAll_cons, ↓setAll_nil, ↓opW_extract, ↓ext_tuple, ↓opW_nilCheck, ↓ta_same, ↓ld_3, ↓ta_106, ↓p60_2_w, ↓s60_3_w, ↓r60_4_w, ↓s60_5_w, ↓r60_6_w, ↓s60_7_w, ↓s60_17_w, ↓r60_18_w, ↓s60_19_w, ↓s60_20_w, ↓r60_21_w, ↓s60_22_w, ↓s60_23_w, ↓r60_24_w, ↓s60_25_w, List.getElem?_cons_zero, List.getElem?_cons_succ, onV_some', brK_true, Nat.le_refl, true_and, ne_eq, Nat.reduceEqDiff, Nat.reduceAdd, not_false_eq_true, Nat.one_ne_zero, hx, hy]))
    exact hK
  · rw [decide_eq_false he] at hK
    repeat' (first | done | with_reducible (first | refine y1 ?_ (by omega) | refine y2 ?_ (by omega) | refine y3 (fun _ => ?_) (fun _ => ?_) | refine y4 ?_ (by omega) (by omega) | refine y5 ?_ (by omega) | refine y6 ?_ (by with_unfolding_all rfl) | refine y7 ?_ (by with_unfolding_all rfl) | refine y8 ?_ (by with_unfolding_all rfl) | refine y9 ?_ (by with_unfolding_all rfl) | refine ya ?_ (by with_unfolding_all rfl)) | ((with_reducible refine And.intro ?_ ?_); (· omega)) | (simp -dsimp only [↓cw_ops, ↓cw_plan, ↓cw_seq, ↓cw_block, ↓cw_ret, ↓cw_cond, ↓seqK_normal, ↓seqK_ret, ↓blockK_ret, ↓getK_same, ↓getK_ne, ↓evK_tmp, ↓evK_bool, ↓condV_var, ↓gdV_var, ↓opsW_nil, ↓opsW_d, ↓planW_nil, ↓planW_d, ↓planW_gd, ↓agK_nil, ↓opW_move, ↓opW_assign, ↓opW_pick, ↓opW_bin, ↓bin_eql, ↓ld1_some, ↓resK_one, ↓setAll_cons, ↓setAll_nil, ↓opW_extract, ↓ext_tuple, ↓opW_nilCheck, ↓ta_same, ↓ld_3, ↓ta_106, ↓p60_2_w, ↓s60_3_w, ↓r60_4_w, ↓s60_5_w, ↓r60_6_w, ↓s60_7_w, ↓s60_17_w, ↓r60_18_w, ↓s60_19_w, ↓s60_20_w, ↓r60_21_w, ↓s60_22_w, ↓s60_23_w, ↓r60_24_w, ↓s60_25_w, List.getElem?_cons_zero, List.getElem?_cons_succ, onV_some', brK_true, Nat.le_refl, true_and, ne_eq, Nat.reduceEqDiff, Nat.reduceAdd, not_false_eq_true, Nat.one_ne_zero, hx, hy]))
    exact hK
theorem alikeU_ret {i j k : Nat} {x y : Int} {h : Heap} {K : Value → Heap → Prop} (hx : cellAt h ⟨i, k, none⟩ = some (.int .u64 x)) (hy : cellAt h ⟨j, k, none⟩ = some (.int .u64 y)) (hK : K (.bool (decide (x = y))) h) :
    Ret env (.func 60) [.iface 107 (.pointer (some ⟨i, k, none⟩)), .iface 107 (.pointer (some ⟨j, k, none⟩))] h K := by
  refine F60 rfl ?_
  by_cases he : x = y
  · rw [decide_eq_true he] at hK
    repeat' (first | done | with_reducible (first | refine y1 ?_ (by omega) | refine y2 ?_ (by omega) | refine y3 (fun _ => ?_) (fun _ => ?_) | refine y4 ?_ (by omega) (by omega) | refine y5 ?_ (by omega) | refine y6 ?_ (by with_unfolding_all rfl) | refine y7 ?_ (by with_unfolding_all rfl) | refine y8 ?_ (by with_unfolding_all rfl) | refine y9 ?_ (by with_unfolding_all rfl) | refine ya ?_ (by with_unfolding_all rfl)) | ((with_reducible refine And.intro ?_ ?_); (· omega)) | (simp -dsimp only [↓cw_ops, ↓cw_plan, ↓cw_seq, ↓cw_block, ↓cw_ret, ↓cw_cond, ↓seqK_normal, ↓seqK_ret, ↓blockK_ret, ↓getK_same, ↓getK_ne, ↓evK_tmp, ↓evK_bool, ↓condV_var, ↓gdV_var, ↓opsW_nil, ↓opsW_d, ↓planW_nil, ↓planW_d, ↓planW_gd, ↓agK_nil, ↓opW_move, ↓opW_assign, ↓opW_pick, ↓opW_bin, ↓bin_eql, ↓ld1_some, ↓resK_one, ↓setAll_cons, ↓setAll_nil, ↓opW_extract, ↓ext_tuple, ↓opW_nilCheck, ↓ta_same, ↓ta_ne, ↓ld_22, ↓ta_106, ↓ta_107, ↓p60_8_w, ↓s60_9_w, ↓r60_10_w, ↓s60_11_w, ↓r60_12_w, ↓s60_13_w, ↓s60_14_w, ↓r60_15_w, ↓s60_16_w, ↓s60_17_w, ↓r60_18_w, ↓s60_19_w, ↓s60_20_w, ↓r60_21_w, ↓s60_22_w, ↓s60_23_w, ↓r60_24_w, ↓s60_25_w, List.getElem?_cons_zero, List.getElem?_cons_succ, onV_some', brK_true, brK_false, Nat.le_refl, true_and, ne_eq, Nat.reduceEqDiff, Nat.reduceAdd, not_false_eq_true, Nat.one_ne_zero, Bool.false_eq_true,  hx, hy]))
    exact hK
  · rw [decide_eq_false he] at hK
    repeat' (first | done | with_reducible (first | refine y1 ?_ (by omega) | refine y2 ?_ (by omega) | refine y3 (fun _ => ?_) (fun _ => ?_) | refine y4 ?_ (by omega) (by omega) | refine y5 ?_ (by omega) | refine y6 ?_ (by with_unfolding_all rfl) | refine y7 ?_ (by with_unfolding_all rfl) | refine y8 ?_ (by with_unfolding_all rfl) | refine y9 ?_ (by with_unfolding_all rfl) | refine ya ?_ (by with_unfolding_all rfl)) | ((with_reducible refine And.intro ?_ ?_); (· omega)) | (simp -dsimp only [↓cw_ops, ↓cw_plan, ↓cw_seq, ↓cw_block, ↓cw_ret, ↓cw_cond, ↓seqK_normal, ↓seqK_ret, ↓blockK_ret, ↓getK_same, ↓getK_ne, ↓evK_tmp, ↓evK_bool, ↓condV_var, ↓gdV_var, ↓opsW_nil, ↓opsW_d, ↓planW_nil, ↓planW_d, ↓planW_gd, ↓agK_nil, ↓opW_move, ↓opW_assign, ↓opW_pick, ↓opW_bin, ↓bin_eql, ↓ld1_some, ↓resK_one, ↓setAll_cons, ↓setAll_nil, ↓opW_extract, ↓ext_tuple, ↓opW_nilCheck, ↓ta_same, ↓ta_ne, ↓ld_22, ↓ta_106, ↓ta_107, ↓p60_8_w, ↓s60_9_w, ↓r60_10_w, ↓s60_11_w, ↓r60_12_w, ↓s60_13_w, ↓s60_14_w, ↓r60_15_w, ↓s60_16_w, ↓s60_17_w, ↓r60_18_w, ↓s60_19_w, ↓s60_20_w, ↓r60_21_w, ↓s60_22_w, ↓s60_23_w, ↓r60_24_w, ↓s60_25_w, List.getElem?_cons_zero, List.getElem?_cons_succ, onV_some', brK_true, brK_false, Nat.le_refl, true_and, ne_eq, Nat.reduceEqDiff, Nat.reduceAdd, not_false_eq_true, Nat.one_ne_zero, Bool.false_eq_true,  hx, hy]))
    exact hK
theorem equal_ret {B : Nat} {u v : Value} {l m : List UInt8} {h : Heap} {K : Value → Heap → Prop} (r : RdB B h u l) (s : RdB B h v m) (hK : K (.bool (decide (l = m))) h) : Ret env (.func 62) [u, v] h K := by
  refine F62 rfl ?_
  repeat' (first | done | with_reducible (first | refine y1 ?_ (by omega) | refine y2 ?_ (by omega) | refine y3 (fun _ => ?_) (fun _ => ?_) | refine y4 ?_ (by omega) (by omega) | refine y5 ?_ (by omega) | refine y6 ?_ (by with_unfolding_all rfl) | refine y7 ?_ (by with_unfolding_all rfl) | refine y8 ?_ (by with_unfolding_all rfl) | refine y9 ?_ (by with_unfolding_all rfl) | refine ya ?_ (by with_unfolding_all rfl)) | ((with_reducible refine And.intro ?_ ?_); (· omega)) | (simp -dsimp only [↓cw_ops, ↓cw_seq, ↓seqK_normal, ↓getK_same, ↓getK_ne, ↓evK_tmp, ↓evK_bool, ↓opsW_nil, ↓opsW_d, ↓opW_move, ↓opW_assign, ↓setAll_cons, ↓setAll_nil, ↓cv_36_9, ↓r62_0_w, ↓s62_1_w, ↓r62_2_w, ↓s62_3_w, ne_eq, Nat.reduceEqDiff, Nat.reduceAdd, not_false_eq_true, Nat.one_ne_zero]))
  refine bstr_rd r ?_
  repeat' (first | done | with_reducible (first | refine y1 ?_ (by omega) | refine y2 ?_ (by omega) | refine y3 (fun _ => ?_) (fun _ => ?_) | refine y4 ?_ (by omega) (by omega) | refine y5 ?_ (by omega) | refine y6 ?_ (by with_unfolding_all rfl) | refine y7 ?_ (by with_unfolding_all rfl) | refine y8 ?_ (by with_unfolding_all rfl) | refine y9 ?_ (by with_unfolding_all rfl) | refine ya ?_ (by with_unfolding_all rfl)) | ((with_reducible refine And.intro ?_ ?_); (· omega)) | (simp -dsimp only [↓getK_same, ↓getK_ne, ↓evK_tmp, ↓opsW_d, ↓opW_move, ↓setAll_cons, ↓setAll_nil, ↓cv_36_9, ne_eq, Nat.reduceEqDiff, Nat.reduceAdd, not_false_eq_true]))
  refine bstr_rd s ?_
  by_cases he : l = m
  · subst he
    repeat' (first | done | with_reducible (first | refine y1 ?_ (by omega) | refine y2 ?_ (by omega) | refine y3 (fun _ => ?_) (fun _ => ?_) | refine y4 ?_ (by omega) (by omega) | refine y5 ?_ (by omega) | refine y6 ?_ (by with_unfolding_all rfl) | refine y7 ?_ (by with_unfolding_all rfl) | refine y8 ?_ (by with_unfolding_all rfl) | refine y9 ?_ (by with_unfolding_all rfl) | refine ya ?_ (by with_unfolding_all rfl)) | ((with_reducible refine And.intro ?_ ?_); (· omega)) | (simp -dsimp only [↓cw_ret, ↓seqK_normal, ↓getK_same, ↓getK_ne, ↓evK_tmp, ↓opsW_nil, ↓opsW_d, ↓opW_assign, ↓opW_bin, ↓resK_one, ↓bin_eqlS, brK_true, ne_eq, Nat.reduceEqDiff, not_false_eq_true]))
    simpa using hK
  · have hne : ¬ ((⟨l.toArray⟩ : ByteArray) = ⟨m.toArray⟩) := fun e => he (str_inj.1 e)
    repeat' (first | done | with_reducible (first | refine y1 ?_ (by omega) | refine y2 ?_ (by omega) | refine y3 (fun _ => ?_) (fun _ => ?_) | refine y4 ?_ (by omega) (by omega) | refine y5 ?_ (by omega) | refine y6 ?_ (by with_unfolding_all rfl) | refine y7 ?_ (by with_unfolding_all rfl) | refine y8 ?_ (by with_unfolding_all rfl) | refine y9 ?_ (by with_unfolding_all rfl) | refine ya ?_ (by with_unfolding_all rfl)) | ((with_reducible refine And.intro ?_ ?_); (· omega)) | (simp -dsimp only [↓cw_ret, ↓seqK_normal, ↓getK_same, ↓getK_ne, ↓evK_tmp, ↓opsW_nil, ↓opsW_d, ↓opW_assign, ↓opW_bin, ↓resK_one, ↓bin_eqlS, brK_false, ne_eq, Nat.reduceEqDiff, not_false_eq_true, hne]))
    simpa [he] using hK
theorem equalF_ret {B : Nat} {u v : Value} {P Q : List (List UInt8)} {h : Heap} {K : Value → Heap → Prop} (r : RdP B h u P) (s : RdP B h v Q) (hP : P.length ≤ 1000) (hK : ∀ b, (b = true ↔ P = Q) → K (.bool b) h) :
    Ret env (.func 61) [u, v, .func (.func 62) ⟨[]⟩ ⟨[]⟩] h K := by
  obtain ⟨pa, pc, rfl, _⟩ := id r
  obtain ⟨qa, qc, rfl, _⟩ := id s
  refine F61 rfl ?_
  by_cases hlen : P.length = Q.length
  case neg =>
    have hleni : ¬ ((P.length : Int) = (Q.length : Int)) := by omega
    repeat' (first | done | with_reducible (first | refine y1 ?_ (by omega) | refine y2 ?_ (by omega) | refine y3 (fun _ => ?_) (fun _ => ?_) | refine y4 ?_ (by omega) (by omega) | refine y5 ?_ (by omega) | refine y6 ?_ (by with_unfolding_all rfl) | refine y7 ?_ (by with_unfolding_all rfl) | refine y8 ?_ (by with_unfolding_all rfl) | refine y9 ?_ (by with_unfolding_all rfl) | refine ya ?_ (by with_unfolding_all rfl)) | ((with_reducible refine And.intro ?_ ?_); (· omega)) | (simp -dsimp only [↓cw_ops, ↓cw_seq, ↓cw_ret, ↓cw_cond, ↓seqK_normal, ↓seqK_ret, ↓getK_same, ↓getK_ne, ↓evK_tmp, ↓evK_bool, ↓condV_var, ↓opsW_nil, ↓opsW_d, ↓opW_move, ↓opW_assign, ↓opW_bin, ↓bin_neq, ↓lenS_some, ↓resK_one, ↓setAll_cons, ↓setAll_nil, ↓len_23, ↓r61_23_w, ↓s61_24_w, ↓s61_25_w, ↓r61_26_w, ↓s61_27_w, ↓s61_28_w, ↓r61_29_w, ↓s61_30_w, brK_true, brK_false, ne_eq, Nat.reduceEqDiff, Nat.reduceAdd, not_false_eq_true, Nat.one_ne_zero, hleni]))
    exact hK _ ⟨fun h => (by cases h), fun h => absurd (congrArg List.length h) hlen⟩
  have hleni : ((P.length : Int) = (Q.length : Int)) := by omega
  repeat' (first | done | with_reducible (first | refine y1 ?_ (by omega) | refine y2 ?_ (by omega) | refine y3 (fun _ => ?_) (fun _ => ?_) | refine y4 ?_ (by omega) (by omega) | refine y5 ?_ (by omega) | refine y6 ?_ (by with_unfolding_all rfl) | refine y7 ?_ (by with_unfolding_all rfl) | refine y8 ?_ (by with_unfolding_all rfl) | refine y9 ?_ (by with_unfolding_all rfl) | refine ya ?_ (by with_unfolding_all rfl)) | ((with_reducible refine And.intro ?_ ?_); (· omega)) | (simp -dsimp only [↓cw_skip, ↓cw_ops, ↓cw_seq, ↓cw_block, ↓cw_cond, ↓seqK_normal, ↓getK_same, ↓getK_ne, ↓evK_tmp, ↓evK_int, ↓evK_bool, ↓condV_var, ↓opsW_nil, ↓opsW_d, ↓opW_move, ↓opW_assign, ↓opW_bin, ↓bin_neq, ↓lenS_some, ↓setAll_cons, ↓setAll_nil, ↓len_23, ↓s61_18_w, ↓s61_19_w, ↓r61_20_w, ↓s61_21_w, ↓s61_22_w, ↓s61_25_w, ↓r61_26_w, ↓s61_27_w, ↓s61_28_w, ↓r61_29_w, ↓s61_30_w, brK_true, brK_false, ne_eq, Nat.reduceEqDiff, Nat.reduceAdd, not_false_eq_true, Nat.one_ne_zero, Bool.false_eq_true,  hleni]))
  refine cw_loopI (fun m fr' h'' => ∃ k : Nat, k ≤ P.length ∧ m = P.length - k ∧ h'' = h ∧ fr'.get 17 = some (.int .i64 k) ∧ P.take k = Q.take k) P.length ?_ (by omega) ?_
  · exact ⟨0, by omega, by omega, rfl, by simp [T.get_set], rfl⟩
  rintro m fr4 h'' ⟨k, hk, rfl, rfl, f17, hpq⟩ hag
  have e17 := getK_of f17
  have b1 := getK_eq (hag 1 rfl)
  have b2 := getK_eq (hag 2 rfl)
  have b15 := getK_eq (hag 15 rfl)
  have b16 := getK_eq (hag 16 rfl)
  by_cases hlt : k < P.length
  · have hlq : k < Q.length := by omega
    obtain ⟨i, o, ua, uc, rfl, hi, hc, hu⟩ := r.at_ hlt
    obtain ⟨i', o', ua', uc', rfl, hi', hc', hu'⟩ := s.at_ hlq
    repeat' (first | done | with_reducible (first | refine y1 ?_ (by omega) | refine y2 ?_ (by omega) | refine y3 (fun _ => ?_) (fun _ => ?_) | refine y4 ?_ (by omega) (by omega) | refine y5 ?_ (by omega) | refine y6 ?_ (by with_unfolding_all rfl) | refine y7 ?_ (by with_unfolding_all rfl) | refine y8 ?_ (by with_unfolding_all rfl) | refine y9 ?_ (by with_unfolding_all rfl) | refine ya ?_ (by with_unfolding_all rfl)) | ((with_reducible refine And.intro ?_ ?_); (· omega)) | (simp -dsimp only [↓cw_skip, ↓cw_ops, ↓cw_seq, ↓cw_block, ↓cw_cond, ↓seqK_normal, ↓getK_same, ↓getK_ne, ↓evK_tmp, ↓condV_var, ↓opsW_nil, ↓opsW_d, ↓opW_move, ↓opW_assign, ↓opW_bin, ↓bin_lss, ↓ld1_some, ↓idxS_some, ↓evs_nil, ↓evs_cons, ↓opW_callV, ↓callV_some, ↓ia_23, ↓ld_36, ↓r61_7_w, ↓s61_8_w, ↓r61_9_w, ↓s61_10_w, ↓r61_11_w, ↓s61_12_w, ↓s61_13_w, ↓s61_14_w, ↓s61_15_w, ↓r61_16_w, ↓s61_17_w, onV_some', brK_true, ne_eq, Nat.reduceEqDiff, not_false_eq_true, Addr.add_lit, Int.toNat_natCast, ↓e17, ↓b1, ↓b2, ↓b15, ↓b16, Nat.mul_one, hc, hc', hleni, List.nil_append, List.append_nil]))
    refine equal_ret hu hu' ?_
    by_cases he : P[k] = Q[k]
    · rw [decide_eq_true he]
      repeat' (first | done | with_reducible (first | refine y1 ?_ (by omega) | refine y2 ?_ (by omega) | refine y3 (fun _ => ?_) (fun _ => ?_) | refine y4 ?_ (by omega) (by omega) | refine y5 ?_ (by omega) | refine y6 ?_ (by with_unfolding_all rfl) | refine y7 ?_ (by with_unfolding_all rfl) | refine y8 ?_ (by with_unfolding_all rfl) | refine y9 ?_ (by with_unfolding_all rfl) | refine ya ?_ (by with_unfolding_all rfl)) | ((with_reducible refine And.intro ?_ ?_); (· omega)) | (simp -dsimp only [↓cw_skip, ↓cw_ops, ↓cw_cond, ↓seqK_normal, ↓blockK_normal, ↓loopK_normal, ↓getK_same, ↓getK_ne, ↓evK_tmp, ↓evK_int, ↓condV_var, ↓opsW_nil, ↓opsW_d, ↓opW_move, ↓opW_bin, ↓bin_add, ↓opW_un, ↓un_not, ↓r61_2_w, ↓s61_3_w, ↓s61_6_w, brK_false, true_and, ne_eq, Nat.reduceEqDiff, not_false_eq_true, Addr.add_lit, Int.toNat_natCast, Bool.false_eq_true,  ↓e17, Bool.not_true]))
      exact ⟨P.length - (k + 1), by omega, k + 1, by omega, rfl, by simp [T.get_set, wrap_succ (show k ≤ 4611686018427387904 by omega)], by rw [← List.take_append_getElem hlt, ← List.take_append_getElem hlq, hpq, he]⟩
    · rw [decide_eq_false he]
      repeat' (first | done | with_reducible (first | refine y1 ?_ (by omega) | refine y2 ?_ (by omega) | refine y3 (fun _ => ?_) (fun _ => ?_) | refine y4 ?_ (by omega) (by omega) | refine y5 ?_ (by omega) | refine y6 ?_ (by with_unfolding_all rfl) | refine y7 ?_ (by with_unfolding_all rfl) | refine y8 ?_ (by with_unfolding_all rfl) | refine y9 ?_ (by with_unfolding_all rfl) | refine ya ?_ (by with_unfolding_all rfl)) | ((with_reducible refine And.intro ?_ ?_); (· omega)) | (simp -dsimp only [↓cw_ops, ↓cw_seq, ↓cw_ret, ↓cw_cond, ↓seqK_normal, ↓seqK_ret, ↓blockK_ret, ↓loopK_ret, ↓getK_same, ↓evK_tmp, ↓evK_bool, ↓condV_var, ↓opsW_nil, ↓opsW_d, ↓opW_assign, ↓resK_one, ↓opW_un, ↓un_not, ↓r61_4_w, ↓s61_5_w, ↓s61_6_w, brK_true, Bool.not_false]))
      exact hK _ ⟨fun h => (by cases h), fun h => absurd (by simp [h]) he⟩
  · have hkl : k = P.length := by omega
    repeat' (first | done | with_reducible (first | refine y1 ?_ (by omega) | refine y2 ?_ (by omega) | refine y3 (fun _ => ?_) (fun _ => ?_) | refine y4 ?_ (by omega) (by omega) | refine y5 ?_ (by omega) | refine y6 ?_ (by with_unfolding_all rfl) | refine y7 ?_ (by with_unfolding_all rfl) | refine y8 ?_ (by with_unfolding_all rfl) | refine y9 ?_ (by with_unfolding_all rfl) | refine ya ?_ (by with_unfolding_all rfl)) | ((with_reducible refine And.intro ?_ ?_); (· omega)) | (simp -dsimp only [↓cw_ops, ↓cw_seq, ↓cw_exit, ↓cw_ret, ↓cw_cond, ↓seqK_normal, ↓seqK_exit, ↓blockK_same, ↓loopK_exit, ↓getK_same, ↓getK_ne, ↓evK_tmp, ↓evK_bool, ↓condV_var, ↓opsW_nil, ↓opsW_d, ↓opW_assign, ↓opW_bin, ↓bin_lss, ↓resK_one, ↓r61_0_w, ↓s61_1_w, ↓s61_14_w, ↓s61_15_w, ↓r61_16_w, ↓s61_17_w, brK_false, ne_eq, Nat.reduceEqDiff, not_false_eq_true, Bool.false_eq_true,  ↓e17, ↓b16]))
    exact hK _ ⟨fun _ => by
      have h1 : P.take k = P := List.take_of_length_le (by omega)
      have h2 : Q.take k = Q := List.take_of_length_le (by omega)
      rw [h1, h2] at hpq; exact hpq, fun _ => rfl⟩
theorem equalA_ret {B : Nat} {u v : Value} {A D : List ActD} {h : Heap} {K : Value → Heap → Prop} (r : RdA B h u A) (s : RdA B h v D) (hA : A.length ≤ 1000) (hK : ∀ b, (b = true ↔ A = D) → K (.bool b) h) :
    Ret env (.func 24) [u, v] h K := by
  obtain ⟨pa, pc, rfl, _⟩ := id r
  obtain ⟨qa, qc, rfl, _⟩ := id s
  refine F24 rfl ?_
  by_cases hlen : A.length = D.length
  case neg =>
    have hleni : ¬ ((A.length : Int) = (D.length : Int)) := by omega
    repeat' (first | done | with_reducible (first | refine y1 ?_ (by omega) | refine y2 ?_ (by omega) | refine y3 (fun _ => ?_) (fun _ => ?_) | refine y4 ?_ (by omega) (by omega) | refine y5 ?_ (by omega) | refine y6 ?_ (by with_unfolding_all rfl) | refine y7 ?_ (by with_unfolding_all rfl) | refine y8 ?_ (by with_unfolding_all rfl) | refine y9 ?_ (by with_unfolding_all rfl) | refine ya ?_ (by with_unfolding_all rfl)) | ((with_reducible refine And.intro ?_ ?_); (· omega)) | (simp -dsimp only [↓cw_ops, ↓cw_seq, ↓cw_ret, ↓cw_cond, ↓seqK_normal, ↓seqK_ret, ↓getK_same, ↓getK_ne, ↓evK_tmp, ↓evK_bool, ↓condV_var, ↓opsW_nil, ↓opsW_d, ↓opW_move, ↓opW_assign, ↓opW_bin, ↓bin_neq, ↓lenS_some, ↓resK_one, ↓setAll_cons, ↓setAll_nil, ↓len_26, ↓r24_21_w, ↓s24_22_w, ↓s24_23_w, ↓r24_24_w, ↓s24_25_w, ↓s24_26_w, ↓r24_27_w, ↓s24_28_w, brK_true, brK_false, ne_eq, Nat.reduceEqDiff, Nat.reduceAdd, not_false_eq_true, Nat.one_ne_zero, hleni]))
    exact hK _ ⟨fun h => (by cases h), fun h => absurd (congrArg List.length h) hlen⟩
  have hleni : ((A.length : Int) = (D.length : Int)) := by omega
  repeat' (first | done | with_reducible (first | refine y1 ?_ (by omega) | refine y2 ?_ (by omega) | refine y3 (fun _ => ?_) (fun _ => ?_) | refine y4 ?_ (by omega) (by omega) | refine y5 ?_ (by omega) | refine y6 ?_ (by with_unfolding_all rfl) | refine y7 ?_ (by with_unfolding_all rfl) | refine y8 ?_ (by with_unfolding_all rfl) | refine y9 ?_ (by with_unfolding_all rfl) | refine ya ?_ (by with_unfolding_all rfl)) | ((with_reducible refine And.intro ?_ ?_); (· omega)) | (simp -dsimp only [↓cw_skip, ↓cw_ops, ↓cw_seq, ↓cw_block, ↓cw_cond, ↓seqK_normal, ↓getK_same, ↓getK_ne, ↓evK_tmp, ↓evK_int, ↓evK_bool, ↓condV_var, ↓opsW_nil, ↓opsW_d, ↓opW_move, ↓opW_assign, ↓opW_bin, ↓bin_neq, ↓lenS_some, ↓setAll_cons, ↓setAll_nil, ↓len_26, ↓s24_16_w, ↓s24_17_w, ↓r24_18_w, ↓s24_19_w, ↓s24_20_w, ↓s24_23_w, ↓r24_24_w, ↓s24_25_w, ↓s24_26_w, ↓r24_27_w, ↓s24_28_w, brK_true, brK_false, ne_eq, Nat.reduceEqDiff, Nat.reduceAdd, not_false_eq_true, Nat.one_ne_zero, Bool.false_eq_true,  hleni]))
  refine cw_loopI (fun m fr' h'' => ∃ k : Nat, k ≤ A.length ∧ m = A.length - k ∧ h'' = h ∧ fr'.get 13 = some (.int .i64 k) ∧ A.take k = D.take k) A.length ?_ (by omega) ?_
  · exact ⟨0, by omega, by omega, rfl, by simp [T.get_set], rfl⟩
  rintro m fr4 h'' ⟨k, hk, rfl, rfl, f13, hpq⟩ hag
  have e13 := getK_of f13
  have b0 := getK_eq (hag 0 rfl)
  have b1 := getK_eq (hag 1 rfl)
  have b12 := getK_eq (hag 12 rfl)
  by_cases hlt : k < A.length
  · have hlq : k < D.length := by omega
    obtain ⟨i, o, rfl, hi, hc⟩ := r.at_ hlt
    obtain ⟨i', o', rfl, hi', hc'⟩ := s.at_ hlq
    by_cases he : A[k] = D[k]
    · rw [← he] at hc'
      repeat' (first | done | with_reducible (first | refine y1 ?_ (by omega) | refine y2 ?_ (by omega) | refine y3 (fun _ => ?_) (fun _ => ?_) | refine y4 ?_ (by omega) (by omega) | refine y5 ?_ (by omega) | refine y6 ?_ (by with_unfolding_all rfl) | refine y7 ?_ (by with_unfolding_all rfl) | refine y8 ?_ (by with_unfolding_all rfl) | refine y9 ?_ (by with_unfolding_all rfl) | refine ya ?_ (by with_unfolding_all rfl)) | ((with_reducible refine And.intro ?_ ?_); (· omega)) | (simp -dsimp only [↓cw_skip, ↓cw_ops, ↓cw_plan, ↓cw_seq, ↓cw_block, ↓cw_cond, ↓seqK_normal, ↓blockK_normal, ↓loopK_normal, ↓getK_same, ↓getK_ne, ↓evK_tmp, ↓evK_int, ↓condV_var, ↓opsW_nil, ↓opsW_d, ↓planW_nil, ↓planW_d, ↓agK_nil, ↓opW_move, ↓opW_assign, ↓opW_bin, ↓bin_add, ↓bin_lss, ↓ldN_some, ↓idxS_some, ↓ia_26, ↓ld_35, ↓neqA_35, ↓r24_2_w, ↓s24_3_w, ↓s24_6_w, ↓p24_7_w, ↓s24_8_w, ↓r24_9_w, ↓s24_10_w, ↓s24_11_w, ↓s24_12_w, ↓s24_13_w, ↓r24_14_w, ↓s24_15_w, onV_some', brK_true, brK_false, Nat.le_refl, true_and, and_true, ne_eq, Nat.reduceEqDiff, not_false_eq_true, Nat.one_ne_zero, Addr.add_lit, Int.toNat_natCast, Bool.false_eq_true,  ↓e13, ↓b0, ↓b1, ↓b12, hc, hc', hleni]))
      exact ⟨A.length - (k + 1), by omega, k + 1, by omega, rfl, by simp [T.get_set, wrap_succ (show k ≤ 4611686018427387904 by omega)], by rw [← List.take_append_getElem hlt, ← List.take_append_getElem hlq, hpq, he]⟩
    · have hne := fun e => he (actD_eq.1 e)
      repeat' (first | done | with_reducible (first | refine y1 ?_ (by omega) | refine y2 ?_ (by omega) | refine y3 (fun _ => ?_) (fun _ => ?_) | refine y4 ?_ (by omega) (by omega) | refine y5 ?_ (by omega) | refine y6 ?_ (by with_unfolding_all rfl) | refine y7 ?_ (by with_unfolding_all rfl) | refine y8 ?_ (by with_unfolding_all rfl) | refine y9 ?_ (by with_unfolding_all rfl) | refine ya ?_ (by with_unfolding_all rfl)) | ((with_reducible refine And.intro ?_ ?_); (· omega)) | (simp -dsimp only [↓cw_skip, ↓cw_ops, ↓cw_plan, ↓cw_seq, ↓cw_block, ↓cw_ret, ↓cw_cond, ↓seqK_normal, ↓seqK_ret, ↓blockK_normal, ↓blockK_ret, ↓loopK_normal, ↓loopK_ret, ↓getK_same, ↓getK_ne, ↓evK_tmp, ↓evK_int, ↓evK_bool, ↓condV_var, ↓opsW_nil, ↓opsW_d, ↓planW_nil, ↓planW_d, ↓agK_nil, ↓opW_move, ↓opW_assign, ↓opW_bin, ↓bin_add, ↓bin_lss, ↓ldN_some, ↓idxS_some, ↓resK_one, ↓ia_26, ↓ld_35, ↓neqA_35, ↓r24_2_w, ↓s24_3_w, ↓r24_4_w, ↓s24_5_w, ↓s24_6_w, ↓p24_7_w, ↓s24_8_w, ↓r24_9_w, ↓s24_10_w, ↓s24_11_w, ↓s24_12_w, ↓s24_13_w, ↓r24_14_w, ↓s24_15_w, onV_some', brK_true, brK_false, Nat.le_refl, true_and, and_true, ne_eq, Nat.reduceEqDiff, not_false_eq_true, Nat.one_ne_zero, Addr.add_lit, Int.toNat_natCast, Bool.false_eq_true,  ↓e13, ↓b0, ↓b1, ↓b12, hc, hc', hleni]))
      all_goals first
        | exact hK _ ⟨fun h => (by cases h), fun h => absurd (by simp [h]) he⟩
        | (rename_i hh; exact absurd (by simpa using hh) (by simpa using hne))
  · have hkl : k = A.length := by omega
    repeat' (first | done | with_reducible (first | refine y1 ?_ (by omega) | refine y2 ?_ (by omega) | refine y3 (fun _ => ?_) (fun _ => ?_) | refine y4 ?_ (by omega) (by omega) | refine y5 ?_ (by omega) | refine y6 ?_ (by with_unfolding_all rfl) | refine y7 ?_ (by with_unfolding_all rfl) | refine y8 ?_ (by with_unfolding_all rfl) | refine y9 ?_ (by with_unfolding_all rfl) | refine ya ?_ (by with_unfolding_all rfl)) | ((with_reducible refine And.intro ?_ ?_); (· omega)) | (simp -dsimp only [↓cw_ops, ↓cw_seq, ↓cw_exit, ↓cw_ret, ↓cw_cond, ↓seqK_normal, ↓seqK_exit, ↓blockK_same, ↓loopK_exit, ↓getK_same, ↓getK_ne, ↓evK_tmp, ↓evK_bool, ↓condV_var, ↓opsW_nil, ↓opsW_d, ↓opW_assign, ↓opW_bin, ↓bin_lss, ↓resK_one, ↓r24_0_w, ↓s24_1_w, ↓s24_12_w, ↓s24_13_w, ↓r24_14_w, ↓s24_15_w, brK_false, ne_eq, Nat.reduceEqDiff, not_false_eq_true, Bool.false_eq_true,  ↓e13, ↓b12]))
    exact hK _ ⟨fun _ => by
      have h1 : A.take k = A := List.take_of_length_le (by omega)
      have h2 : D.take k = D := List.take_of_length_le (by omega)
      rw [h1, h2] at hpq; exact hpq, fun _ => rfl⟩
theorem Box.get101 {h : Heap} {j i : Nat} {l : List Value} (b : Box h j l 101) (bl : BndL i l) {k : Nat} (hk : k < 14) : cellAt h ⟨j, k * 4 + 1, none⟩ = some (.iface (ptT k) (.pointer (some ⟨i, k, none⟩))) :=
  b.at_ (by rw [Nat.mul_comm]; exact bl.at_ k hk)
theorem cfg_at {c : Nat → Int} {pv : Value} {k : Nat} (hk : k < 14) : (cfgL c pv)[k]? = some (.int (if k < 10 then .i64 else .u64) (c k)) := by
  rcases k with _ | _ | _ | _ | _ | _ | _ | _ | _ | _ | _ | _ | _ | _ | k <;> first | rfl | omega
theorem over_all {l Z : List Value} (h : Z.length = l.length) : over Z 0 l = some l := by
  have := over_mid l [] Z [] h
  simpa using this
theorem two_boxes {h : Heap} {l Z : List Value} {K : Value → Heap → Prop} (hl : l.length = 56) (ho : l.all oneCell = true) (hz : Z.length = 56)
    (k : ∀ h', ExtB h.n h h' → h'.n = h.n + 2 → Box h' h.n l 101 → Box h' (h.n + 1) Z 101 → K undef h') : stK 56 (.pointer (some ⟨h.n, 0, none⟩)) (.agg ⟨l⟩) (newBlk (newBlk h (.cells Z 101 true)) (.cells Z 101 true)) K := by
  have V := (Box.new h Z 101).ext (ExtB.new (.cells Z 101 true) (Nat.le_refl _)) (Nat.lt_succ_self _)
  have W := Box.new (newBlk h (.cells Z 101 true)) Z 101
  have X : ExtB h.n h (newBlk (newBlk h (.cells Z 101 true)) (.cells Z 101 true)) := (ExtB.new _ (Nat.le_refl _)).trans (ExtB.new _ (Nat.le_succ _))
  refine st_at (cs' := l) (l := l) V.get rfl hl (over_all (hz.trans hl.symm)) ho (by decide) ?_
  exact k _ (X.trans (ExtB.set _ (Nat.le_refl _))) rfl V.set (W.setOther (Nat.ne_of_lt (Nat.lt_succ_self _)))
theorem sameC_ret {B : Nat} {c d : Nat → Int} {pv qv : Value} {P Q : List (List UInt8)} {h : Heap} {K : Value → Heap → Prop} (r : RdP B h pv P) (s : RdP B h qv Q) (hB : B ≤ h.n) (hP : P.length ≤ 1000)
    (hK : ∀ b h', ExtB h.n h h' → (b = true ↔ ((∀ i, i < 14 → c i = d i) ∧ P = Q)) → K (.bool b) h') : Ret env (.func 23) [.agg ⟨cfgL c pv⟩, .agg ⟨cfgL d qv⟩] h K := by
  obtain ⟨pa, pc, rfl, _⟩ := id r
  obtain ⟨qa, qc, rfl, _⟩ := id s
  refine F23 rfl ?_
  repeat' (first | done | with_reducible (first | refine y1 ?_ (by omega) | refine y2 ?_ (by omega) | refine y3 (fun _ => ?_) (fun _ => ?_) | refine y4 ?_ (by omega) (by omega) | refine y5 ?_ (by omega) | refine y6 ?_ (by with_unfolding_all rfl) | refine y7 ?_ (by with_unfolding_all rfl) | refine y8 ?_ (by with_unfolding_all rfl) | refine y9 ?_ (by with_unfolding_all rfl) | refine ya ?_ (by with_unfolding_all rfl)) | ((with_reducible refine And.intro ?_ ?_); (· omega)) | (simp -dsimp only [↓cw_ops, ↓cw_seq, ↓seqK_normal, ↓getK_same, ↓getK_ne, ↓evK_tmp, ↓evK_bool, ↓opsW_nil, ↓opsW_d, ↓opW_assign, ↓evs_nil, ↓evs_cons, ↓setAll_cons, ↓setAll_nil, ↓opW_box, ↓box_agg, ↓callE, ↓r23_21_w, ↓s23_22_w, ↓r23_23_w, ↓s23_24_w, true_and, ne_eq, Nat.reduceEqDiff, Nat.reduceAdd, not_false_eq_true, Nat.one_ne_zero, cfg_one]))
  have V := Box.new h (cfgL c (.slice pa P.length pc)) 25
  have X : ExtB h.n h (newBlk h (.cells (cfgL c (.slice pa P.length pc)) 25 true)) := ExtB.new _ (Nat.le_refl _)
  have hn1 : (newBlk h (.cells (cfgL c (.slice pa P.length pc)) 25 true)).n = h.n + 1 := rfl
  generalize newBlk h (.cells (cfgL c (.slice pa P.length pc)) 25 true) = h1 at V X hn1 ⊢
  have W := Box.new h1 (cfgL d (.slice qa Q.length qc)) 25
  have X1 : ExtB h1.n h1 (newBlk h1 (.cells (cfgL d (.slice qa Q.length qc)) 25 true)) := ExtB.new _ (Nat.le_refl _)
  have hn2 : (newBlk h1 (.cells (cfgL d (.slice qa Q.length qc)) 25 true)).n = h.n + 2 := by show h1.n + 1 = _; omega
  rw [hn1] at W ⊢
  replace V := V.ext X1 (by omega)
  replace X := X.trans (X1.mono (by omega))
  generalize newBlk h1 (.cells (cfgL d (.slice qa Q.length qc)) 25 true) = h2 at V W X hn2 ⊢
  clear X1 hn1
  refine bounds_ret fun l1 h3 X3 bl1 => ?_
  have n3 := X3.n
  have V3 := V.ext X3 (by omega)
  have W3 := W.ext X3 (by omega)
  repeat' (first | done | with_reducible (first | refine y1 ?_ (by omega) | refine y2 ?_ (by omega) | refine y3 (fun _ => ?_) (fun _ => ?_) | refine y4 ?_ (by omega) (by omega) | refine y5 ?_ (by omega) | refine y6 ?_ (by with_unfolding_all rfl) | refine y7 ?_ (by with_unfolding_all rfl) | refine y8 ?_ (by with_unfolding_all rfl) | refine y9 ?_ (by with_unfolding_all rfl) | refine ya ?_ (by with_unfolding_all rfl)) | ((with_reducible refine And.intro ?_ ?_); (· omega)) | (simp -dsimp only [↓getK_same, ↓getK_ne, ↓evK_tmp, ↓opsW_d, ↓evs_nil, ↓evs_cons, ↓callE, ne_eq, Nat.reduceEqDiff, not_false_eq_true]))
  refine bounds_ret fun l2 h4 X4 bl2 => ?_
  have n4 := X4.n
  have V4 := V3.ext X4 (by omega)
  have W4 := W3.ext X4 (by omega)
  replace X := (X.trans (X3.mono (by omega))).trans (X4.mono (by omega))
  clear X3 X4 V3 W3 V W
  repeat' (first | done | with_reducible (first | refine y1 ?_ (by omega) | refine y2 ?_ (by omega) | refine y3 (fun _ => ?_) (fun _ => ?_) | refine y4 ?_ (by omega) (by omega) | refine y5 ?_ (by omega) | refine y6 ?_ (by with_unfolding_all rfl) | refine y7 ?_ (by with_unfolding_all rfl) | refine y8 ?_ (by with_unfolding_all rfl) | refine y9 ?_ (by with_unfolding_all rfl) | refine ya ?_ (by with_unfolding_all rfl)) | ((with_reducible refine And.intro ?_ ?_); (· omega)) | (simp -dsimp only [↓getK_same, ↓getK_ne, ↓evK_tmp, ↓opsW_d, ↓opsW_n, ↓al_101, ↓st_101, ne_eq, Nat.reduceEqDiff, not_false_eq_true]))
  refine two_boxes bl1.len bl1.one rfl fun h5 X5 n5 Y5 Z5 => ?_
  have V5 := V4.ext X5 (by omega)
  have W5 := W4.ext X5 (by omega)
  repeat' (first | done | with_reducible (first | refine y1 ?_ (by omega) | refine y2 ?_ (by omega) | refine y3 (fun _ => ?_) (fun _ => ?_) | refine y4 ?_ (by omega) (by omega) | refine y5 ?_ (by omega) | refine y6 ?_ (by with_unfolding_all rfl) | refine y7 ?_ (by with_unfolding_all rfl) | refine y8 ?_ (by with_unfolding_all rfl) | refine y9 ?_ (by with_unfolding_all rfl) | refine ya ?_ (by with_unfolding_all rfl)) | ((with_reducible refine And.intro ?_ ?_); (· omega)) | (simp -dsimp only [↓getK_same, ↓getK_ne, ↓evK_tmp, ↓opsW_n, ↓st_101, newBlk_n, ne_eq, Nat.reduceEqDiff, not_false_eq_true]))
  refine st_at (cs' := l2) (l := l2) Z5.get rfl bl2.len (over_all (by rw [bl2.len]; rfl)) bl2.one (by decide) ?_
  have Z6 := Z5.set (cs' := l2)
  have Y6 : Box { h5 with b := h5.b.set (h4.n + 1) (.cells l2 101 true) } h4.n l1 101 := Y5.setOther (by omega)
  have V6 : Box { h5 with b := h5.b.set (h4.n + 1) (.cells l2 101 true) } h.n (cfgL c (.slice pa P.length pc)) 25 := V5.setOther (by omega)
  have W6 : Box { h5 with b := h5.b.set (h4.n + 1) (.cells l2 101 true) } (h.n + 1) (cfgL d (.slice qa Q.length qc)) 25 := W5.setOther (by omega)
  have X6 : ExtB h.n h5 { h5 with b := h5.b.set (h4.n + 1) (.cells l2 101 true) } := ExtB.set _ (by omega)
  generalize ({ h5 with b := h5.b.set (h4.n + 1) (.cells l2 101 true) } : Heap) = h6 at Z6 Y6 V6 W6 X6 ⊢
  replace X := (X.trans (X5.mono (by omega))).trans X6
  clear X5 X6 V5 W5 V4 W4 Y5 Z5
  repeat' (first | done | with_reducible (first | refine y1 ?_ (by omega) | refine y2 ?_ (by omega) | refine y3 (fun _ => ?_) (fun _ => ?_) | refine y4 ?_ (by omega) (by omega) | refine y5 ?_ (by omega) | refine y6 ?_ (by with_unfolding_all rfl) | refine y7 ?_ (by with_unfolding_all rfl) | refine y8 ?_ (by with_unfolding_all rfl) | refine y9 ?_ (by with_unfolding_all rfl) | refine ya ?_ (by with_unfolding_all rfl)) | ((with_reducible refine And.intro ?_ ?_); (· omega)) | (simp -dsimp only [↓cw_ops, ↓cw_seq, ↓cw_block, ↓seqK_normal, ↓evK_int, ↓opsW_nil, ↓opsW_d, ↓opW_move, ↓setAll_cons, ↓setAll_nil, ↓s23_16_w, ↓s23_17_w, ↓r23_18_w, ↓s23_19_w, ↓s23_20_w, newBlk_n, Nat.reduceAdd]))
  refine cw_loopI (fun m fr' h' => ∃ k : Nat, k ≤ 14 ∧ m = 14 - k ∧ h' = h6 ∧ fr'.get 10 = some (.int .i64 k) ∧ ∀ i, i < k → c i = d i) 14 ?_ (by omega) ?_
  · exact ⟨0, by omega, by omega, rfl, by simp [T.get_set], fun i hi => by omega⟩
  rintro m fr2 h' ⟨k, hk, rfl, rfl, f10, hcd⟩ hag
  have e10 := getK_of f10
  have b2 := getK_eq (hag 2 rfl)
  have b3 := getK_eq (hag 3 rfl)
  have b5 := getK_eq (hag 5 rfl)
  have b6 := getK_eq (hag 6 rfl)
  by_cases hlt : k < 14
  · have c5 := Y6.get101 bl1 hlt
    have d5 := Z6.get101 bl2 hlt
    have c7 := V6.at_ (cfg_at hlt)
    have d7 := W6.at_ (cfg_at hlt)
    repeat' (first | done | with_reducible (first | refine y1 ?_ (by omega) | refine y2 ?_ (by omega) | refine y3 (fun _ => ?_) (fun _ => ?_) | refine y4 ?_ (by omega) (by omega) | refine y5 ?_ (by omega) | refine y6 ?_ (by with_unfolding_all rfl) | refine y7 ?_ (by with_unfolding_all rfl) | refine y8 ?_ (by with_unfolding_all rfl) | refine y9 ?_ (by with_unfolding_all rfl) | refine ya ?_ (by with_unfolding_all rfl)) | ((with_reducible refine And.intro ?_ ?_); (· omega)) | (simp -dsimp only [↓cw_skip, ↓cw_ops, ↓cw_plan, ↓cw_seq, ↓cw_block, ↓cw_cond, ↓seqK_normal, ↓getK_same, ↓getK_ne, ↓evK_tmp, ↓evK_int, ↓condV_var, ↓opsW_nil, ↓opsW_d, ↓planW_d, ↓agK_nil, ↓opW_move, ↓opW_assign, ↓opW_bin, ↓bin_lss, ↓ld1_some, ↓fldA_some, ↓evs_nil, ↓evs_cons, ↓idxA_some, ↓callE, ↓ia_101, ↓fa_100_1, ↓ld_20, ↓p23_7_w, ↓s23_8_w, ↓r23_9_w, ↓s23_10_w, ↓s23_11_w, ↓s23_12_w, ↓s23_13_w, ↓r23_14_w, ↓s23_15_w, onV_some', brK_true, Nat.le_refl, true_and, ne_eq, Nat.reduceEqDiff, not_false_eq_true, Addr.add_lit, Int.toNat_natCast, ↓e10, ↓b5, ↓b6, Nat.zero_add, c5, d5]))
    have fin : ∀ b : Bool, (b = true ↔ c k = d k) → True := fun _ _ => trivial
    by_cases h10 : k < 10
    · simp only [ptT, h10, if_true] at c7 d7 ⊢
      refine alikeI_ret c7 d7 ?_
      by_cases hcdk : c k = d k
      · rw [decide_eq_true hcdk]
        repeat' (first | done | with_reducible (first | refine y1 ?_ (by omega) | refine y2 ?_ (by omega) | refine y3 (fun _ => ?_) (fun _ => ?_) | refine y4 ?_ (by omega) (by omega) | refine y5 ?_ (by omega) | refine y6 ?_ (by with_unfolding_all rfl) | refine y7 ?_ (by with_unfolding_all rfl) | refine y8 ?_ (by with_unfolding_all rfl) | refine y9 ?_ (by with_unfolding_all rfl) | refine ya ?_ (by with_unfolding_all rfl)) | ((with_reducible refine And.intro ?_ ?_); (· omega)) | (simp -dsimp only [↓cw_skip, ↓cw_ops, ↓cw_cond, ↓seqK_normal, ↓blockK_normal, ↓loopK_normal, ↓getK_same, ↓getK_ne, ↓evK_tmp, ↓evK_int, ↓condV_var, ↓opsW_nil, ↓opsW_d, ↓planW_nil, ↓planW_d, ↓agK_nil, ↓opW_move, ↓opW_bin, ↓bin_add, ↓opW_un, ↓un_not, ↓r23_2_w, ↓s23_3_w, ↓s23_6_w, brK_false, Nat.le_refl, true_and, ne_eq, Nat.reduceEqDiff, not_false_eq_true, Addr.add_lit, Int.toNat_natCast, Bool.false_eq_true,  ↓e10, Bool.not_true]))
        exact ⟨14 - (k + 1), by omega, k + 1, by omega, rfl, by simp [T.get_set, wrap_succ (show k ≤ 4611686018427387904 by omega)], fun i hi => by
          by_cases e : i = k
          · rw [e]; exact hcdk
          · exact hcd i (by omega)⟩
      · rw [decide_eq_false hcdk]
        repeat' (first | done | with_reducible (first | refine y1 ?_ (by omega) | refine y2 ?_ (by omega) | refine y3 (fun _ => ?_) (fun _ => ?_) | refine y4 ?_ (by omega) (by omega) | refine y5 ?_ (by omega) | refine y6 ?_ (by with_unfolding_all rfl) | refine y7 ?_ (by with_unfolding_all rfl) | refine y8 ?_ (by with_unfolding_all rfl) | refine y9 ?_ (by with_unfolding_all rfl) | refine ya ?_ (by with_unfolding_all rfl)) | ((with_reducible refine And.intro ?_ ?_); (· omega)) | (simp -dsimp only [↓cw_ops, ↓cw_seq, ↓cw_ret, ↓cw_cond, ↓seqK_normal, ↓seqK_ret, ↓blockK_ret, ↓loopK_ret, ↓getK_same, ↓evK_tmp, ↓evK_bool, ↓condV_var, ↓opsW_nil, ↓opsW_d, ↓planW_nil, ↓planW_d, ↓agK_nil, ↓opW_assign, ↓resK_one, ↓opW_un, ↓un_not, ↓r23_4_w, ↓s23_5_w, ↓s23_6_w, brK_true, Nat.le_refl, true_and, Bool.not_false]))
        exact hK _ _ X ⟨fun h => (by cases h), fun h => absurd (h.1 k hlt) hcdk⟩
    · simp only [ptT, h10, if_false] at c7 d7 ⊢
      refine alikeU_ret c7 d7 ?_
      by_cases hcdk : c k = d k
      · rw [decide_eq_true hcdk]
        repeat' (first | done | with_reducible (first | refine y1 ?_ (by omega) | refine y2 ?_ (by omega) | refine y3 (fun _ => ?_) (fun _ => ?_) | refine y4 ?_ (by omega) (by omega) | refine y5 ?_ (by omega) | refine y6 ?_ (by with_unfolding_all rfl) | refine y7 ?_ (by with_unfolding_all rfl) | refine y8 ?_ (by with_unfolding_all rfl) | refine y9 ?_ (by with_unfolding_all rfl) | refine ya ?_ (by with_unfolding_all rfl)) | ((with_reducible refine And.intro ?_ ?_); (· omega)) | (simp -dsimp only [↓cw_skip, ↓cw_ops, ↓cw_cond, ↓seqK_normal, ↓blockK_normal, ↓loopK_normal, ↓getK_same, ↓getK_ne, ↓evK_tmp, ↓evK_int, ↓condV_var, ↓opsW_nil, ↓opsW_d, ↓planW_nil, ↓planW_d, ↓agK_nil, ↓opW_move, ↓opW_bin, ↓bin_add, ↓opW_un, ↓un_not, ↓r23_2_w, ↓s23_3_w, ↓s23_6_w, brK_false, Nat.le_refl, true_and, ne_eq, Nat.reduceEqDiff, not_false_eq_true, Addr.add_lit, Int.toNat_natCast, Bool.false_eq_true,  ↓e10, Bool.not_true]))
        exact ⟨14 - (k + 1), by omega, k + 1, by omega, rfl, by simp [T.get_set, wrap_succ (show k ≤ 4611686018427387904 by omega)], fun i hi => by
          by_cases e : i = k
          · rw [e]; exact hcdk
          · exact hcd i (by omega)⟩
      · rw [decide_eq_false hcdk]
        repeat' (first | done | with_reducible (first | refine y1 ?_ (by omega) | refine y2 ?_ (by omega) | refine y3 (fun _ => ?_) (fun _ => ?_) | refine y4 ?_ (by omega) (by omega) | refine y5 ?_ (by omega) | refine y6 ?_ (by with_unfolding_all rfl) | refine y7 ?_ (by with_unfolding_all rfl) | refine y8 ?_ (by with_unfolding_all rfl) | refine y9 ?_ (by with_unfolding_all rfl) | refine ya ?_ (by with_unfolding_all rfl)) | ((with_reducible refine And.intro ?_ ?_); (· omega)) | (simp -dsimp only [↓cw_ops, ↓cw_seq, ↓cw_ret, ↓cw_cond, ↓seqK_normal, ↓seqK_ret, ↓blockK_ret, ↓loopK_ret, ↓getK_same, ↓evK_tmp, ↓evK_bool, ↓condV_var, ↓opsW_nil, ↓opsW_d, ↓planW_nil, ↓planW_d, ↓agK_nil, ↓opW_assign, ↓resK_one, ↓opW_un, ↓un_not, ↓r23_4_w, ↓s23_5_w, ↓s23_6_w, brK_true, Nat.le_refl, true_and, Bool.not_false]))
        exact hK _ _ X ⟨fun h => (by cases h), fun h => absurd (h.1 k hlt) hcdk⟩
  · have k14 : k = 14 := by omega
    subst k14
    have dv := V6.cfg
    have dw := W6.cfg
    repeat' (first | done | with_reducible (first | refine y1 ?_ (by omega) | refine y2 ?_ (by omega) | refine y3 (fun _ => ?_) (fun _ => ?_) | refine y4 ?_ (by omega) (by omega) | refine y5 ?_ (by omega) | refine y6 ?_ (by with_unfolding_all rfl) | refine y7 ?_ (by with_unfolding_all rfl) | refine y8 ?_ (by with_unfolding_all rfl) | refine y9 ?_ (by with_unfolding_all rfl) | refine ya ?_ (by with_unfolding_all rfl)) | ((with_reducible refine And.intro ?_ ?_); (· omega)) | (simp -dsimp only [↓cw_ops, ↓cw_seq, ↓cw_exit, ↓cw_cond, ↓seqK_normal, ↓seqK_exit, ↓blockK_same, ↓loopK_exit, ↓getK_same, ↓getK_ne, ↓evK_tmp, ↓evK_int, ↓evK_func, ↓condV_var, ↓opsW_nil, ↓opsW_d, ↓opW_bin, ↓bin_lss, ↓ld1_some, ↓fldA_some, ↓evs_nil, ↓evs_cons, ↓callE, ↓fa_25_14, ↓ld_23, ↓r23_0_w, ↓s23_1_w, ↓s23_12_w, ↓s23_13_w, ↓r23_14_w, ↓s23_15_w, onV_some', brK_false, ne_eq, Nat.reduceEqDiff, Nat.reduceAdd, not_false_eq_true, Addr.add_lit, Bool.false_eq_true,  ↓e10, ↓b2, ↓b3, dv, dw]))
    refine equalF_ret (r.ext (X.mono hB)) (s.ext (X.mono hB)) hP fun b hb => ?_
    repeat' (first | done | with_reducible (first | refine y1 ?_ (by omega) | refine y2 ?_ (by omega) | refine y3 (fun _ => ?_) (fun _ => ?_) | refine y4 ?_ (by omega) (by omega) | refine y5 ?_ (by omega) | refine y6 ?_ (by with_unfolding_all rfl) | refine y7 ?_ (by with_unfolding_all rfl) | refine y8 ?_ (by with_unfolding_all rfl) | refine y9 ?_ (by with_unfolding_all rfl) | refine ya ?_ (by with_unfolding_all rfl)) | ((with_reducible refine And.intro ?_ ?_); (· omega)) | (simp -dsimp only [↓cw_ret, ↓seqK_normal, ↓getK_same, ↓evK_tmp, ↓opsW_nil, ↓opsW_d, ↓opW_assign, ↓resK_one]))
    exact hK _ _ X (hb.trans ⟨fun h => ⟨hcd, h⟩, fun h => h.2⟩)
theorem sameS_ret {B : Nat} {c d : Nat → Int} {pv qv av dv : Value} {P Q : List (List UInt8)} {A D : List ActD} {h : Heap} {K : Value → Heap → Prop} (r : RdP B h pv P) (s : RdP B h qv Q) (ra : RdA B h av A) (rd : RdA B h dv D) (hB : B ≤ h.n)
    (hP : P.length ≤ 1000) (hA : A.length ≤ 1000)
    (hK : ∀ b h', ExtB h.n h h' → (b = true ↔ ((∀ i, i < 14 → c i = d i) ∧ P = Q ∧ A = D)) → K (.bool b) h') : Ret env (.func 11) [.agg ⟨scrL c pv av⟩, .agg ⟨scrL d qv dv⟩] h K := by
  obtain ⟨pa, pc, rfl, _⟩ := id r
  obtain ⟨qa, qc, rfl, _⟩ := id s
  obtain ⟨aa, ac, rfl, _⟩ := id ra
  obtain ⟨da, dc, rfl, _⟩ := id rd
  refine F11 rfl ?_
  repeat' (first | done | with_reducible (first | refine y1 ?_ (by omega) | refine y2 ?_ (by omega) | refine y3 (fun _ => ?_) (fun _ => ?_) | refine y4 ?_ (by omega) (by omega) | refine y5 ?_ (by omega) | refine y6 ?_ (by with_unfolding_all rfl) | refine y7 ?_ (by with_unfolding_all rfl) | refine y8 ?_ (by with_unfolding_all rfl) | refine y9 ?_ (by with_unfolding_all rfl) | refine ya ?_ (by with_unfolding_all rfl)) | ((with_reducible refine And.intro ?_ ?_); (· omega)) | (simp -dsimp only [↓cw_ops, ↓cw_seq, ↓seqK_normal, ↓getK_same, ↓getK_ne, ↓evK_tmp, ↓evK_bool, ↓opsW_nil, ↓opsW_d, ↓opW_assign, ↓ldN_some, ↓fldA_some, ↓setAll_cons, ↓setAll_nil, ↓opW_box, ↓box_agg, ↓fa_28_0, ↓ld_25, ↓r11_0_w, ↓s11_1_w, ↓r11_2_w, ↓s11_3_w, true_and, ne_eq, Nat.reduceEqDiff, Nat.reduceAdd, not_false_eq_true, Nat.one_ne_zero, Nat.add_zero, Addr.add_lit, scr_one]))
  have V := Box.new h (scrL c (.slice pa P.length pc) (.slice aa A.length ac)) 28
  have X : ExtB h.n h (newBlk h (.cells (scrL c (.slice pa P.length pc) (.slice aa A.length ac)) 28 true)) := ExtB.new _ (Nat.le_refl _)
  have hn1 : (newBlk h (.cells (scrL c (.slice pa P.length pc) (.slice aa A.length ac)) 28 true)).n = h.n + 1 := rfl
  generalize newBlk h (.cells (scrL c (.slice pa P.length pc) (.slice aa A.length ac)) 28 true) = h1 at V X hn1 ⊢
  have W := Box.new h1 (scrL d (.slice qa Q.length qc) (.slice da D.length dc)) 28
  have X1 : ExtB h1.n h1 (newBlk h1 (.cells (scrL d (.slice qa Q.length qc) (.slice da D.length dc)) 28 true)) := ExtB.new _ (Nat.le_refl _)
  have hn2 : (newBlk h1 (.cells (scrL d (.slice qa Q.length qc) (.slice da D.length dc)) 28 true)).n = h.n + 2 := by show h1.n + 1 = _; omega
  rw [hn1] at W ⊢
  replace V := V.ext X1 (by omega)
  replace X := X.trans (X1.mono (by omega))
  generalize newBlk h1 (.cells (scrL d (.slice qa Q.length qc) (.slice da D.length dc)) 28 true) = h2 at V W X hn2 ⊢
  clear X1 hn1
  have dv := V.scr
  have dw := W.scr
  repeat' (first | done | with_reducible (first | refine y1 ?_ (by omega) | refine y2 ?_ (by omega) | refine y3 (fun _ => ?_) (fun _ => ?_) | refine y4 ?_ (by omega) (by omega) | refine y5 ?_ (by omega) | refine y6 ?_ (by with_unfolding_all rfl) | refine y7 ?_ (by with_unfolding_all rfl) | refine y8 ?_ (by with_unfolding_all rfl) | refine y9 ?_ (by with_unfolding_all rfl) | refine ya ?_ (by with_unfolding_all rfl)) | ((with_reducible refine And.intro ?_ ?_); (· omega)) | (simp -dsimp only [↓getK_same, ↓getK_ne, ↓evK_tmp, ↓opsW_d, ↓ldN_some, ↓fldA_some, ↓evs_nil, ↓evs_cons, ↓callE, ↓fa_28_0, ↓ld_25, onV_some', ne_eq, Nat.reduceEqDiff, not_false_eq_true, Nat.add_zero, Addr.add_lit, dv, dw]))
  refine sameC_ret (r.ext (X.mono hB)) (s.ext (X.mono hB)) (by omega) hP fun b h3 X3 hb => ?_
  have n3 := X3.n
  have V3 := V.ext X3 (by omega)
  have W3 := W.ext X3 (by omega)
  have dv3 := V3.scr
  have dw3 := W3.scr
  replace X := X.trans (X3.mono (by omega))
  cases b with
  | false =>
    repeat' (first | done | with_reducible (first | refine y1 ?_ (by omega) | refine y2 ?_ (by omega) | refine y3 (fun _ => ?_) (fun _ => ?_) | refine y4 ?_ (by omega) (by omega) | refine y5 ?_ (by omega) | refine y6 ?_ (by with_unfolding_all rfl) | refine y7 ?_ (by with_unfolding_all rfl) | refine y8 ?_ (by with_unfolding_all rfl) | refine y9 ?_ (by with_unfolding_all rfl) | refine ya ?_ (by with_unfolding_all rfl)) | ((with_reducible refine And.intro ?_ ?_); (· omega)) | (simp -dsimp only [↓cw_ret, ↓seqK_normal, ↓getK_same, ↓getK_ne, ↓evK_tmp, ↓evK_bool, ↓condV_var, ↓gdV_var, ↓opsW_nil, ↓opsW_d, ↓opsW_gd, ↓opW_move, ↓opW_assign, ↓opW_pick, ↓resK_one, brK_false, ne_eq, Nat.reduceEqDiff, not_false_eq_true, Bool.false_eq_true]))
    exact hK _ _ X ⟨fun h => (by cases h), fun h => (by have := hb.2 ⟨h.1, h.2.1⟩; cases this)⟩
  | true =>
  have hb := hb.1 rfl
  repeat' (first | done | with_reducible (first | refine y1 ?_ (by omega) | refine y2 ?_ (by omega) | refine y3 (fun _ => ?_) (fun _ => ?_) | refine y4 ?_ (by omega) (by omega) | refine y5 ?_ (by omega) | refine y6 ?_ (by with_unfolding_all rfl) | refine y7 ?_ (by with_unfolding_all rfl) | refine y8 ?_ (by with_unfolding_all rfl) | refine y9 ?_ (by with_unfolding_all rfl) | refine ya ?_ (by with_unfolding_all rfl)) | ((with_reducible refine And.intro ?_ ?_); (· omega)) | (simp -dsimp only [↓getK_same, ↓getK_ne, ↓evK_tmp, ↓gdV_var, ↓opsW_d, ↓opsW_gd, ↓opW_move, ↓ld1_some, ↓fldA_some, ↓evs_nil, ↓evs_cons, ↓callE, ↓fa_28_1, ↓ld_26, onV_some', brK_true, ne_eq, Nat.reduceEqDiff, Nat.reduceAdd, not_false_eq_true, Addr.add_lit, dv3, dw3]))
  refine equalA_ret (ra.ext (X.mono hB)) (rd.ext (X.mono hB)) hA fun b hb2 => ?_
  repeat' (first | done | with_reducible (first | refine y1 ?_ (by omega) | refine y2 ?_ (by omega) | refine y3 (fun _ => ?_) (fun _ => ?_) | refine y4 ?_ (by omega) (by omega) | refine y5 ?_ (by omega) | refine y6 ?_ (by with_unfolding_all rfl) | refine y7 ?_ (by with_unfolding_all rfl) | refine y8 ?_ (by with_unfolding_all rfl) | refine y9 ?_ (by with_unfolding_all rfl) | refine ya ?_ (by with_unfolding_all rfl)) | ((with_reducible refine And.intro ?_ ?_); (· omega)) | (simp -dsimp only [↓cw_ret, ↓seqK_normal, ↓getK_same, ↓getK_ne, ↓evK_tmp, ↓condV_var, ↓opsW_nil, ↓opsW_d, ↓opW_assign, ↓opW_pick, ↓resK_one, brK_true, ne_eq, Nat.reduceEqDiff, not_false_eq_true]))
  exact hK _ _ X (hb2.trans ⟨fun h => ⟨hb.1, hb.2, h⟩, fun h => h.2.2⟩)
end Go.Proofs.YtohjaacnlmkhbaaGreatDoor

namespace Go.Proofs.YtohjaacnlmkhbaaGreatDoor
open Go.Ev
set_option maxRecDepth 100000
set_option maxHeartbeats 400000
theorem known_ret {h : Heap} {K : Value → Heap → Prop} (ht : tabsOk tabs h = true) (hK : K (.bool true) h) : Ret env (.func 7) [] h K := by
  refine Ret.ext (v := .bool true) ?_ hK
  show extTab tabs ext5 7 7 [] h = _
  simp only [extTab, Nat.beq_refl, cond_true, ht]
theorem tabs_ext {B : Nat} {h h' : Heap} (hB : 2 < B) (e : ExtB B h h') (ht : tabsOk tabs h = true) : tabsOk tabs h' = true := by
  simp only [tabsOk, tabs, List.all_cons, List.all_nil, Bool.and_true, Bool.and_eq_true] at ht ⊢
  rw [e.get 0 (by omega), e.get 2 (by omega)]
  exact ht
/-! what is written into a copy -/
def Only (i : Nat) (h h' : Heap) : Prop := h'.n = h.n ∧ ∀ j, j ≠ i → h'.b.get j = h.b.get j
theorem ownS_only {B i : Nat} {h h' : Heap} {e e' : TypeId} {b : Bool} {v : Value} {n : Nat} {cs ds : List Value} (o : OwnS B h e' v n cs) (hi : h.b.get i = some (.cells ds e b)) (hne : e ≠ e') (x : Only i h h') : OwnS B h' e' v n cs := by
  cases o with
  | nil => exact .nil
  | emp j hj => exact .emp j (by rw [x.1]; exact hj)
  | row j n cs h1 h2 h3 =>
    refine .row j n cs h1 (by rw [x.1]; exact h2) ?_
    rw [x.2 j (fun e0 => ?_)]; exact h3
    subst e0
    rw [hi] at h3
    simp only [Option.some.injEq, Blk.cells.injEq] at h3
    exact hne h3.2.1
theorem box_only {i j : Nat} {h h' : Heap} {e e' : TypeId} {b : Bool} {cs ds : List Value} (o : Box h j cs e') (hi : h.b.get i = some (.cells ds e b)) (hne : e ≠ e') (x : Only i h h') : Box h' j cs e' := by
  refine ⟨by rw [x.1]; exact o.lt, ?_⟩
  rw [x.2 j (fun e0 => ?_)]; exact o.get
  subst e0
  have := o.get
  rw [hi] at this
  simp only [Option.some.injEq, Blk.cells.injEq] at this
  exact hne this.2.1
/-- a row of numbers of the call's own -/
def MutR (B : Nat) (h : Heap) (e : TypeId) (k : IntKind) (v : Value) (n m : Nat) : Prop := ∃ cs, OwnS B h e v n cs ∧ cs.length = m ∧ ∀ (j : Nat) x, cs[j]? = some x → ∃ z, x = .int k z
theorem mut_store {B : Nat} {h : Heap} {e : TypeId} {kd : IntKind} {v : Value} {n m j : Nat} (r : MutR B h e kd v n m) (hj : j < m) :
    ∃ i z, v = .slice (some ⟨i, 0, none⟩) n UNK ∧ cellAt h ⟨i, j, none⟩ = some (.int kd z) ∧ B ≤ i ∧ (∃ ds, h.b.get i = some (.cells ds e false)) ∧ ∀ (z' : Int) (K : Value → Heap → Prop),
      (∀ h', ExtB B h h' → Only i h h' → (∀ u n' m', MutR B h e kd u n' m' → MutR B h' e kd u n' m') → K undef h') → stK 1 (.pointer (some ⟨i, j, none⟩)) (.int kd z') h K := by
  obtain ⟨cs, o, hl, hz⟩ := r
  cases o with
  | nil => simp at hl; omega
  | emp i hi => simp at hl; omega
  | row i n cs h1 h2 h3 =>
    obtain ⟨z, hzj⟩ := hz j _ (List.getElem?_eq_getElem (by omega))
    refine ⟨i, z, rfl, cellAt_blk h2 h3 (by rw [List.getElem?_eq_getElem (by omega), hzj]), h1, ⟨cs, h3⟩, fun z' K k => ?_⟩
    have ho : over cs j [.int kd z'] = some (cs.take j ++ ([.int kd z'] ++ cs.drop (j + 1))) := by
      have := over_mid [.int kd z'] (cs.take j) [cs[j]'(by omega)] (cs.drop (j + 1)) rfl
      rw [List.length_take, Nat.min_eq_left (by omega)] at this
      rw [List.singleton_append, List.getElem_cons_drop, List.take_append_drop] at this
      exact this
    refine st_at (cs' := cs.take j ++ ([.int kd z'] ++ cs.drop (j + 1))) (l := [.int kd z']) h3 rfl rfl ho rfl (by decide) ?_
    refine k _ (ExtB.set _ h1) ⟨rfl, fun j hj => T.get_set_ne _ _ (Ne.symm hj)⟩ fun u n' m' ⟨ds, od, dl, dz⟩ => ?_
    cases od with
    | nil => exact ⟨[], .nil, dl, dz⟩
    | emp i' hi' => exact ⟨[], .emp i' hi', dl, dz⟩
    | row i' n' ds g1 g2 g3 =>
      by_cases e0 : i' = i
      · subst e0
        rw [h3] at g3
        simp only [Option.some.injEq, Blk.cells.injEq] at g3
        obtain ⟨rfl, _⟩ := g3
        refine ⟨_, .row i' n' _ g1 g2 (T.get_set_same _ _ _), by simp; omega, fun q x hq => ?_⟩
        rw [List.getElem?_append] at hq
        by_cases c1 : q < (cs.take j).length
        · rw [if_pos c1, List.getElem?_take] at hq
          split at hq
          · exact dz q x hq
          · cases hq
        · rw [if_neg c1, List.getElem?_append] at hq
          by_cases c2 : q - (cs.take j).length < 1
          · rw [if_pos (by simpa using c2)] at hq
            rw [show q - (cs.take j).length = 0 by omega] at hq
            cases hq; exact ⟨z', rfl⟩
          · rw [if_neg (by simpa using c2), List.getElem?_drop] at hq
            exact dz _ x hq
      · exact ⟨ds, .row i' n' ds g1 g2 (by show T.get (T.set h.b i _) i' = _; rw [T.get_set_ne _ _ (Ne.symm e0)]; exact g3), dl, dz⟩
def MutP (B : Nat) (h : Heap) (v : Value) (ns : List Nat) : Prop :=
  ∃ us : List Value, us.length = ns.length ∧ OwnS B h 36 v ns.length us ∧ ∀ (k : Nat) u n, us[k]? = some u → ns[k]? = some n → MutR B h 5 .u8 u n n
theorem OwnP.mut {B : Nat} {h : Heap} {v : Value} {P : List (List UInt8)} (o : OwnP B h v P) : MutP B h v (P.map List.length) := by
  obtain ⟨us, e1, e2, e3, e4⟩ := o
  refine ⟨us, by simpa using e1, by simpa using e2, fun k u n h1 h2 => ?_⟩
  rw [List.getElem?_map] at h2
  obtain ⟨l, hl, rfl⟩ := Option.map_eq_some_iff.1 h2
  exact ⟨_, e4 k u l h1 hl, by simp, fun j x hx => by
    rw [List.getElem?_map] at hx
    obtain ⟨b, _, rfl⟩ := Option.map_eq_some_iff.1 hx
    exact ⟨_, rfl⟩⟩
theorem mutA_of {B : Nat} {h : Heap} {v : Value} {A : List ActD} (o : OwnS B h 35 v A.length (A.map ActD.cells).flatten) : MutR B h 35 .i64 v A.length (A.length * 4) := by
  refine ⟨_, o, acts_len A, fun j x hx => ?_⟩
  obtain ⟨l, hl, hx⟩ := List.mem_flatten.1 (List.mem_of_getElem? hx)
  obtain ⟨y, _, rfl⟩ := List.mem_map.1 hl
  simp only [ActD.cells, List.mem_cons, List.not_mem_nil, or_false] at hx
  rcases hx with rfl | rfl | rfl | rfl <;> exact ⟨_, rfl⟩
end Go.Proofs.YtohjaacnlmkhbaaGreatDoor

namespace Go.Proofs.YtohjaacnlmkhbaaGreatDoor
open Go.Ev
set_option maxRecDepth 100000
set_option maxHeartbeats 400000
theorem mutR_ext {B B' : Nat} {h h' : Heap} {e : TypeId} {k : IntKind} {v : Value} {n m : Nat} (r : MutR B h e k v n m) (x : ExtB B' h h') (hB : h.n ≤ B') : MutR B h' e k v n m := by
  obtain ⟨cs, o, e1, e2⟩ := r; exact ⟨cs, o.ext x hB, e1, e2⟩
theorem mutP_ext {B B' : Nat} {h h' : Heap} {v : Value} {ns : List Nat} (r : MutP B h v ns) (x : ExtB B' h h') (hB : h.n ≤ B') : MutP B h' v ns := by
  obtain ⟨us, e1, o, e2⟩ := r; exact ⟨us, e1, o.ext x hB, fun k u n h1 h2 => mutR_ext (e2 k u n h1 h2) x hB⟩
theorem mutR_only {B i : Nat} {h h' : Heap} {e e' : TypeId} {k : IntKind} {v : Value} {n m : Nat} {ds : List Value} (r : MutR B h e' k v n m) (hi : h.b.get i = some (.cells ds e false)) (hne : e ≠ e') (x : Only i h h') : MutR B h' e' k v n m := by
  obtain ⟨cs, o, e1, e2⟩ := r; exact ⟨cs, ownS_only o hi hne x, e1, e2⟩
theorem mutP_at {B : Nat} {h : Heap} {a : Option Addr} {m c : Nat} {ns : List Nat} (r : MutP B h (.slice a m c) ns) {k : Nat} (hk : k < ns.length) :
    ∃ i ua uc, a = some ⟨i, 0, none⟩ ∧ cellAt h ⟨i, k, none⟩ = some (.slice ua ns[k] uc) ∧ MutR B h 5 .u8 (.slice ua ns[k] uc) ns[k] ns[k] := by
  obtain ⟨us, e1, o, e2⟩ := r
  generalize hn : ns.length = n at o
  cases o with
  | nil => omega
  | emp i hi => omega
  | row i n us g1 g2 g3 =>
    have hu : us[k]? = some (us[k]'(by omega)) := List.getElem?_eq_getElem _
    have hm := e2 k _ _ hu (List.getElem?_eq_getElem hk)
    obtain ⟨cs, oc, f1, f2⟩ := id hm
    obtain ⟨ua, uc, ev⟩ := ownS_val oc
    rw [ev] at hu hm
    exact ⟨i, ua, uc, rfl, cellAt_blk g2 g3 hu, hm⟩
/-- what is there while the copy is turned -/
structure LT (B B2 i1 i3 i4 : Nat) (c : Nat → Int) (pv av pm am px ax : Value) (P : List (List UInt8)) (A : List ActD) (h : Heap) : Prop where
  V : Box h i1 (scrL c pv av) 28
  M : Box h i3 (scrL c pm am) 28
  Z : Box h i4 (scrL c px ax) 28
  r : RdP B h pv P
  ra : RdA B h av A
  rm : RdP B2 h pm P
  ram : RdA B2 h am A
  mp : MutP B2 h px (P.map List.length)
  mx : MutR B2 h 35 .i64 ax A.length (A.length * 4)
  b1 : B ≤ B2
  b2 : 2 < B2
  nn : B2 ≤ h.n
  t : tabsOk tabs h = true
section
variable {B B2 i1 i3 i4 i : Nat} {c : Nat → Int} {pv av pm am px ax : Value} {P : List (List UInt8)} {A : List ActD} {h h' : Heap}
theorem LT.mutA (l : LT B B2 i1 i3 i4 c pv av pm am px ax P A h) (x : ExtB B2 h h') (o : Only i h h') (hi : ∃ ds, h.b.get i = some (.cells ds 35 false)) (pr : ∀ u n m, MutR B2 h 35 .i64 u n m → MutR B2 h' 35 .i64 u n m) :
    LT B B2 i1 i3 i4 c pv av pm am px ax P A h' := by
  obtain ⟨ds, hi⟩ := hi
  obtain ⟨us, e1, os, e2⟩ := l.mp
  exact ⟨box_only l.V hi (by decide) o, box_only l.M hi (by decide) o, box_only l.Z hi (by decide) o, l.r.ext (x.mono l.b1), l.ra.ext (x.mono l.b1), l.rm.ext x, l.ram.ext x,
    ⟨us, e1, ownS_only os hi (by decide) o, fun k u n h1 h2 => mutR_only (e2 k u n h1 h2) hi (by decide) o⟩, pr _ _ _ l.mx, l.b1, l.b2, Nat.le_trans l.nn x.n, tabs_ext l.b2 x l.t⟩
theorem LT.mutB (l : LT B B2 i1 i3 i4 c pv av pm am px ax P A h) (x : ExtB B2 h h') (o : Only i h h') (hi : ∃ ds, h.b.get i = some (.cells ds 5 false)) (pr : ∀ u n m, MutR B2 h 5 .u8 u n m → MutR B2 h' 5 .u8 u n m) :
    LT B B2 i1 i3 i4 c pv av pm am px ax P A h' := by
  obtain ⟨ds, hi⟩ := hi
  obtain ⟨us, e1, os, e2⟩ := l.mp
  exact ⟨box_only l.V hi (by decide) o, box_only l.M hi (by decide) o, box_only l.Z hi (by decide) o, l.r.ext (x.mono l.b1), l.ra.ext (x.mono l.b1), l.rm.ext x, l.ram.ext x,
    ⟨us, e1, ownS_only os hi (by decide) o, fun k u n h1 h2 => pr _ _ _ (e2 k u n h1 h2)⟩, mutR_only l.mx hi (by decide) o, l.b1, l.b2, Nat.le_trans l.nn x.n, tabs_ext l.b2 x l.t⟩
end
end Go.Proofs.YtohjaacnlmkhbaaGreatDoor

