/- The law walked. -/
import Derived.Test.YtjcmcoabckkjoaaDoorUK
set_option linter.unusedSimpArgs false
set_option linter.unusedVariables false
namespace Go.Proofs.YtjcmcoabckkjoaaDoor.Li
open Go.Ev
set_option maxRecDepth 100000
set_option maxHeartbeats 400000
theorem Ret_and {E : Env} {f : Fn} {args : List Value} {h : Heap} {K K' : Value → Heap → Prop} (r : Ret E f args h K) (r' : Ret E f args h K') : ∃ v h', K v h' ∧ K' v h' := by
  obtain ⟨d, v, h1, e, k⟩ := r
  obtain ⟨d', v', h1', e', k'⟩ := r'
  have a := callF_mono (E := E) (Nat.le_max_left d d') _ _ _ _ e
  have b := callF_mono (E := E) (Nat.le_max_right d d') _ _ _ _ e'
  rw [a] at b
  cases b
  exact ⟨_, _, k, k'⟩
def SameN (n m : Nat) : Prop := (isNan n = true ∧ isNan m = true) ∨ n = m
theorem SameN.trans {a b c : Nat} (h : SameN a b) (h' : SameN b c) : SameN a c := by
  rcases h with ⟨h1, h2⟩ | rfl
  · rcases h' with ⟨h3, h4⟩ | rfl
    · exact .inl ⟨h1, h4⟩
    · exact .inl ⟨h1, h2⟩
  · exact h'
theorem SameN.symm {a b : Nat} (h : SameN a b) : SameN b a := by
  rcases h with ⟨h1, h2⟩ | rfl
  · exact .inl ⟨h2, h1⟩
  · exact .inr rfl
theorem nan_textB {n : Nat} (h : isNan n = true) : textB n = [110, 97, 110] := by
  have e : classB n = [110, 97, 110] := by unfold classB; rw [h]; rfl
  rw [textB_cls (by rw [e]; simp), e]
theorem SameN.text {a b : Nat} (h : SameN a b) : textB a = textB b := by
  rcases h with ⟨h1, h2⟩ | rfl
  · rw [nan_textB h1, nan_textB h2]
  · rfl
/-- a text is one number's (all that are none are alike) -/
theorem text_inj {n w : Nat} {h : Heap} (hn : n < 18446744073709551616) (hw : w < 18446744073709551616) (ht : tabsOk tabs h = true) (he : errsOk h = true) (hh : 5 < h.n) (hm : isI (cellAt h ⟨3, 0, none⟩) = true) (e : textB w = textB n) : SameN n w := by
  have r1 := of_ret (h := h) (K := fun v _ => ∃ m, SameN n m ∧ v = ofT (.float .f64 m)) hn ht he hh hm fun m h' _ q _ => ⟨m, q, rfl⟩
  have r2 := of_ret (h := h) (K := fun v _ => ∃ m, SameN w m ∧ v = ofT (.float .f64 m)) hw ht he hh hm fun m h' _ q _ => ⟨m, q, rfl⟩
  rw [e] at r2
  obtain ⟨v, h', ⟨m, q, rfl⟩, ⟨m', q', e'⟩⟩ := Ret_and r1 r2
  simp only [ofT, Value.tuple.injEq, Array.mk.injEq, List.cons.injEq, Value.float.injEq, true_and, and_true] at e'
  subst e'
  exact q.trans q'.symm
theorem law7_ret {s : List UInt8} {h : Heap} (hh : 5 < h.n) (ht : tabsOk tabs h = true) (he : errsOk h = true) (hm : isI (cellAt h ⟨3, 0, none⟩) = true) : Ret env (.func 7) [strV s] h fun v _ => v = .bool true := by
  refine F7 rfl ?_
  unfold strV
  by_cases hlen : s.length ≤ 60
  · have f0 : ¬ (60 : Int) < ((s.length : Nat) : Int) := by omega
    repeat' (first | done | with_reducible (first | refine y1 ?_ (by omega) | refine y2 ?_ (by omega) | refine y3 (fun _ => ?_) (fun _ => ?_) | refine y4 ?_ (by omega) (by omega) | refine y5 ?_ (by omega) | refine y6 ?_ (by with_unfolding_all rfl) | refine y7 ?_ (by with_unfolding_all rfl) | refine y8 ?_ (by with_unfolding_all rfl) | refine y9 ?_ (by with_unfolding_all rfl) | refine ya ?_ (by with_unfolding_all rfl)) | (simp -dsimp only [↓cw_skip, ↓cw_ops, ↓cw_seq, ↓cw_cond, ↓seqK_normal, ↓getK_same, ↓getK_ne, ↓evK_tmp, ↓evK_int, ↓evK_bool, ↓condV_var, ↓opsW_nil, ↓opsW_d, ↓opW_move, ↓opW_assign, ↓opW_bin, ↓bin_gtr, ↓evs_nil, ↓evs_cons, ↓opW_call, ↓setAll_cons, ↓setAll_nil, ↓r7_4_w, ↓s7_5_w, ↓s7_8_w, ↓r7_9_w, ↓s7_10_w, ↓s7_11_w, ↓r7_12_w, ↓s7_13_w, brK_false, ne_eq, Nat.reduceEqDiff, not_false_eq_true, Bool.false_eq_true,  str_size, ↓opW_lenT str9, lenT_some, f0]))
    by_cases hx : ∃ n, n < 18446744073709551616 ∧ textB n = s
    · obtain ⟨n, hn, e⟩ := hx
      subst e
      refine of_ret hn ht he hh hm fun m h1 hm64 q X1 => ?_
      have n1 := X1.n
      have ht1 : tabsOk tabs h1 = true := by
        simp only [tabsOk, tabs, List.all_cons, List.all_nil, Bool.and_true, Bool.and_eq_true] at ht ⊢
        rw [X1.get 1 (by omega), X1.get 2 (by omega)]; exact ht
      unfold ofT
      repeat' (first | done | with_reducible (first | refine y1 ?_ (by omega) | refine y2 ?_ (by omega) | refine y3 (fun _ => ?_) (fun _ => ?_) | refine y4 ?_ (by omega) (by omega) | refine y5 ?_ (by omega) | refine y6 ?_ (by with_unfolding_all rfl) | refine y7 ?_ (by with_unfolding_all rfl) | refine y8 ?_ (by with_unfolding_all rfl) | refine y9 ?_ (by with_unfolding_all rfl) | refine ya ?_ (by with_unfolding_all rfl)) | (simp -dsimp only [↓cw_ops, ↓cw_seq, ↓seqK_normal, ↓getK_same, ↓getK_ne, ↓evK_tmp, ↓opsW_nil, ↓opsW_d, ↓opW_move, ↓opW_assign, ↓evs_nil, ↓evs_cons, ↓opW_call, ↓setAll_cons, ↓setAll_nil, ↓opW_extract, ↓ext_tuple, ↓r7_2_w, ↓s7_3_w, List.getElem?_cons_zero, List.getElem?_cons_succ, onV_some', ne_eq, Nat.reduceEqDiff, not_false_eq_true]))
      refine refOf_ret (s := textB n) (by omega) (fun w hw ew => ?_) fun hno => absurd rfl (hno n hn)
      have q1 : SameN m w := SameN.trans (SameN.symm q) (text_inj hn hw ht he hh hm ew)
      have q2 : textB m = textB n := (SameN.text (a := n) (b := m) q).symm
      unfold ofT
      repeat' (first | done | with_reducible (first | refine y1 ?_ (by omega) | refine y2 ?_ (by omega) | refine y3 (fun _ => ?_) (fun _ => ?_) | refine y4 ?_ (by omega) (by omega) | refine y5 ?_ (by omega) | refine y6 ?_ (by with_unfolding_all rfl) | refine y7 ?_ (by with_unfolding_all rfl) | refine y8 ?_ (by with_unfolding_all rfl) | refine y9 ?_ (by with_unfolding_all rfl) | refine ya ?_ (by with_unfolding_all rfl)) | (simp -dsimp only [↓cw_ops, ↓cw_seq, ↓seqK_normal, ↓getK_same, ↓getK_ne, ↓evK_tmp, ↓gdV_var, ↓opsW_nil, ↓opsW_d, ↓opsW_gd, ↓opW_move, ↓opW_assign, ↓opW_bin, ↓bin_eql, ↓evs_nil, ↓evs_cons, ↓opW_call, ↓opW_extract, ↓ext_tuple, ↓r7_0_w, ↓s7_1_w, List.getElem?_cons_zero, List.getElem?_cons_succ, onV_some', brK_true, ne_eq, Nat.reduceEqDiff, not_false_eq_true]))
      refine same_ret hm64 hw q1 ?_
      repeat' (first | done | with_reducible (first | refine y1 ?_ (by omega) | refine y2 ?_ (by omega) | refine y3 (fun _ => ?_) (fun _ => ?_) | refine y4 ?_ (by omega) (by omega) | refine y5 ?_ (by omega) | refine y6 ?_ (by with_unfolding_all rfl) | refine y7 ?_ (by with_unfolding_all rfl) | refine y8 ?_ (by with_unfolding_all rfl) | refine y9 ?_ (by with_unfolding_all rfl) | refine ya ?_ (by with_unfolding_all rfl)) | (simp -dsimp only [↓getK_same, ↓getK_ne, ↓evK_tmp, ↓evK_int, ↓condV_var, ↓gdV_var, ↓opsW_d, ↓opsW_gd, ↓opW_move, ↓opW_pick, ↓opW_bin, ↓bin_neq, ↓evs_nil, ↓evs_cons, ↓opW_call, brK_true, ne_eq, Nat.reduceEqDiff, not_false_eq_true]))
      refine refText_ret hm64 fun h3 X3 => ?_
      have ht3 : tabsOk tabs h3 = true := by
        have hn4 : 4 ≤ h1.n := by omega
        simp only [tabsOk, tabs, List.all_cons, List.all_nil, Bool.and_true, Bool.and_eq_true] at ht1 ⊢
        rw [X3.get 1 (by omega), X3.get 2 (by omega)]; exact ht1
      rw [q2]
      unfold strV
      repeat' (first | done | with_reducible (first | refine y1 ?_ (by omega) | refine y2 ?_ (by omega) | refine y3 (fun _ => ?_) (fun _ => ?_) | refine y4 ?_ (by omega) (by omega) | refine y5 ?_ (by omega) | refine y6 ?_ (by with_unfolding_all rfl) | refine y7 ?_ (by with_unfolding_all rfl) | refine y8 ?_ (by with_unfolding_all rfl) | refine y9 ?_ (by with_unfolding_all rfl) | refine ya ?_ (by with_unfolding_all rfl)) | (simp -dsimp only [↓getK_same, ↓getK_ne, ↓evK_tmp, ↓condV_var, ↓gdV_var, ↓opsW_d, ↓opsW_gd, ↓opW_move, ↓opW_pick, ↓opW_bin, ↓evs_nil, ↓opW_call, ↓setAll_cons, ↓setAll_nil, ↓bin_eqlS, brK_true, brK_false, ne_eq, Nat.reduceEqDiff, not_false_eq_true, Bool.false_eq_true,  eq_self]))
      refine known_ret ht3 ?_
      repeat' (first | done | with_reducible (first | refine y1 ?_ (by omega) | refine y2 ?_ (by omega) | refine y3 (fun _ => ?_) (fun _ => ?_) | refine y4 ?_ (by omega) (by omega) | refine y5 ?_ (by omega) | refine y6 ?_ (by with_unfolding_all rfl) | refine y7 ?_ (by with_unfolding_all rfl) | refine y8 ?_ (by with_unfolding_all rfl) | refine y9 ?_ (by with_unfolding_all rfl) | refine ya ?_ (by with_unfolding_all rfl)) | (simp -dsimp only [↓cw_ret, ↓seqK_normal, ↓getK_same, ↓getK_ne, ↓evK_tmp, ↓condV_var, ↓opsW_nil, ↓opsW_d, ↓opW_assign, ↓opW_pick, ↓resK_one, brK_true, ne_eq, Nat.reduceEqDiff, not_false_eq_true, eq_self]))
    · have hno : ∀ n, n < 18446744073709551616 → textB n ≠ s := fun n hn e => hx ⟨n, hn, e⟩
      refine of_no (by omega) hno ht he hh hm fun h1 X1 => ?_
      have n1 := X1.n
      have ht1 : tabsOk tabs h1 = true := by
        simp only [tabsOk, tabs, List.all_cons, List.all_nil, Bool.and_true, Bool.and_eq_true] at ht ⊢
        rw [X1.get 1 (by omega), X1.get 2 (by omega)]; exact ht
      unfold errT
      repeat' (first | done | with_reducible (first | refine y1 ?_ (by omega) | refine y2 ?_ (by omega) | refine y3 (fun _ => ?_) (fun _ => ?_) | refine y4 ?_ (by omega) (by omega) | refine y5 ?_ (by omega) | refine y6 ?_ (by with_unfolding_all rfl) | refine y7 ?_ (by with_unfolding_all rfl) | refine y8 ?_ (by with_unfolding_all rfl) | refine y9 ?_ (by with_unfolding_all rfl) | refine ya ?_ (by with_unfolding_all rfl)) | (simp -dsimp only [↓cw_ops, ↓cw_seq, ↓seqK_normal, ↓getK_same, ↓getK_ne, ↓evK_tmp, ↓opsW_nil, ↓opsW_d, ↓opW_move, ↓opW_assign, ↓evs_nil, ↓evs_cons, ↓opW_call, ↓setAll_cons, ↓setAll_nil, ↓opW_extract, ↓ext_tuple, ↓r7_2_w, ↓s7_3_w, List.getElem?_cons_zero, List.getElem?_cons_succ, onV_some', ne_eq, Nat.reduceEqDiff, not_false_eq_true]))
      refine refOf_ret (s := s) (by omega) (fun w hw ew => absurd ew (hno w hw)) fun _ => ?_
      unfold errT
      repeat' (first | done | with_reducible (first | refine y1 ?_ (by omega) | refine y2 ?_ (by omega) | refine y3 (fun _ => ?_) (fun _ => ?_) | refine y4 ?_ (by omega) (by omega) | refine y5 ?_ (by omega) | refine y6 ?_ (by with_unfolding_all rfl) | refine y7 ?_ (by with_unfolding_all rfl) | refine y8 ?_ (by with_unfolding_all rfl) | refine y9 ?_ (by with_unfolding_all rfl) | refine ya ?_ (by with_unfolding_all rfl)) | (simp -dsimp only [↓cw_ops, ↓cw_seq, ↓seqK_normal, ↓getK_same, ↓getK_ne, ↓evK_tmp, ↓gdV_var, ↓opsW_nil, ↓opsW_d, ↓opsW_gd, ↓opW_move, ↓opW_assign, ↓opW_bin, ↓bin_eql, ↓evs_nil, ↓evs_cons, ↓opW_call, ↓opW_extract, ↓ext_tuple, ↓r7_0_w, ↓s7_1_w, List.getElem?_cons_zero, List.getElem?_cons_succ, onV_some', brK_true, ne_eq, Nat.reduceEqDiff, not_false_eq_true]))
      refine same_ret (by omega) (by omega) (.inr rfl) ?_
      repeat' (first | done | with_reducible (first | refine y1 ?_ (by omega) | refine y2 ?_ (by omega) | refine y3 (fun _ => ?_) (fun _ => ?_) | refine y4 ?_ (by omega) (by omega) | refine y5 ?_ (by omega) | refine y6 ?_ (by with_unfolding_all rfl) | refine y7 ?_ (by with_unfolding_all rfl) | refine y8 ?_ (by with_unfolding_all rfl) | refine y9 ?_ (by with_unfolding_all rfl) | refine ya ?_ (by with_unfolding_all rfl)) | (simp -dsimp only [↓getK_same, ↓getK_ne, ↓evK_tmp, ↓evK_int, ↓evK_bool, ↓condV_var, ↓gdV_var, ↓opsW_d, ↓opsW_gd, ↓opW_move, ↓opW_pick, ↓opW_bin, ↓bin_neq, ↓evs_nil, ↓opW_call, brK_true, brK_false, ne_eq, Nat.reduceEqDiff, not_false_eq_true, Bool.true_eq_false]))
      refine known_ret ht1 ?_
      repeat' (first | done | with_reducible (first | refine y1 ?_ (by omega) | refine y2 ?_ (by omega) | refine y3 (fun _ => ?_) (fun _ => ?_) | refine y4 ?_ (by omega) (by omega) | refine y5 ?_ (by omega) | refine y6 ?_ (by with_unfolding_all rfl) | refine y7 ?_ (by with_unfolding_all rfl) | refine y8 ?_ (by with_unfolding_all rfl) | refine y9 ?_ (by with_unfolding_all rfl) | refine ya ?_ (by with_unfolding_all rfl)) | (simp -dsimp only [↓cw_ret, ↓seqK_normal, ↓getK_same, ↓getK_ne, ↓evK_tmp, ↓condV_var, ↓opsW_nil, ↓opsW_d, ↓opW_assign, ↓opW_pick, ↓resK_one, brK_true, ne_eq, Nat.reduceEqDiff, not_false_eq_true, eq_self]))
  · have f0 : (60 : Int) < ((s.length : Nat) : Int) := by omega
    repeat' (first | done | with_reducible (first | refine y1 ?_ (by omega) | refine y2 ?_ (by omega) | refine y3 (fun _ => ?_) (fun _ => ?_) | refine y4 ?_ (by omega) (by omega) | refine y5 ?_ (by omega) | refine y6 ?_ (by with_unfolding_all rfl) | refine y7 ?_ (by with_unfolding_all rfl) | refine y8 ?_ (by with_unfolding_all rfl) | refine y9 ?_ (by with_unfolding_all rfl) | refine ya ?_ (by with_unfolding_all rfl)) | (simp -dsimp only [↓cw_ops, ↓cw_seq, ↓cw_cond, ↓seqK_normal, ↓getK_same, ↓getK_ne, ↓evK_tmp, ↓evK_int, ↓evK_bool, ↓condV_var, ↓opsW_nil, ↓opsW_d, ↓opW_move, ↓opW_assign, ↓opW_bin, ↓bin_gtr, ↓evs_nil, ↓opW_call, ↓setAll_cons, ↓setAll_nil, ↓r7_6_w, ↓s7_7_w, ↓s7_8_w, ↓r7_9_w, ↓s7_10_w, ↓s7_11_w, ↓r7_12_w, ↓s7_13_w, brK_true, ne_eq, Nat.reduceEqDiff, not_false_eq_true, str_size, ↓opW_lenT str9, lenT_some, f0]))
    refine known_ret ht ?_
    repeat' (first | done | with_reducible (first | refine y1 ?_ (by omega) | refine y2 ?_ (by omega) | refine y3 (fun _ => ?_) (fun _ => ?_) | refine y4 ?_ (by omega) (by omega) | refine y5 ?_ (by omega) | refine y6 ?_ (by with_unfolding_all rfl) | refine y7 ?_ (by with_unfolding_all rfl) | refine y8 ?_ (by with_unfolding_all rfl) | refine y9 ?_ (by with_unfolding_all rfl) | refine ya ?_ (by with_unfolding_all rfl)) | (simp -dsimp only [↓cw_ret, ↓seqK_normal, ↓seqK_ret, ↓getK_same, ↓evK_tmp, ↓opsW_nil, ↓opsW_d, ↓opW_assign, ↓resK_one, eq_self]))
end Go.Proofs.YtjcmcoabckkjoaaDoor.Li

