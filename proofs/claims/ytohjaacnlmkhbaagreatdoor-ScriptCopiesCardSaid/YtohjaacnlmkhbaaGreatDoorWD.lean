/- OWN, config.Copy, script.Copy, walked. Conditions: none beyond each theorem's own. -/
import Derived.Test.YtohjaacnlmkhbaaGreatDoorWA
set_option linter.unusedSimpArgs false
set_option linter.unusedVariables false
namespace Go.Proofs.YtohjaacnlmkhbaaGreatDoor
open Go.Ev
set_option maxRecDepth 100000
set_option maxHeartbeats 400000
theorem ownS_mono {B B' : Nat} {h : Heap} {e : TypeId} {v : Value} {n : Nat} {cs : List Value} (o : OwnS B' h e v n cs) (hb : B ≤ B') : OwnS B h e v n cs := by
  cases o with
  | nil => exact .nil
  | emp j hj => exact .emp j hj
  | row j n cs h1 h2 h3 => exact .row j n cs (by omega) h2 h3
theorem ownS_val {B : Nat} {h : Heap} {e : TypeId} {v : Value} {n : Nat} {cs : List Value} (o : OwnS B h e v n cs) : ∃ a c, v = .slice a n c := by
  cases o with
  | nil => exact ⟨_, _, rfl⟩
  | emp j hj => exact ⟨_, _, rfl⟩
  | row j n cs h1 h2 h3 => exact ⟨_, _, rfl⟩
theorem OwnP.mono {B B' : Nat} {h : Heap} {v : Value} {P : List (List UInt8)} (o : OwnP B' h v P) (hb : B ≤ B') : OwnP B h v P := by
  obtain ⟨us, e1, e2, e3, e4⟩ := o
  exact ⟨us, e1, ownS_mono e2 hb, e3, fun k u l h1 h2 => ownS_mono (e4 k u l h1 h2) hb⟩
theorem Box.setOther {h : Heap} {i j : Nat} {cs : List Value} {e : TypeId} {k : Blk} (b : Box h i cs e) (hj : j ≠ i) : Box { h with b := h.b.set j k } i cs e := ⟨b.lt, by show T.get (T.set h.b j k) i = _; rw [T.get_set_ne _ _ hj]; exact b.get⟩
theorem extSet {B i : Nat} {h : Heap} (k : Blk) (hb : B ≤ i) : ExtB B h { h with b := h.b.set i k } := ExtB.set k hb
theorem much_ret {B : Nat} {c : Nat → Int} {pv av : Value} {P : List (List UInt8)} {A : List ActD} {h : Heap} {K : Value → Heap → Prop} (r : RdP B h pv P) (ra : RdA B h av A) (hB : B ≤ h.n) (hs : P.length ≤ 281474976710656 ∧ ∀ l ∈ P, l.length ≤ 281474976710656) (hsa : A.length ≤ 281474976710656)
    (hK : ∀ b h', ExtB h.n h h' → (b = false → (P.length ≤ 40 ∧ ∀ l ∈ P, l.length ≤ 40000) ∧ A.length ≤ 300) → K (.bool b) h') : Ret env (.func 6) [.agg ⟨scrL c pv av⟩] h K := by
  obtain ⟨pa, pc, rfl, _⟩ := id r
  obtain ⟨aa, ac, rfl, _⟩ := id ra
  refine F6 rfl ?_
  repeat' (first | done | with_reducible (first | refine y1 ?_ (by omega) | refine y2 ?_ (by omega) | refine y3 (fun _ => ?_) (fun _ => ?_) | refine y4 ?_ (by omega) (by omega) | refine y5 ?_ (by omega) | refine y6 ?_ (by with_unfolding_all rfl) | refine y7 ?_ (by with_unfolding_all rfl) | refine y8 ?_ (by with_unfolding_all rfl) | refine y9 ?_ (by with_unfolding_all rfl) | refine ya ?_ (by with_unfolding_all rfl)) | ((with_reducible refine And.intro ?_ ?_); (· omega)) | (simp -dsimp only [↓cw_ops, ↓cw_seq, ↓seqK_normal, ↓getK_same, ↓getK_ne, ↓evK_tmp, ↓evK_bool, ↓opsW_nil, ↓opsW_d, ↓opW_assign, ↓ldN_some, ↓fldA_some, ↓setAll_cons, ↓setAll_nil, ↓opW_box, ↓box_agg, ↓fa_28_0, ↓ld_25, ↓r6_0_w, ↓s6_1_w, ↓r6_2_w, ↓s6_3_w, true_and, ne_eq, Nat.reduceEqDiff, not_false_eq_true, Nat.add_zero, Addr.add_lit, scr_one]))
  have V := Box.new h (scrL c (.slice pa P.length pc) (.slice aa A.length ac)) 28
  have X : ExtB h.n h (newBlk h (.cells (scrL c (.slice pa P.length pc) (.slice aa A.length ac)) 28 true)) := ExtB.new _ (Nat.le_refl _)
  have hn1 : (newBlk h (.cells (scrL c (.slice pa P.length pc) (.slice aa A.length ac)) 28 true)).n = h.n + 1 := rfl
  generalize newBlk h (.cells (scrL c (.slice pa P.length pc) (.slice aa A.length ac)) 28 true) = h1 at V X hn1 ⊢
  have dv := V.scr
  repeat' (first | done | with_reducible (first | refine y1 ?_ (by omega) | refine y2 ?_ (by omega) | refine y3 (fun _ => ?_) (fun _ => ?_) | refine y4 ?_ (by omega) (by omega) | refine y5 ?_ (by omega) | refine y6 ?_ (by with_unfolding_all rfl) | refine y7 ?_ (by with_unfolding_all rfl) | refine y8 ?_ (by with_unfolding_all rfl) | refine y9 ?_ (by with_unfolding_all rfl) | refine ya ?_ (by with_unfolding_all rfl)) | ((with_reducible refine And.intro ?_ ?_); (· omega)) | (simp -dsimp only [↓getK_same, ↓evK_tmp, ↓opsW_d, ↓evs_nil, ↓evs_cons, ↓callE, onV_some', dv]))
  refine refMuch_ret (r.ext (X.mono hB)) (by omega) hs fun b h' X2 hb => ?_
  have dv2 := (V.ext X2 (by omega)).scr
  have XX : ExtB h.n h h' := X.trans (X2.mono (by omega))
  cases b with
  | true =>
    repeat' (first | done | with_reducible (first | refine y1 ?_ (by omega) | refine y2 ?_ (by omega) | refine y3 (fun _ => ?_) (fun _ => ?_) | refine y4 ?_ (by omega) (by omega) | refine y5 ?_ (by omega) | refine y6 ?_ (by with_unfolding_all rfl) | refine y7 ?_ (by with_unfolding_all rfl) | refine y8 ?_ (by with_unfolding_all rfl) | refine y9 ?_ (by with_unfolding_all rfl) | refine ya ?_ (by with_unfolding_all rfl)) | ((with_reducible refine And.intro ?_ ?_); (· omega)) | (simp -dsimp only [↓cw_ret, ↓seqK_normal, ↓getK_same, ↓getK_ne, ↓evK_tmp, ↓evK_bool, ↓condV_var, ↓gdV_var, ↓opsW_nil, ↓opsW_d, ↓opsW_gd, ↓opW_move, ↓opW_assign, ↓opW_pick, ↓resK_one, brK_true, brK_false, ne_eq, Nat.reduceEqDiff, not_false_eq_true, Bool.true_eq_false]))
    exact hK _ _ XX (by simp)
  | false =>
    have hb := hb rfl
    by_cases h3 : 300 < A.length
    · repeat' (first | done | with_reducible (first | refine y1 ?_ (by omega) | refine y2 ?_ (by omega) | refine y3 (fun _ => ?_) (fun _ => ?_) | refine y4 ?_ (by omega) (by omega) | refine y5 ?_ (by omega) | refine y6 ?_ (by with_unfolding_all rfl) | refine y7 ?_ (by with_unfolding_all rfl) | refine y8 ?_ (by with_unfolding_all rfl) | refine y9 ?_ (by with_unfolding_all rfl) | refine ya ?_ (by with_unfolding_all rfl)) | ((with_reducible refine And.intro ?_ ?_); (· omega)) | (simp -dsimp only [↓cw_ret, ↓seqK_normal, ↓getK_same, ↓getK_ne, ↓evK_tmp, ↓evK_int, ↓condV_var, ↓gdV_var, ↓opsW_nil, ↓opsW_d, ↓opsW_gd, ↓opW_move, ↓opW_assign, ↓opW_pick, ↓opW_bin, ↓bin_gtr, ↓ld1_some, ↓fldA_some, ↓lenS_some, ↓resK_one, ↓fa_28_1, ↓ld_26, ↓len_26, onV_some', brK_true, brK_false, ne_eq, Nat.reduceEqDiff, Nat.reduceAdd, not_false_eq_true, Addr.add_lit, Bool.false_eq_true,  dv2]))
      exact hK _ _ XX (by simp)
    · repeat' (first | done | with_reducible (first | refine y1 ?_ (by omega) | refine y2 ?_ (by omega) | refine y3 (fun _ => ?_) (fun _ => ?_) | refine y4 ?_ (by omega) (by omega) | refine y5 ?_ (by omega) | refine y6 ?_ (by with_unfolding_all rfl) | refine y7 ?_ (by with_unfolding_all rfl) | refine y8 ?_ (by with_unfolding_all rfl) | refine y9 ?_ (by with_unfolding_all rfl) | refine ya ?_ (by with_unfolding_all rfl)) | ((with_reducible refine And.intro ?_ ?_); (· omega)) | (simp -dsimp only [↓cw_ret, ↓seqK_normal, ↓getK_same, ↓getK_ne, ↓evK_tmp, ↓evK_int, ↓condV_var, ↓gdV_var, ↓opsW_nil, ↓opsW_d, ↓opsW_gd, ↓opW_move, ↓opW_assign, ↓opW_pick, ↓opW_bin, ↓bin_gtr, ↓ld1_some, ↓fldA_some, ↓lenS_some, ↓resK_one, ↓fa_28_1, ↓ld_26, ↓len_26, onV_some', brK_true, brK_false, ne_eq, Nat.reduceEqDiff, Nat.reduceAdd, not_false_eq_true, Addr.add_lit, Bool.false_eq_true,  dv2]))
      exact hK _ _ XX fun _ => ⟨hb, by omega⟩
def zc : Nat → Int := fun _ => 0
theorem own_ret {B : Nat} {c : Nat → Int} {pv av : Value} {P : List (List UInt8)} {A : List ActD} {h : Heap} {K : Value → Heap → Prop} (r : RdP B h pv P) (ra : RdA B h av A) (hB : B ≤ h.n) (hp : P.length ≤ 40 ∧ ∀ l ∈ P, l.length ≤ 40000) (ha : A.length ≤ 300)
    (hK : ∀ pv' av' h', ExtB h.n h h' → OwnP h.n h' pv' P → OwnS h.n h' 35 av' A.length (A.map ActD.cells).flatten → K (.agg ⟨scrL c pv' av'⟩) h') : Ret env (.func 8) [.agg ⟨scrL c pv av⟩] h K := by
  obtain ⟨pa, pc, rfl, _⟩ := id r
  obtain ⟨aa, ac, rfl, _⟩ := id ra
  refine F8 rfl ?_
  repeat' (first | done | with_reducible (first | refine y1 ?_ (by omega) | refine y2 ?_ (by omega) | refine y3 (fun _ => ?_) (fun _ => ?_) | refine y4 ?_ (by omega) (by omega) | refine y5 ?_ (by omega) | refine y6 ?_ (by with_unfolding_all rfl) | refine y7 ?_ (by with_unfolding_all rfl) | refine y8 ?_ (by with_unfolding_all rfl) | refine y9 ?_ (by with_unfolding_all rfl) | refine ya ?_ (by with_unfolding_all rfl)) | ((with_reducible refine And.intro ?_ ?_); (· omega)) | (simp -dsimp only [↓cw_ops, ↓cw_seq, ↓cw_block, ↓seqK_normal, ↓getK_same, ↓evK_tmp, ↓evK_int, ↓evK_nilslice, ↓opsW_nil, ↓opsW_d, ↓opW_assign, ↓setAll_cons, ↓setAll_nil, ↓opW_box, ↓box_agg, ↓al_28, ↓s8_15_w, ↓s8_16_w, ↓r8_17_w, ↓s8_18_w, ↓s8_19_w, ↓r8_20_w, ↓s8_21_w, ↓r8_22_w, ↓s8_23_w, newBlk_n, true_and, scr_one]))
  have V := Box.new h (scrL c (.slice pa P.length pc) (.slice aa A.length ac)) 28
  have X : ExtB h.n h (newBlk h (.cells (scrL c (.slice pa P.length pc) (.slice aa A.length ac)) 28 true)) := ExtB.new _ (Nat.le_refl _)
  have hn1 : (newBlk h (.cells (scrL c (.slice pa P.length pc) (.slice aa A.length ac)) 28 true)).n = h.n + 1 := rfl
  generalize newBlk h (.cells (scrL c (.slice pa P.length pc) (.slice aa A.length ac)) 28 true) = h1 at V X hn1 ⊢
  repeat' (first | done | with_reducible (first | refine y1 ?_ (by omega) | refine y2 ?_ (by omega) | refine y3 (fun _ => ?_) (fun _ => ?_) | refine y4 ?_ (by omega) (by omega) | refine y5 ?_ (by omega) | refine y6 ?_ (by with_unfolding_all rfl) | refine y7 ?_ (by with_unfolding_all rfl) | refine y8 ?_ (by with_unfolding_all rfl) | refine y9 ?_ (by with_unfolding_all rfl) | refine ya ?_ (by with_unfolding_all rfl)) | ((with_reducible refine And.intro ?_ ?_); (· omega)) | (simp -dsimp only [↓cw_skip, ↓cw_ops, ↓cw_plan, ↓cw_seq, ↓cw_block, ↓cw_exit, ↓cw_ret, ↓cw_cond, ↓seqK_normal, ↓seqK_exit, ↓seqK_ret, ↓blockK_normal, ↓blockK_ret, ↓blockK_same, ↓blockK_ne, ↓loopK_normal, ↓loopK_exit, ↓loopK_ret, ↓getK_same, ↓getK_ne, ↓getK_leaf, ↓evK_tmp, ↓evK_int, ↓evK_bool, ↓evK_string, ↓evK_float, ↓evK_nilptr, ↓evK_nilslice, ↓evK_nilmap, ↓evK_nilFunc, ↓evK_nilIface, ↓evK_func, ↓condV_true, ↓condV_false, ↓condV_var, ↓gdV_tt, ↓gdV_tf, ↓gdV_ft, ↓gdV_ff, ↓gdV_var, ↓gdV_undef, ↓opsW_nil, ↓opsW_d, ↓opsW_n, ↓opsW_gd, ↓opsW_gn, ↓planW_nil, ↓planW_d, ↓planW_n, ↓planW_gd, ↓planW_gn, ↓agK_nil, ↓opW_move, ↓opW_assign, ↓opW_pick, ↓opW_bin, ↓bin_add, ↓bin_sub, ↓bin_mul, ↓bin_quo, ↓bin_rem, ↓bin_shl, ↓bin_shr, ↓bin_eql, ↓bin_neq, ↓bin_lss, ↓bin_leq, ↓bin_gtr, ↓bin_geq, ↓ld1_some, ↓ldN_some, ↓fldA_some, ↓idxS_some, ↓evs_nil, ↓evs_cons, ↓opW_callV, ↓lenS_some, ↓resK_one, ↓resK_one', ↓resK_two, ↓resK_two', ↓setAll_cons, ↓setAll_nil, ↓opW_box, ↓box_int, ↓box_bool, ↓box_string, ↓box_slice, ↓box_pointer, ↓box_map, ↓box_func, ↓box_agg, ↓evp_nil, ↓evp_cons, ↓idxA_some, ↓bin_eqlS, ↓bin_neqS, ↓evK_agg, ↓opW_un, ↓un_not, ↓un_neg, ↓cint_int, ↓part_one, ↓opW_extract, ↓ext_tuple, ↓opW_makeFuncF, ↓opW_nilCheck, ↓callV_some, ↓opW_lookup, ↓opW_mapUpdate, ↓opW_delete, ↓opW_slice, ↓evo_none, ↓evo_some, ↓agK_load, ↓agK_loadG, ↓resK_nil, ↓resK_nil', ↓resK_cellR, ↓resK_cellN, ↓resK_ct, ↓cap_nil, ↓bin_and, ↓agV_same, ↓agV_ne, ↓opW_max, ↓max_int, ↓bin_addF, ↓bin_subF, ↓bin_mulF, ↓bin_quoF, ↓isF_float, ↓isF_add, ↓isF_sub, ↓isF_mul, ↓isF_quo, ↓cf_F, ↓cif_int, ↓box_F, ↓resK_three, ↓ta_same, ↓ta_ne, ↓ta_nil, ↓callE, ↓agl_28, ↓ld_28, ↓al_28, ↓st_28, ↓fa_28_1, ↓ld_26, ↓len_26, ↓ia_26, ↓fa_35_1, ↓ld_3, ↓st_3, ↓fa_28_0, ↓fa_25_14, ↓ld_23, ↓len_23, ↓ia_23, ↓ld_36, ↓len_36, ↓ia_36, ↓ld_5, ↓st_5, ↓ld_25, ↓ap_36_36, ↓bsl_23_1, ↓ap_23_23, ↓st_23, ↓ap_26_26, ↓st_26, ↓agl_26, ↓bd_28, ↓ld_35, ↓neqA_35, ↓eqlA_35, ↓agl_25, ↓agl_23, ↓al_25, ↓st_25, ↓eqN_26, ↓bsl_26_0, ↓len_95, ↓ia_95, ↓len_97, ↓ia_97, ↓ld_22, ↓cv_36_9, ↓al_101, ↓st_101, ↓ia_101, ↓fa_100_1, ↓ld_20, ↓eqN_36, ↓bsl_36_0, ↓fa_25_0, ↓fa_25_1, ↓fa_25_2, ↓fa_25_3, ↓fa_25_4, ↓fa_25_5, ↓fa_25_6, ↓fa_25_7, ↓fa_25_8, ↓fa_25_9, ↓bsl_95_10, ↓fa_25_10, ↓fa_25_11, ↓fa_25_12, ↓fa_25_13, ↓bsl_97_4, ↓agl_101, ↓mi_106, ↓bd_100, ↓mi_107, ↓bd_101, ↓ta_106, ↓ta_107, ↓r8_0_w, ↓s8_1_w, ↓r8_2_w, ↓s8_3_w, ↓r8_4_w, ↓s8_5_w, ↓r8_6_w, ↓s8_7_w, ↓r8_8_w, ↓s8_9_w, ↓s8_10_w, ↓s8_11_w, ↓r8_12_w, ↓s8_13_w, ↓s8_14_w, ↓s8_15_w, ↓s8_16_w, ↓r8_17_w, ↓s8_18_w, ↓s8_19_w, ↓r8_20_w, ↓s8_21_w, ↓r8_22_w, ↓s8_23_w, cellAt_newE, cellAt_newO, cellsAt_newE, cellsAt_newO, newBlk_n, Nat.lt_add_one, List.getElem?_cons_zero, List.getElem?_cons_succ, List.length_cons, List.length_nil, onV_some', brK_true, brK_false, brK_not, Nat.le_refl, true_and, and_true, ne_eq, Nat.reduceEqDiff, Nat.reduceAdd, not_false_eq_true, not_true_eq_false, Nat.one_ne_zero, Nat.zero_ne_one, Nat.add_zero, Addr.add_lit, Int.toNat_natCast, Int.toNat_zero, Nat.zero_mul, Bool.true_eq_false, Bool.false_eq_true,  scr_one]))
  have W := Box.new h1 (scrL zc (.slice none 0 0) (.slice none 0 0)) 28
  have X1 : ExtB h1.n h1 (newBlk h1 (.cells (scrL zc (.slice none 0 0) (.slice none 0 0)) 28 true)) := ExtB.new _ (Nat.le_refl _)
  have hn2 : (newBlk h1 (.cells (scrL zc (.slice none 0 0) (.slice none 0 0)) 28 true)).n = h.n + 2 := by show h1.n + 1 = _; omega
  refine (show GC.wp env 31 none s8_14.loop _ (newBlk h1 (.cells (scrL zc (.slice none 0 0) (.slice none 0 0)) 28 true)) _ from ?_)
  rw [hn1] at W
  replace V := V.ext X1 (by omega)
  replace X := X.trans (X1.mono (by omega))
  generalize newBlk h1 (.cells (scrL zc (.slice none 0 0) (.slice none 0 0)) 28 true) = h2 at V W X hn2 ⊢
  clear X1 hn1
  refine cw_loopI (fun m fr' h' => ∃ (k : Nat) (v : Value), k ≤ P.length ∧ m = 40 - k ∧ ExtB h2.n h2 h' ∧ fr'.get 4 = some (.int .i64 k) ∧ fr'.get 3 = some v ∧ OwnP h2.n h' v (P.take k)) 40 ?_ (by omega) ?_
  · exact ⟨0, _, by omega, by omega, ExtB.refl _ _, by simp [T.get_set], by simp [T.get_set], OwnP.nil _ _⟩
  rintro m fr2 h' ⟨k, v, hk, rfl, X1, f4, f3, O⟩ hag
  have e4 := getK_of f4
  have e3 := getK_of f3
  have a1 := getK_eq (hag 1 rfl)
  have a2 := getK_eq (hag 2 rfl)
  have nn := X1.n
  have V' := V.ext X1 (by omega)
  have dv := V'.scr
  have XX : ExtB h.n h h' := X.trans (X1.mono (by omega))
  obtain ⟨va, vc, hv⟩ := O.val
  have htl : (P.take k).length = k := by rw [List.length_take]; omega
  rw [htl] at hv
  subst hv
  by_cases hlt : k < P.length
  · obtain ⟨i, o, ua, uc, rfl, hi, hc, hu⟩ := r.at_ hlt
    have hu' := hu.ext (XX.mono hB)
    have hc' := cellAt_ext (XX.mono hB) hi hc
    have hlk := hp.2 P[k] (List.getElem_mem _)
    repeat' (first | done | with_reducible (first | refine y1 ?_ (by omega) | refine y2 ?_ (by omega) | refine y3 (fun _ => ?_) (fun _ => ?_) | refine y4 ?_ (by omega) (by omega) | refine y5 ?_ (by omega) | refine y6 ?_ (by with_unfolding_all rfl) | refine y7 ?_ (by with_unfolding_all rfl) | refine y8 ?_ (by with_unfolding_all rfl) | refine y9 ?_ (by with_unfolding_all rfl) | refine ya ?_ (by with_unfolding_all rfl)) | ((with_reducible refine And.intro ?_ ?_); (· omega)) | (simp -dsimp only [↓cw_skip, ↓cw_ops, ↓cw_seq, ↓cw_block, ↓cw_cond, ↓seqK_normal, ↓getK_same, ↓getK_ne, ↓evK_tmp, ↓evK_nilslice, ↓condV_var, ↓opsW_nil, ↓opsW_d, ↓opW_move, ↓opW_bin, ↓bin_lss, ↓ld1_some, ↓fldA_some, ↓idxS_some, ↓lenS_some, ↓fa_28_0, ↓fa_25_14, ↓ld_23, ↓len_23, ↓ia_23, ↓ld_36, ↓ap_36_36, ↓r8_8_w, ↓s8_9_w, ↓s8_10_w, ↓s8_11_w, ↓r8_12_w, ↓s8_13_w, ↓s8_14_w, onV_some', brK_true, ne_eq, Nat.reduceEqDiff, Nat.reduceAdd, not_false_eq_true, Nat.add_zero, Addr.add_lit, Int.toNat_natCast, ↓e4, ↓e3, ↓a1, dv, Nat.mul_one, hc']))
    refine app_ownG (OwnS.nil (B := h'.n)) (Nat.le_refl _) rfl rfl (by omega) (fun h0 => hu'.first h0) (by simp) (bytes_one _) (by decide) fun u h3 o3 X3 => ?_
    rw [Nat.zero_add, List.nil_append] at o3
    have n3 := X3.n
    obtain ⟨ub, uc2, rfl⟩ := ownS_val o3
    have O3 := O.ext X3 (Nat.le_refl _)
    have dv3 := (V'.ext X3 (by omega)).scr
    repeat' (first | done | with_reducible (first | refine y1 ?_ (by omega) | refine y2 ?_ (by omega) | refine y3 (fun _ => ?_) (fun _ => ?_) | refine y4 ?_ (by omega) (by omega) | refine y5 ?_ (by omega) | refine y6 ?_ (by with_unfolding_all rfl) | refine y7 ?_ (by with_unfolding_all rfl) | refine y8 ?_ (by with_unfolding_all rfl) | refine y9 ?_ (by with_unfolding_all rfl) | refine ya ?_ (by with_unfolding_all rfl)) | ((with_reducible refine And.intro ?_ ?_); (· omega)) | (simp -dsimp only [↓getK_same, ↓getK_ne, ↓evK_tmp, ↓opsW_d, ↓evp_nil, ↓evp_cons, ↓bsl_23_1, ↓ap_23_23, ne_eq, Nat.reduceEqDiff, not_false_eq_true]))
    refine OwnP.app O3 (ownS_mono o3 nn) (by omega) (by rw [htl]; omega) rfl rfl fun v' h4 O4 X4 _ => ?_
    rw [List.take_append_getElem] at O4
    have n4 := X4.n
    repeat' (first | done | with_reducible (first | refine y1 ?_ (by omega) | refine y2 ?_ (by omega) | refine y3 (fun _ => ?_) (fun _ => ?_) | refine y4 ?_ (by omega) (by omega) | refine y5 ?_ (by omega) | refine y6 ?_ (by with_unfolding_all rfl) | refine y7 ?_ (by with_unfolding_all rfl) | refine y8 ?_ (by with_unfolding_all rfl) | refine y9 ?_ (by with_unfolding_all rfl) | refine ya ?_ (by with_unfolding_all rfl)) | ((with_reducible refine And.intro ?_ ?_); (· omega)) | (simp -dsimp only [↓cw_ops, ↓seqK_normal, ↓blockK_normal, ↓loopK_normal, ↓getK_same, ↓getK_ne, ↓evK_tmp, ↓evK_int, ↓opsW_nil, ↓opsW_d, ↓opW_move, ↓opW_assign, ↓opW_bin, ↓bin_add, ↓r8_6_w, ↓s8_7_w, ne_eq, Nat.reduceEqDiff, Nat.reduceAdd, not_false_eq_true, Nat.add_zero, Addr.add_lit, Int.toNat_natCast, ↓e4]))
    exact ⟨40 - (k + 1), by omega, k + 1, v', by omega, rfl, X1.trans ((X3.mono nn).trans X4), by simp [T.get_set, wrap_succ (show k ≤ 4611686018427387904 by omega)], by simp [T.get_set], O4⟩
  · have hkl : k = P.length := by omega
    subst hkl
    rw [List.take_length] at O
    repeat' (first | done | with_reducible (first | refine y1 ?_ (by omega) | refine y2 ?_ (by omega) | refine y3 (fun _ => ?_) (fun _ => ?_) | refine y4 ?_ (by omega) (by omega) | refine y5 ?_ (by omega) | refine y6 ?_ (by with_unfolding_all rfl) | refine y7 ?_ (by with_unfolding_all rfl) | refine y8 ?_ (by with_unfolding_all rfl) | refine y9 ?_ (by with_unfolding_all rfl) | refine ya ?_ (by with_unfolding_all rfl)) | ((with_reducible refine And.intro ?_ ?_); (· omega)) | (simp -dsimp only [↓cw_ops, ↓cw_seq, ↓cw_exit, ↓cw_cond, ↓seqK_normal, ↓seqK_exit, ↓blockK_same, ↓loopK_exit, ↓getK_same, ↓getK_ne, ↓evK_tmp, ↓condV_var, ↓opsW_nil, ↓opsW_d, ↓opsW_n, ↓opW_move, ↓opW_bin, ↓bin_lss, ↓ld1_some, ↓fldA_some, ↓lenS_some, ↓fa_28_0, ↓fa_25_14, ↓ld_23, ↓len_23, ↓st_23, ↓r8_4_w, ↓s8_5_w, ↓s8_11_w, ↓r8_12_w, ↓s8_13_w, ↓s8_14_w, onV_some', brK_false, ne_eq, Nat.reduceEqDiff, Nat.reduceAdd, not_false_eq_true, Nat.add_zero, Addr.add_lit, Bool.false_eq_true,  ↓e4, ↓e3, ↓a1, dv]))
    refine st_at (cs' := scrL c (.slice va P.length vc) (.slice aa A.length ac)) V'.get rfl rfl rfl rfl (by decide) ?_
    have V3 := V'.set (cs' := scrL c (.slice va P.length vc) (.slice aa A.length ac))
    have O3 := O.setLow (i := h.n) (k := .cells (scrL c (.slice va P.length vc) (.slice aa A.length ac)) 28 true) (by omega)
    have W3 : Box { h' with b := h'.b.set h.n (.cells (scrL c (.slice va P.length vc) (.slice aa A.length ac)) 28 true) } (h.n + 1) (scrL zc (.slice none 0 0) (.slice none 0 0)) 28 := (W.ext X1 (by omega)).setOther (by omega)
    have X3 : ExtB h.n h' { h' with b := h'.b.set h.n (.cells (scrL c (.slice va P.length vc) (.slice aa A.length ac)) 28 true) } := ExtB.set _ (Nat.le_refl _)
    have n3 : ({ h' with b := h'.b.set h.n (.cells (scrL c (.slice va P.length vc) (.slice aa A.length ac)) 28 true) } : Heap).n = h'.n := rfl
    generalize ({ h' with b := h'.b.set h.n (.cells (scrL c (.slice va P.length vc) (.slice aa A.length ac)) 28 true) } : Heap) = h3 at V3 O3 W3 X3 n3 ⊢
    have ra3 := ra.ext ((XX.trans X3).mono hB)
    have dv3 := V3.scr
    repeat' (first | done | with_reducible (first | refine y1 ?_ (by omega) | refine y2 ?_ (by omega) | refine y3 (fun _ => ?_) (fun _ => ?_) | refine y4 ?_ (by omega) (by omega) | refine y5 ?_ (by omega) | refine y6 ?_ (by with_unfolding_all rfl) | refine y7 ?_ (by with_unfolding_all rfl) | refine y8 ?_ (by with_unfolding_all rfl) | refine y9 ?_ (by with_unfolding_all rfl) | refine ya ?_ (by with_unfolding_all rfl)) | ((with_reducible refine And.intro ?_ ?_); (· omega)) | (simp -dsimp only [↓cw_ops, ↓cw_seq, ↓seqK_normal, ↓getK_same, ↓getK_ne, ↓evK_tmp, ↓evK_nilslice, ↓opsW_nil, ↓opsW_d, ↓ld1_some, ↓fldA_some, ↓fa_28_1, ↓ld_26, ↓ap_26_26, ↓r8_2_w, ↓s8_3_w, onV_some', ne_eq, Nat.reduceEqDiff, Nat.reduceAdd, not_false_eq_true, Addr.add_lit, ↓a1, dv3]))
    refine app_ownG (OwnS.nil (B := h3.n)) (Nat.le_refl _) rfl rfl (by omega) (fun h0 => ra3.first h0) (acts_len A) (acts_one A) (by decide) fun u h4 o4 X4 => ?_
    rw [Nat.zero_add, List.nil_append] at o4
    have n4 := X4.n
    obtain ⟨ub, uc2, rfl⟩ := ownS_val o4
    have V4 := V3.ext X4 (by omega)
    have W4 := W3.ext X4 (by omega)
    have O4 := O3.ext X4 (Nat.le_refl _)
    repeat' (first | done | with_reducible (first | refine y1 ?_ (by omega) | refine y2 ?_ (by omega) | refine y3 (fun _ => ?_) (fun _ => ?_) | refine y4 ?_ (by omega) (by omega) | refine y5 ?_ (by omega) | refine y6 ?_ (by with_unfolding_all rfl) | refine y7 ?_ (by with_unfolding_all rfl) | refine y8 ?_ (by with_unfolding_all rfl) | refine y9 ?_ (by with_unfolding_all rfl) | refine ya ?_ (by with_unfolding_all rfl)) | ((with_reducible refine And.intro ?_ ?_); (· omega)) | (simp -dsimp only [↓getK_same, ↓getK_ne, ↓evK_tmp, ↓opsW_d, ↓opsW_n, ↓fldA_some, ↓fa_28_1, ↓st_26, ne_eq, Nat.reduceEqDiff, Nat.reduceAdd, not_false_eq_true, Addr.add_lit, ↓a1]))
    refine st_at (cs' := scrL c (.slice va P.length vc) (.slice ub A.length uc2)) V4.get rfl rfl rfl rfl (by decide) ?_
    have V5 := V4.set (cs' := scrL c (.slice va P.length vc) (.slice ub A.length uc2))
    have O5 := O4.setLow (i := h.n) (k := .cells (scrL c (.slice va P.length vc) (.slice ub A.length uc2)) 28 true) (by omega)
    have o5 := ownS_setLow (i := h.n) (k := .cells (scrL c (.slice va P.length vc) (.slice ub A.length uc2)) 28 true) o4 (by omega)
    have W5 : Box { h4 with b := h4.b.set h.n (.cells (scrL c (.slice va P.length vc) (.slice ub A.length uc2)) 28 true) } (h.n + 1) (scrL zc (.slice none 0 0) (.slice none 0 0)) 28 := W4.setOther (by omega)
    have X5 : ExtB h.n h4 { h4 with b := h4.b.set h.n (.cells (scrL c (.slice va P.length vc) (.slice ub A.length uc2)) 28 true) } := ExtB.set _ (Nat.le_refl _)
    have n5 : ({ h4 with b := h4.b.set h.n (.cells (scrL c (.slice va P.length vc) (.slice ub A.length uc2)) 28 true) } : Heap).n = h4.n := rfl
    generalize ({ h4 with b := h4.b.set h.n (.cells (scrL c (.slice va P.length vc) (.slice ub A.length uc2)) 28 true) } : Heap) = h5 at V5 O5 o5 W5 X5 n5 ⊢
    have dv5 := V5.scr
    repeat' (first | done | with_reducible (first | refine y1 ?_ (by omega) | refine y2 ?_ (by omega) | refine y3 (fun _ => ?_) (fun _ => ?_) | refine y4 ?_ (by omega) (by omega) | refine y5 ?_ (by omega) | refine y6 ?_ (by with_unfolding_all rfl) | refine y7 ?_ (by with_unfolding_all rfl) | refine y8 ?_ (by with_unfolding_all rfl) | refine y9 ?_ (by with_unfolding_all rfl) | refine ya ?_ (by with_unfolding_all rfl)) | ((with_reducible refine And.intro ?_ ?_); (· omega)) | (simp -dsimp only [↓cw_ops, ↓cw_seq, ↓seqK_normal, ↓getK_same, ↓getK_ne, ↓evK_tmp, ↓opsW_nil, ↓opsW_d, ↓opsW_n, ↓ldN_some, ↓ld_28, ↓st_28, ↓r8_0_w, ↓s8_1_w, onV_some', ne_eq, Nat.reduceEqDiff, not_false_eq_true, ↓a1, ↓a2, dv5]))
    refine st_at (cs' := scrL c (.slice va P.length vc) (.slice ub A.length uc2)) W5.get rfl rfl rfl rfl (by decide) ?_
    have O6 := O5.setLow (i := h.n + 1) (k := .cells (scrL c (.slice va P.length vc) (.slice ub A.length uc2)) 28 true) (by omega)
    have o6 := ownS_setLow (i := h.n + 1) (k := .cells (scrL c (.slice va P.length vc) (.slice ub A.length uc2)) 28 true) o5 (by omega)
    have V6 := W5.set (cs' := scrL c (.slice va P.length vc) (.slice ub A.length uc2))
    have X6 : ExtB h.n h5 { h5 with b := h5.b.set (h.n + 1) (.cells (scrL c (.slice va P.length vc) (.slice ub A.length uc2)) 28 true) } := ExtB.set _ (by omega)
    generalize ({ h5 with b := h5.b.set (h.n + 1) (.cells (scrL c (.slice va P.length vc) (.slice ub A.length uc2)) 28 true) } : Heap) = h6 at V6 O6 o6 X6 ⊢
    have dv6 := V6.scr
    repeat' (first | done | with_reducible (first | refine y1 ?_ (by omega) | refine y2 ?_ (by omega) | refine y3 (fun _ => ?_) (fun _ => ?_) | refine y4 ?_ (by omega) (by omega) | refine y5 ?_ (by omega) | refine y6 ?_ (by with_unfolding_all rfl) | refine y7 ?_ (by with_unfolding_all rfl) | refine y8 ?_ (by with_unfolding_all rfl) | refine y9 ?_ (by with_unfolding_all rfl) | refine ya ?_ (by with_unfolding_all rfl)) | ((with_reducible refine And.intro ?_ ?_); (· omega)) | (simp -dsimp only [↓cw_ret, ↓seqK_normal, ↓getK_same, ↓getK_ne, ↓opsW_nil, ↓ldN_some, ↓resK_cellR, ↓agl_28, onV_some', ne_eq, Nat.reduceEqDiff, not_false_eq_true, ↓a2, dv6]))
    exact hK _ _ h6 ((((XX.trans X3).trans (X4.mono (by omega))).trans X5).trans X6) (O6.mono (by omega)) (ownS_mono o6 (by omega))
end Go.Proofs.YtohjaacnlmkhbaaGreatDoor

namespace Go.Proofs.YtohjaacnlmkhbaaGreatDoor
open Go.Ev
set_option maxRecDepth 100000
set_option maxHeartbeats 400000
theorem same_nil {n : Nat} : sameV n (.slice none 0 0) (.slice none 0 0) = true := by cases n <;> simp [sameV]
theorem same_own {B : Nat} {h : Heap} {e : TypeId} {v : Value} {n k : Nat} {cs : List Value} (o : OwnS B h e v n cs) : sameV k v v = true := by
  cases o with
  | nil => cases k <;> simp [sameV]
  | emp j hj => cases k <;> simp [sameV]
  | row j n cs h1 h2 h3 => cases k <;> simp [sameV]
theorem OwnP.same {B : Nat} {h : Heap} {v : Value} {P : List (List UInt8)} {k : Nat} (o : OwnP B h v P) : sameV k v v = true := by
  obtain ⟨us, e1, e2, _⟩ := o; exact same_own e2
theorem copyC_ret {B : Nat} {c : Nat → Int} {pv : Value} {P : List (List UInt8)} {h : Heap} {K : Value → Heap → Prop} (r : RdP B h pv P) (hB : B ≤ h.n) (hp : P.length ≤ 40 ∧ ∀ l ∈ P, l.length ≤ 40000)
    (hK : ∀ pv' h', ExtB h.n h h' → OwnP h.n h' pv' P → K (.agg ⟨cfgL c pv'⟩) h') : Ret env (.func 20) [.agg ⟨cfgL c pv⟩] h K := by
  obtain ⟨pa, pc, rfl, _⟩ := id r
  refine F20 rfl ?_
  repeat' (first | done | with_reducible (first | refine y1 ?_ (by omega) | refine y2 ?_ (by omega) | refine y3 (fun _ => ?_) (fun _ => ?_) | refine y4 ?_ (by omega) (by omega) | refine y5 ?_ (by omega) | refine y6 ?_ (by with_unfolding_all rfl) | refine y7 ?_ (by with_unfolding_all rfl) | refine y8 ?_ (by with_unfolding_all rfl) | refine y9 ?_ (by with_unfolding_all rfl) | refine ya ?_ (by with_unfolding_all rfl)) | ((with_reducible refine And.intro ?_ ?_); (· omega)) | (simp -dsimp only [↓cw_ops, ↓cw_seq, ↓seqK_normal, ↓getK_same, ↓getK_ne, ↓evK_tmp, ↓opsW_nil, ↓opsW_d, ↓ld1_some, ↓fldA_some, ↓setAll_cons, ↓setAll_nil, ↓opW_box, ↓box_agg, ↓fa_25_14, ↓ld_23, ↓al_25, ↓r20_20_w, ↓s20_21_w, ↓r20_22_w, ↓s20_23_w, true_and, ne_eq, Nat.reduceEqDiff, Nat.reduceAdd, not_false_eq_true, Addr.add_lit, cfg_one]))
  have V := Box.new h (cfgL c (.slice pa P.length pc)) 25
  have X : ExtB h.n h (newBlk h (.cells (cfgL c (.slice pa P.length pc)) 25 true)) := ExtB.new _ (Nat.le_refl _)
  have hn1 : (newBlk h (.cells (cfgL c (.slice pa P.length pc)) 25 true)).n = h.n + 1 := rfl
  generalize newBlk h (.cells (cfgL c (.slice pa P.length pc)) 25 true) = h1 at V X hn1 ⊢
  repeat' (first | done | with_reducible (first | refine y1 ?_ (by omega) | refine y2 ?_ (by omega) | refine y3 (fun _ => ?_) (fun _ => ?_) | refine y4 ?_ (by omega) (by omega) | refine y5 ?_ (by omega) | refine y6 ?_ (by with_unfolding_all rfl) | refine y7 ?_ (by with_unfolding_all rfl) | refine y8 ?_ (by with_unfolding_all rfl) | refine y9 ?_ (by with_unfolding_all rfl) | refine ya ?_ (by with_unfolding_all rfl)) | ((with_reducible refine And.intro ?_ ?_); (· omega)) | (simp -dsimp only [↓cw_skip, ↓cw_ops, ↓cw_plan, ↓cw_seq, ↓cw_block, ↓cw_exit, ↓cw_ret, ↓cw_cond, ↓seqK_normal, ↓seqK_exit, ↓seqK_ret, ↓blockK_normal, ↓blockK_ret, ↓blockK_same, ↓blockK_ne, ↓loopK_normal, ↓loopK_exit, ↓loopK_ret, ↓getK_same, ↓getK_ne, ↓getK_leaf, ↓evK_tmp, ↓evK_int, ↓evK_bool, ↓evK_string, ↓evK_float, ↓evK_nilptr, ↓evK_nilslice, ↓evK_nilmap, ↓evK_nilFunc, ↓evK_nilIface, ↓evK_func, ↓condV_true, ↓condV_false, ↓condV_var, ↓gdV_tt, ↓gdV_tf, ↓gdV_ft, ↓gdV_ff, ↓gdV_var, ↓gdV_undef, ↓opsW_nil, ↓opsW_d, ↓opsW_n, ↓opsW_gd, ↓opsW_gn, ↓planW_nil, ↓planW_d, ↓planW_n, ↓planW_gd, ↓planW_gn, ↓agK_nil, ↓opW_move, ↓opW_assign, ↓opW_pick, ↓opW_bin, ↓bin_add, ↓bin_sub, ↓bin_mul, ↓bin_quo, ↓bin_rem, ↓bin_shl, ↓bin_shr, ↓bin_eql, ↓bin_neq, ↓bin_lss, ↓bin_leq, ↓bin_gtr, ↓bin_geq, ↓ld1_some, ↓ldN_some, ↓fldA_some, ↓idxS_some, ↓evs_nil, ↓evs_cons, ↓opW_callV, ↓lenS_some, ↓resK_one, ↓resK_one', ↓resK_two, ↓resK_two', ↓setAll_cons, ↓setAll_nil, ↓opW_box, ↓box_int, ↓box_bool, ↓box_string, ↓box_slice, ↓box_pointer, ↓box_map, ↓box_func, ↓box_agg, ↓evp_nil, ↓evp_cons, ↓idxA_some, ↓bin_eqlS, ↓bin_neqS, ↓evK_agg, ↓opW_un, ↓un_not, ↓un_neg, ↓cint_int, ↓part_one, ↓opW_extract, ↓ext_tuple, ↓opW_makeFuncF, ↓opW_nilCheck, ↓callV_some, ↓opW_lookup, ↓opW_mapUpdate, ↓opW_delete, ↓opW_slice, ↓evo_none, ↓evo_some, ↓agK_load, ↓agK_loadG, ↓resK_nil, ↓resK_nil', ↓resK_cellR, ↓resK_cellN, ↓resK_ct, ↓cap_nil, ↓bin_and, ↓agV_same, ↓agV_ne, ↓opW_max, ↓max_int, ↓bin_addF, ↓bin_subF, ↓bin_mulF, ↓bin_quoF, ↓isF_float, ↓isF_add, ↓isF_sub, ↓isF_mul, ↓isF_quo, ↓cf_F, ↓cif_int, ↓box_F, ↓resK_three, ↓ta_same, ↓ta_ne, ↓ta_nil, ↓callE, ↓agl_28, ↓ld_28, ↓al_28, ↓st_28, ↓fa_28_1, ↓ld_26, ↓len_26, ↓ia_26, ↓fa_35_1, ↓ld_3, ↓st_3, ↓fa_28_0, ↓fa_25_14, ↓ld_23, ↓len_23, ↓ia_23, ↓ld_36, ↓len_36, ↓ia_36, ↓ld_5, ↓st_5, ↓ld_25, ↓ap_36_36, ↓bsl_23_1, ↓ap_23_23, ↓st_23, ↓ap_26_26, ↓st_26, ↓agl_26, ↓bd_28, ↓ld_35, ↓neqA_35, ↓eqlA_35, ↓agl_25, ↓agl_23, ↓al_25, ↓st_25, ↓eqN_26, ↓bsl_26_0, ↓len_95, ↓ia_95, ↓len_97, ↓ia_97, ↓ld_22, ↓cv_36_9, ↓al_101, ↓st_101, ↓ia_101, ↓fa_100_1, ↓ld_20, ↓eqN_36, ↓bsl_36_0, ↓fa_25_0, ↓fa_25_1, ↓fa_25_2, ↓fa_25_3, ↓fa_25_4, ↓fa_25_5, ↓fa_25_6, ↓fa_25_7, ↓fa_25_8, ↓fa_25_9, ↓bsl_95_10, ↓fa_25_10, ↓fa_25_11, ↓fa_25_12, ↓fa_25_13, ↓bsl_97_4, ↓agl_101, ↓mi_106, ↓bd_100, ↓mi_107, ↓bd_101, ↓ta_106, ↓ta_107, ↓r20_0_w, ↓s20_1_w, ↓r20_2_w, ↓s20_3_w, ↓p20_4_w, ↓s20_5_w, ↓r20_6_w, ↓s20_7_w, ↓s20_8_w, ↓s20_9_w, ↓s20_10_w, ↓r20_11_w, ↓s20_12_w, ↓s20_13_w, ↓s20_14_w, ↓r20_15_w, ↓s20_16_w, ↓s20_17_w, ↓r20_18_w, ↓s20_19_w, ↓r20_20_w, ↓s20_21_w, ↓r20_22_w, ↓s20_23_w, cellAt_newE, cellAt_newO, cellsAt_newE, cellsAt_newO, newBlk_n, Nat.lt_add_one, List.getElem?_cons_zero, List.getElem?_cons_succ, List.length_cons, List.length_nil, onV_some', brK_true, brK_false, brK_not, Nat.le_refl, true_and, and_true, ne_eq, Nat.reduceEqDiff, Nat.reduceAdd, not_false_eq_true, not_true_eq_false, Nat.one_ne_zero, Nat.zero_ne_one, Nat.add_zero, Addr.add_lit, Int.toNat_natCast, Int.toNat_zero, Nat.zero_mul, Bool.true_eq_false, Bool.false_eq_true]))
  have W := Box.new h1 (cfgL zc (.slice none 0 0)) 25
  have X1 : ExtB h1.n h1 (newBlk h1 (.cells (cfgL zc (.slice none 0 0)) 25 true)) := ExtB.new _ (Nat.le_refl _)
  have hn2 : (newBlk h1 (.cells (cfgL zc (.slice none 0 0)) 25 true)).n = h.n + 2 := by show h1.n + 1 = _; omega
  have e0 : [Value.int .i64 0, .int .i64 0, .int .i64 0, .int .i64 0, .int .i64 0, .int .i64 0, .int .i64 0, .int .i64 0, .int .i64 0, .int .i64 0, .int .u64 0, .int .u64 0, .int .u64 0, .int .u64 0, .slice none 0 0] = cfgL zc (.slice none 0 0) := rfl
  rw [e0]
  rw [hn1] at W ⊢
  replace V := V.ext X1 (by omega)
  replace X := X.trans (X1.mono (by omega))
  generalize newBlk h1 (.cells (cfgL zc (.slice none 0 0)) 25 true) = h2 at V W X hn2 ⊢
  clear X1 hn1
  have dv := V.cfg
  repeat' (first | done | with_reducible (first | refine y1 ?_ (by omega) | refine y2 ?_ (by omega) | refine y3 (fun _ => ?_) (fun _ => ?_) | refine y4 ?_ (by omega) (by omega) | refine y5 ?_ (by omega) | refine y6 ?_ (by with_unfolding_all rfl) | refine y7 ?_ (by with_unfolding_all rfl) | refine y8 ?_ (by with_unfolding_all rfl) | refine y9 ?_ (by with_unfolding_all rfl) | refine ya ?_ (by with_unfolding_all rfl)) | ((with_reducible refine And.intro ?_ ?_); (· omega)) | (simp -dsimp only [↓cw_ops, ↓cw_seq, ↓seqK_normal, ↓getK_same, ↓getK_ne, ↓evK_tmp, ↓evK_nilslice, ↓opsW_nil, ↓opsW_d, ↓opsW_n, ↓opW_assign, ↓fldA_some, ↓fa_25_14, ↓st_23, ↓r20_18_w, ↓s20_19_w, onV_some', ne_eq, Nat.reduceEqDiff, Nat.reduceAdd, not_false_eq_true, Addr.add_lit, dv]))
  refine st_at (cs' := cfgL c (.slice none 0 0)) V.get rfl rfl rfl rfl (by decide) ?_
  have V3 := V.set (cs' := cfgL c (.slice none 0 0))
  have W3 : Box { h2 with b := h2.b.set h.n (.cells (cfgL c (.slice none 0 0)) 25 true) } (h.n + 1) (cfgL zc (.slice none 0 0)) 25 := W.setOther (by omega)
  have X3 : ExtB h.n h2 { h2 with b := h2.b.set h.n (.cells (cfgL c (.slice none 0 0)) 25 true) } := ExtB.set _ (Nat.le_refl _)
  have n3 : ({ h2 with b := h2.b.set h.n (.cells (cfgL c (.slice none 0 0)) 25 true) } : Heap).n = h2.n := rfl
  generalize ({ h2 with b := h2.b.set h.n (.cells (cfgL c (.slice none 0 0)) 25 true) } : Heap) = h3 at V3 W3 X3 n3 ⊢
  replace X := X.trans X3
  clear V W dv X3
  repeat' (first | done | with_reducible (first | refine y1 ?_ (by omega) | refine y2 ?_ (by omega) | refine y3 (fun _ => ?_) (fun _ => ?_) | refine y4 ?_ (by omega) (by omega) | refine y5 ?_ (by omega) | refine y6 ?_ (by with_unfolding_all rfl) | refine y7 ?_ (by with_unfolding_all rfl) | refine y8 ?_ (by with_unfolding_all rfl) | refine y9 ?_ (by with_unfolding_all rfl) | refine ya ?_ (by with_unfolding_all rfl)) | ((with_reducible refine And.intro ?_ ?_); (· omega)) | (simp -dsimp only [↓cw_ops, ↓cw_seq, ↓cw_block, ↓seqK_normal, ↓getK_same, ↓getK_ne, ↓evK_tmp, ↓evK_int, ↓opsW_nil, ↓opsW_d, ↓opW_move, ↓lenS_some, ↓setAll_cons, ↓setAll_nil, ↓len_23, ↓s20_13_w, ↓s20_14_w, ↓r20_15_w, ↓s20_16_w, ↓s20_17_w, ne_eq, Nat.reduceEqDiff, Nat.reduceAdd, not_false_eq_true, Addr.add_lit]))
  refine cw_loopI (fun m fr' h' => ∃ (k : Nat) (v : Value), k ≤ P.length ∧ m = 40 - k ∧ ExtB h.n h h' ∧ h.n + 2 ≤ h'.n ∧ fr'.get 11 = some (.int .i64 k) ∧ Box h' h.n (cfgL c v) 25 ∧ Box h' (h.n + 1) (cfgL zc (.slice none 0 0)) 25 ∧ OwnP (h.n + 2) h' v (P.take k)) 40 ?_ (by omega) ?_
  · exact ⟨0, _, by omega, by omega, X, by omega, by simp [T.get_set], V3, W3, OwnP.nil _ _⟩
  rintro m fr2 h' ⟨k, v, hk, rfl, XX, nn, f11, V', W', O⟩ hag
  have e11 := getK_of f11
  have a1 := getK_eq (hag 1 rfl)
  have a2 := getK_eq (hag 2 rfl)
  have a9 := getK_eq (hag 9 rfl)
  have a10 := getK_eq (hag 10 rfl)
  have dv := V'.cfg
  obtain ⟨va, vc, hv⟩ := O.val
  have htl : (P.take k).length = k := by rw [List.length_take]; omega
  rw [htl] at hv
  subst hv
  have sv : ∀ n, (sameV n (.slice va k vc) (.slice va k vc) = true) = True := fun n => by simp [O.same]
  by_cases hlt : k < P.length
  · obtain ⟨i, o, ua, uc, rfl, hi, hc, hu⟩ := r.at_ hlt
    have hu' := hu.ext (XX.mono hB)
    have hc' := cellAt_ext (XX.mono hB) hi hc
    have hlk := hp.2 P[k] (List.getElem_mem _)
    repeat' (first | done | with_reducible (first | refine y1 ?_ (by omega) | refine y2 ?_ (by omega) | refine y3 (fun _ => ?_) (fun _ => ?_) | refine y4 ?_ (by omega) (by omega) | refine y5 ?_ (by omega) | refine y6 ?_ (by with_unfolding_all rfl) | refine y7 ?_ (by with_unfolding_all rfl) | refine y8 ?_ (by with_unfolding_all rfl) | refine y9 ?_ (by with_unfolding_all rfl) | refine ya ?_ (by with_unfolding_all rfl)) | ((with_reducible refine And.intro ?_ ?_); (· omega)) | (simp -dsimp only [↓cw_skip, ↓cw_ops, ↓cw_plan, ↓cw_seq, ↓cw_block, ↓cw_cond, ↓seqK_normal, ↓getK_same, ↓getK_ne, ↓evK_tmp, ↓condV_var, ↓opsW_nil, ↓opsW_d, ↓planW_d, ↓agK_nil, ↓opW_move, ↓opW_assign, ↓opW_bin, ↓bin_lss, ↓ld1_some, ↓fldA_some, ↓idxS_some, ↓evs_nil, ↓evs_cons, ↓callE, ↓fa_25_14, ↓ld_23, ↓ia_23, ↓ld_36, ↓p20_4_w, ↓s20_5_w, ↓r20_6_w, ↓s20_7_w, ↓s20_8_w, ↓s20_9_w, ↓s20_10_w, ↓r20_11_w, ↓s20_12_w, onV_some', brK_true, Nat.le_refl, true_and, ne_eq, Nat.reduceEqDiff, Nat.reduceAdd, not_false_eq_true, Addr.add_lit, Int.toNat_natCast, ↓e11, ↓a1, ↓a9, ↓a10, dv, Nat.mul_one, hc']))
    refine cloneB_ret hu' (by omega) (by omega) fun u h4 o4 X4 => ?_
    have n4 := X4.n
    obtain ⟨ub, uc2, rfl⟩ := ownS_val o4
    have O4 := O.ext X4 (Nat.le_refl _)
    have V4 := V'.ext X4 (by omega)
    have W4 := W'.ext X4 (by omega)
    have dv4 := V4.cfg
    repeat' (first | done | with_reducible (first | refine y1 ?_ (by omega) | refine y2 ?_ (by omega) | refine y3 (fun _ => ?_) (fun _ => ?_) | refine y4 ?_ (by omega) (by omega) | refine y5 ?_ (by omega) | refine y6 ?_ (by with_unfolding_all rfl) | refine y7 ?_ (by with_unfolding_all rfl) | refine y8 ?_ (by with_unfolding_all rfl) | refine y9 ?_ (by with_unfolding_all rfl) | refine ya ?_ (by with_unfolding_all rfl)) | ((with_reducible refine And.intro ?_ ?_); (· omega)) | (simp -dsimp only [↓getK_same, ↓getK_ne, ↓evK_tmp, ↓planW_d, ↓agK_nil, ↓ld1_some, ↓evp_nil, ↓evp_cons, ↓agK_load, ↓agV_same, ↓agV_ne, ↓bsl_23_1, ↓ap_23_23, ↓agl_23, newBlk_n, onV_some', true_and, and_true, ne_eq, Nat.reduceEqDiff, Nat.reduceAdd, not_false_eq_true, Addr.add_lit, dv4, sv]))
    refine OwnP.app O4 (ownS_mono o4 nn) (by omega) (by rw [htl]; omega) rfl rfl fun v' h5 O5 X5 n5 => ?_
    rw [List.take_append_getElem] at O5
    obtain ⟨va', vc', hv'⟩ := O5.val
    rw [List.length_take, Nat.min_eq_left (by omega)] at hv'
    subst hv'
    have V5 := V4.ext X5 (by omega)
    have W5 := W4.ext X5 (by omega)
    repeat' (first | done | with_reducible (first | refine y1 ?_ (by omega) | refine y2 ?_ (by omega) | refine y3 (fun _ => ?_) (fun _ => ?_) | refine y4 ?_ (by omega) (by omega) | refine y5 ?_ (by omega) | refine y6 ?_ (by with_unfolding_all rfl) | refine y7 ?_ (by with_unfolding_all rfl) | refine y8 ?_ (by with_unfolding_all rfl) | refine y9 ?_ (by with_unfolding_all rfl) | refine ya ?_ (by with_unfolding_all rfl)) | ((with_reducible refine And.intro ?_ ?_); (· omega)) | (simp -dsimp only [↓getK_same, ↓getK_ne, ↓evK_tmp, ↓planW_d, ↓planW_n, ↓agK_nil, ↓fldA_some, ↓fa_25_14, ↓st_23, newBlk_n, Nat.le_refl, true_and, ne_eq, Nat.reduceEqDiff, Nat.reduceAdd, not_false_eq_true, Addr.add_lit, ↓a1]))
    refine st_at (cs' := cfgL c (.slice va' (k + 1) vc')) V5.get rfl rfl rfl rfl (by decide) ?_
    have O6 := O5.setLow (i := h.n) (k := .cells (cfgL c (.slice va' (k + 1) vc')) 25 true) (by omega)
    have V6 := V5.set (cs' := cfgL c (.slice va' (k + 1) vc'))
    have W6 : Box { h5 with b := h5.b.set h.n (.cells (cfgL c (.slice va' (k + 1) vc')) 25 true) } (h.n + 1) (cfgL zc (.slice none 0 0)) 25 := W5.setOther (by omega)
    have X6 : ExtB h.n h5 { h5 with b := h5.b.set h.n (.cells (cfgL c (.slice va' (k + 1) vc')) 25 true) } := ExtB.set _ (by omega)
    have n6 : ({ h5 with b := h5.b.set h.n (.cells (cfgL c (.slice va' (k + 1) vc')) 25 true) } : Heap).n = h5.n := rfl
    generalize ({ h5 with b := h5.b.set h.n (.cells (cfgL c (.slice va' (k + 1) vc')) 25 true) } : Heap) = h6 at O6 V6 W6 X6 n6 ⊢
    repeat' (first | done | with_reducible (first | refine y1 ?_ (by omega) | refine y2 ?_ (by omega) | refine y3 (fun _ => ?_) (fun _ => ?_) | refine y4 ?_ (by omega) (by omega) | refine y5 ?_ (by omega) | refine y6 ?_ (by with_unfolding_all rfl) | refine y7 ?_ (by with_unfolding_all rfl) | refine y8 ?_ (by with_unfolding_all rfl) | refine y9 ?_ (by with_unfolding_all rfl) | refine ya ?_ (by with_unfolding_all rfl)) | ((with_reducible refine And.intro ?_ ?_); (· omega)) | (simp -dsimp only [↓cw_ops, ↓seqK_normal, ↓blockK_normal, ↓loopK_normal, ↓getK_same, ↓getK_ne, ↓evK_tmp, ↓evK_int, ↓opsW_nil, ↓opsW_d, ↓planW_nil, ↓agK_nil, ↓opW_move, ↓opW_bin, ↓bin_add, ↓r20_2_w, ↓s20_3_w, true_and, ne_eq, Nat.reduceEqDiff, Nat.reduceAdd, not_false_eq_true, Addr.add_lit, Int.toNat_natCast, ↓e11]))
    exact ⟨40 - (k + 1), by omega, k + 1, _, by omega, rfl, ((XX.trans (X4.mono (by omega))).trans (X5.mono (by omega))).trans X6, by omega, by simp [T.get_set, wrap_succ (show k ≤ 4611686018427387904 by omega)], V6, W6, O6⟩
  · have hkl : k = P.length := by omega
    subst hkl
    rw [List.take_length] at O
    repeat' (first | done | with_reducible (first | refine y1 ?_ (by omega) | refine y2 ?_ (by omega) | refine y3 (fun _ => ?_) (fun _ => ?_) | refine y4 ?_ (by omega) (by omega) | refine y5 ?_ (by omega) | refine y6 ?_ (by with_unfolding_all rfl) | refine y7 ?_ (by with_unfolding_all rfl) | refine y8 ?_ (by with_unfolding_all rfl) | refine y9 ?_ (by with_unfolding_all rfl) | refine ya ?_ (by with_unfolding_all rfl)) | ((with_reducible refine And.intro ?_ ?_); (· omega)) | (simp -dsimp only [↓cw_ops, ↓cw_seq, ↓cw_exit, ↓cw_cond, ↓seqK_normal, ↓seqK_exit, ↓blockK_same, ↓loopK_exit, ↓getK_same, ↓getK_ne, ↓evK_tmp, ↓condV_var, ↓opsW_nil, ↓opsW_d, ↓opsW_n, ↓opW_bin, ↓bin_lss, ↓ldN_some, ↓ld_25, ↓st_25, ↓r20_0_w, ↓s20_1_w, ↓s20_9_w, ↓s20_10_w, ↓r20_11_w, ↓s20_12_w, onV_some', brK_false, ne_eq, Nat.reduceEqDiff, not_false_eq_true, Bool.false_eq_true,  ↓e11, ↓a1, ↓a2, ↓a10, dv]))
    refine st_at (cs' := cfgL c (.slice va P.length vc)) W'.get rfl rfl rfl rfl (by decide) ?_
    have O6 := O.setLow (i := h.n + 1) (k := .cells (cfgL c (.slice va P.length vc)) 25 true) (by omega)
    have V6 := W'.set (cs' := cfgL c (.slice va P.length vc))
    have X6 : ExtB h.n h' { h' with b := h'.b.set (h.n + 1) (.cells (cfgL c (.slice va P.length vc)) 25 true) } := ExtB.set _ (by omega)
    generalize ({ h' with b := h'.b.set (h.n + 1) (.cells (cfgL c (.slice va P.length vc)) 25 true) } : Heap) = h6 at O6 V6 X6 ⊢
    have dv6 := V6.cfg
    repeat' (first | done | with_reducible (first | refine y1 ?_ (by omega) | refine y2 ?_ (by omega) | refine y3 (fun _ => ?_) (fun _ => ?_) | refine y4 ?_ (by omega) (by omega) | refine y5 ?_ (by omega) | refine y6 ?_ (by with_unfolding_all rfl) | refine y7 ?_ (by with_unfolding_all rfl) | refine y8 ?_ (by with_unfolding_all rfl) | refine y9 ?_ (by with_unfolding_all rfl) | refine ya ?_ (by with_unfolding_all rfl)) | ((with_reducible refine And.intro ?_ ?_); (· omega)) | (simp -dsimp only [↓cw_ret, ↓seqK_normal, ↓getK_same, ↓getK_ne, ↓opsW_nil, ↓ldN_some, ↓resK_cellR, ↓agl_25, onV_some', ne_eq, Nat.reduceEqDiff, not_false_eq_true, ↓a2, dv6]))
    exact hK _ h6 (XX.trans X6) (O6.mono (by omega))
end Go.Proofs.YtohjaacnlmkhbaaGreatDoor

namespace Go.Proofs.YtohjaacnlmkhbaaGreatDoor
open Go.Ev
set_option maxRecDepth 100000
set_option maxHeartbeats 400000
theorem copyS_ret {B : Nat} {c : Nat → Int} {pv av : Value} {P : List (List UInt8)} {A : List ActD} {h : Heap} {K : Value → Heap → Prop} (r : RdP B h pv P) (ra : RdA B h av A) (hsv : ∀ n, sameV n av av = true) (hB : B ≤ h.n) (hp : P.length ≤ 40 ∧ ∀ l ∈ P, l.length ≤ 40000) (ha : A.length ≤ 300)
    (hK : ∀ pv' av' h', ExtB h.n h h' → OwnP h.n h' pv' P → OwnS h.n h' 35 av' A.length (A.map ActD.cells).flatten → K (.agg ⟨scrL c pv' av'⟩) h') : Ret env (.func 9) [.agg ⟨scrL c pv av⟩] h K := by
  obtain ⟨pa, pc, rfl, _⟩ := id r
  obtain ⟨aa, ac, rfl, _⟩ := id ra
  refine F9 rfl ?_
  repeat' (first | done | with_reducible (first | refine y1 ?_ (by omega) | refine y2 ?_ (by omega) | refine y3 (fun _ => ?_) (fun _ => ?_) | refine y4 ?_ (by omega) (by omega) | refine y5 ?_ (by omega) | refine y6 ?_ (by with_unfolding_all rfl) | refine y7 ?_ (by with_unfolding_all rfl) | refine y8 ?_ (by with_unfolding_all rfl) | refine y9 ?_ (by with_unfolding_all rfl) | refine ya ?_ (by with_unfolding_all rfl)) | ((with_reducible refine And.intro ?_ ?_); (· omega)) | (simp -dsimp only [↓cw_ops, ↓cw_plan, ↓cw_seq, ↓seqK_normal, ↓getK_same, ↓getK_ne, ↓evK_tmp, ↓opsW_nil, ↓opsW_d, ↓planW_d, ↓agK_nil, ↓ldN_some, ↓fldA_some, ↓setAll_cons, ↓setAll_nil, ↓opW_box, ↓box_agg, ↓al_28, ↓fa_28_0, ↓ld_25, ↓p9_0_w, ↓s9_1_w, ↓r9_2_w, ↓s9_3_w, newBlk_n, Nat.le_refl, true_and, ne_eq, Nat.reduceEqDiff, not_false_eq_true, Nat.add_zero, Addr.add_lit, scr_one]))
  have V := Box.new h (scrL c (.slice pa P.length pc) (.slice aa A.length ac)) 28
  have X : ExtB h.n h (newBlk h (.cells (scrL c (.slice pa P.length pc) (.slice aa A.length ac)) 28 true)) := ExtB.new _ (Nat.le_refl _)
  have hn1 : (newBlk h (.cells (scrL c (.slice pa P.length pc) (.slice aa A.length ac)) 28 true)).n = h.n + 1 := rfl
  generalize newBlk h (.cells (scrL c (.slice pa P.length pc) (.slice aa A.length ac)) 28 true) = h1 at V X hn1 ⊢
  repeat' (first | done | with_reducible (first | refine y1 ?_ (by omega) | refine y2 ?_ (by omega) | refine y3 (fun _ => ?_) (fun _ => ?_) | refine y4 ?_ (by omega) (by omega) | refine y5 ?_ (by omega) | refine y6 ?_ (by with_unfolding_all rfl) | refine y7 ?_ (by with_unfolding_all rfl) | refine y8 ?_ (by with_unfolding_all rfl) | refine y9 ?_ (by with_unfolding_all rfl) | refine ya ?_ (by with_unfolding_all rfl)) | ((with_reducible refine And.intro ?_ ?_); (· omega)) | (simp -dsimp only [↓cw_skip, ↓cw_ops, ↓cw_plan, ↓cw_seq, ↓cw_block, ↓cw_exit, ↓cw_ret, ↓cw_cond, ↓seqK_normal, ↓seqK_exit, ↓seqK_ret, ↓blockK_normal, ↓blockK_ret, ↓blockK_same, ↓blockK_ne, ↓loopK_normal, ↓loopK_exit, ↓loopK_ret, ↓getK_same, ↓getK_ne, ↓getK_leaf, ↓evK_tmp, ↓evK_int, ↓evK_bool, ↓evK_string, ↓evK_float, ↓evK_nilptr, ↓evK_nilslice, ↓evK_nilmap, ↓evK_nilFunc, ↓evK_nilIface, ↓evK_func, ↓condV_true, ↓condV_false, ↓condV_var, ↓gdV_tt, ↓gdV_tf, ↓gdV_ft, ↓gdV_ff, ↓gdV_var, ↓gdV_undef, ↓opsW_nil, ↓opsW_d, ↓opsW_n, ↓opsW_gd, ↓opsW_gn, ↓planW_nil, ↓planW_d, ↓planW_n, ↓planW_gd, ↓planW_gn, ↓agK_nil, ↓opW_move, ↓opW_assign, ↓opW_pick, ↓opW_bin, ↓bin_add, ↓bin_sub, ↓bin_mul, ↓bin_quo, ↓bin_rem, ↓bin_shl, ↓bin_shr, ↓bin_eql, ↓bin_neq, ↓bin_lss, ↓bin_leq, ↓bin_gtr, ↓bin_geq, ↓ld1_some, ↓ldN_some, ↓fldA_some, ↓idxS_some, ↓evs_nil, ↓evs_cons, ↓opW_callV, ↓lenS_some, ↓resK_one, ↓resK_one', ↓resK_two, ↓resK_two', ↓setAll_cons, ↓setAll_nil, ↓opW_box, ↓box_int, ↓box_bool, ↓box_string, ↓box_slice, ↓box_pointer, ↓box_map, ↓box_func, ↓box_agg, ↓evp_nil, ↓evp_cons, ↓idxA_some, ↓bin_eqlS, ↓bin_neqS, ↓evK_agg, ↓opW_un, ↓un_not, ↓un_neg, ↓cint_int, ↓part_one, ↓opW_extract, ↓ext_tuple, ↓opW_makeFuncF, ↓opW_nilCheck, ↓callV_some, ↓opW_lookup, ↓opW_mapUpdate, ↓opW_delete, ↓opW_slice, ↓evo_none, ↓evo_some, ↓agK_load, ↓agK_loadG, ↓resK_nil, ↓resK_nil', ↓resK_cellR, ↓resK_cellN, ↓resK_ct, ↓cap_nil, ↓bin_and, ↓agV_same, ↓agV_ne, ↓opW_max, ↓max_int, ↓bin_addF, ↓bin_subF, ↓bin_mulF, ↓bin_quoF, ↓isF_float, ↓isF_add, ↓isF_sub, ↓isF_mul, ↓isF_quo, ↓cf_F, ↓cif_int, ↓box_F, ↓resK_three, ↓ta_same, ↓ta_ne, ↓ta_nil, ↓callE, ↓agl_28, ↓ld_28, ↓al_28, ↓st_28, ↓fa_28_1, ↓ld_26, ↓len_26, ↓ia_26, ↓fa_35_1, ↓ld_3, ↓st_3, ↓fa_28_0, ↓fa_25_14, ↓ld_23, ↓len_23, ↓ia_23, ↓ld_36, ↓len_36, ↓ia_36, ↓ld_5, ↓st_5, ↓ld_25, ↓ap_36_36, ↓bsl_23_1, ↓ap_23_23, ↓st_23, ↓ap_26_26, ↓st_26, ↓agl_26, ↓bd_28, ↓ld_35, ↓neqA_35, ↓eqlA_35, ↓agl_25, ↓agl_23, ↓al_25, ↓st_25, ↓eqN_26, ↓bsl_26_0, ↓len_95, ↓ia_95, ↓len_97, ↓ia_97, ↓ld_22, ↓cv_36_9, ↓al_101, ↓st_101, ↓ia_101, ↓fa_100_1, ↓ld_20, ↓eqN_36, ↓bsl_36_0, ↓fa_25_0, ↓fa_25_1, ↓fa_25_2, ↓fa_25_3, ↓fa_25_4, ↓fa_25_5, ↓fa_25_6, ↓fa_25_7, ↓fa_25_8, ↓fa_25_9, ↓bsl_95_10, ↓fa_25_10, ↓fa_25_11, ↓fa_25_12, ↓fa_25_13, ↓bsl_97_4, ↓agl_101, ↓mi_106, ↓bd_100, ↓mi_107, ↓bd_101, ↓ta_106, ↓ta_107, ↓p9_0_w, ↓s9_1_w, ↓r9_2_w, ↓s9_3_w, cellAt_newE, cellAt_newO, cellsAt_newE, cellsAt_newO, newBlk_n, Nat.lt_add_one, List.getElem?_cons_zero, List.getElem?_cons_succ, List.length_cons, List.length_nil, onV_some', brK_true, brK_false, brK_not, Nat.le_refl, true_and, and_true, ne_eq, Nat.reduceEqDiff, Nat.reduceAdd, not_false_eq_true, not_true_eq_false, Nat.one_ne_zero, Nat.zero_ne_one, Nat.add_zero, Addr.add_lit, Int.toNat_natCast, Int.toNat_zero, Nat.zero_mul, Bool.true_eq_false, Bool.false_eq_true]))
  have W := Box.new h1 (scrL zc (.slice none 0 0) (.slice none 0 0)) 28
  have X1 : ExtB h1.n h1 (newBlk h1 (.cells (scrL zc (.slice none 0 0) (.slice none 0 0)) 28 true)) := ExtB.new _ (Nat.le_refl _)
  have hn2 : (newBlk h1 (.cells (scrL zc (.slice none 0 0) (.slice none 0 0)) 28 true)).n = h.n + 2 := by show h1.n + 1 = _; omega
  have e0 : [Value.int .i64 0, .int .i64 0, .int .i64 0, .int .i64 0, .int .i64 0, .int .i64 0, .int .i64 0, .int .i64 0, .int .i64 0, .int .i64 0, .int .u64 0, .int .u64 0, .int .u64 0, .int .u64 0, .slice none 0 0, .slice none 0 0] = scrL zc (.slice none 0 0) (.slice none 0 0) := rfl
  rw [e0]
  rw [hn1] at W ⊢
  replace V := V.ext X1 (by omega)
  replace X := X.trans (X1.mono (by omega))
  generalize newBlk h1 (.cells (scrL zc (.slice none 0 0) (.slice none 0 0)) 28 true) = h2 at V W X hn2 ⊢
  clear X1 hn1
  have dv := V.scr
  repeat' (first | done | with_reducible (first | refine y1 ?_ (by omega) | refine y2 ?_ (by omega) | refine y3 (fun _ => ?_) (fun _ => ?_) | refine y4 ?_ (by omega) (by omega) | refine y5 ?_ (by omega) | refine y6 ?_ (by with_unfolding_all rfl) | refine y7 ?_ (by with_unfolding_all rfl) | refine y8 ?_ (by with_unfolding_all rfl) | refine y9 ?_ (by with_unfolding_all rfl) | refine ya ?_ (by with_unfolding_all rfl)) | ((with_reducible refine And.intro ?_ ?_); (· omega)) | (simp -dsimp only [↓getK_same, ↓getK_ne, ↓evK_tmp, ↓planW_d, ↓agK_nil, ↓ld1_some, ↓fldA_some, ↓evs_nil, ↓evs_cons, ↓callE, ↓fa_28_1, ↓ld_26, onV_some', Nat.le_refl, true_and, ne_eq, Nat.reduceEqDiff, Nat.reduceAdd, not_false_eq_true, Addr.add_lit, dv]))
  refine copyC_ret (r.ext (X.mono hB)) (by omega) hp fun pv' h3 X3 O3 => ?_
  have n3 := X3.n
  have V3 := V.ext X3 (by omega)
  have W3 := W.ext X3 (by omega)
  have dv3 := V3.scr
  have hsv' : (sameV 50 (.slice aa A.length ac) (.slice aa A.length ac) = true) = True := by simp [hsv]
  repeat' (first | done | with_reducible (first | refine y1 ?_ (by omega) | refine y2 ?_ (by omega) | refine y3 (fun _ => ?_) (fun _ => ?_) | refine y4 ?_ (by omega) (by omega) | refine y5 ?_ (by omega) | refine y6 ?_ (by with_unfolding_all rfl) | refine y7 ?_ (by with_unfolding_all rfl) | refine y8 ?_ (by with_unfolding_all rfl) | refine y9 ?_ (by with_unfolding_all rfl) | refine ya ?_ (by with_unfolding_all rfl)) | ((with_reducible refine And.intro ?_ ?_); (· omega)) | (simp -dsimp only [↓getK_same, ↓getK_ne, ↓evK_tmp, ↓planW_d, ↓agK_nil, ↓ld1_some, ↓evs_nil, ↓evs_cons, ↓agK_load, ↓agV_same, ↓agV_ne, ↓callE, ↓agl_26, onV_some', true_and, and_true, ne_eq, Nat.reduceEqDiff, Nat.reduceAdd, not_false_eq_true, Addr.add_lit, dv3, hsv']))
  refine cloneA_ret (ra.ext ((X.trans (X3.mono (by omega))).mono hB)) (by omega) (by omega) fun av' h4 o4 X4 => ?_
  have n4 := X4.n
  have V4 := V3.ext X4 (by omega)
  have W4 := W3.ext X4 (by omega)
  have O4 := O3.ext X4 (Nat.le_refl _)
  have dv4 := V4.scr
  obtain ⟨pb, pc2, rfl⟩ := O4.val
  obtain ⟨ub, uc2, rfl⟩ := ownS_val o4
  repeat' (first | done | with_reducible (first | refine y1 ?_ (by omega) | refine y2 ?_ (by omega) | refine y3 (fun _ => ?_) (fun _ => ?_) | refine y4 ?_ (by omega) (by omega) | refine y5 ?_ (by omega) | refine y6 ?_ (by with_unfolding_all rfl) | refine y7 ?_ (by with_unfolding_all rfl) | refine y8 ?_ (by with_unfolding_all rfl) | refine y9 ?_ (by with_unfolding_all rfl) | refine ya ?_ (by with_unfolding_all rfl)) | ((with_reducible refine And.intro ?_ ?_); (· omega)) | (simp -dsimp only [↓getK_same, ↓getK_ne, ↓evK_tmp, ↓planW_d, ↓planW_n, ↓agK_nil, ↓evp_nil, ↓evp_cons, ↓st_28, ↓bd_28, true_and, ne_eq, Nat.reduceEqDiff, not_false_eq_true]))
  refine st_at (cs' := scrL c (.slice pb P.length pc2) (.slice ub A.length uc2)) W4.get rfl rfl rfl rfl (by decide) ?_
  have O6 := O4.setLow (i := h.n + 1) (k := .cells (scrL c (.slice pb P.length pc2) (.slice ub A.length uc2)) 28 true) (by omega)
  have o6 := ownS_setLow (i := h.n + 1) (k := .cells (scrL c (.slice pb P.length pc2) (.slice ub A.length uc2)) 28 true) o4 (by omega)
  have V6 := W4.set (cs' := scrL c (.slice pb P.length pc2) (.slice ub A.length uc2))
  have X6 : ExtB h.n h4 { h4 with b := h4.b.set (h.n + 1) (.cells (scrL c (.slice pb P.length pc2) (.slice ub A.length uc2)) 28 true) } := ExtB.set _ (by omega)
  have n6 : ({ h4 with b := h4.b.set (h.n + 1) (.cells (scrL c (.slice pb P.length pc2) (.slice ub A.length uc2)) 28 true) } : Heap).n = h4.n := rfl
  generalize ({ h4 with b := h4.b.set (h.n + 1) (.cells (scrL c (.slice pb P.length pc2) (.slice ub A.length uc2)) 28 true) } : Heap) = h6 at V6 O6 o6 X6 n6 ⊢
  have dv6 := V6.scr
  repeat' (first | done | with_reducible (first | refine y1 ?_ (by omega) | refine y2 ?_ (by omega) | refine y3 (fun _ => ?_) (fun _ => ?_) | refine y4 ?_ (by omega) (by omega) | refine y5 ?_ (by omega) | refine y6 ?_ (by with_unfolding_all rfl) | refine y7 ?_ (by with_unfolding_all rfl) | refine y8 ?_ (by with_unfolding_all rfl) | refine y9 ?_ (by with_unfolding_all rfl) | refine ya ?_ (by with_unfolding_all rfl)) | ((with_reducible refine And.intro ?_ ?_); (· omega)) | (simp -dsimp only [↓cw_ret, ↓seqK_normal, ↓getK_same, ↓getK_ne, ↓planW_nil, ↓agK_nil, ↓ldN_some, ↓resK_cellR, ↓agl_28, onV_some', true_and, ne_eq, Nat.reduceEqDiff, not_false_eq_true, dv6]))
  exact hK _ _ h6 (((X.trans (X3.mono (by omega))).trans (X4.mono (by omega))).trans X6) (O6.mono (by omega)) (ownS_mono o6 (by omega))
/-! which are the same: the document's answer -/
theorem Box.at_ {h : Heap} {i j : Nat} {cs : List Value} {e : TypeId} {v : Value} (b : Box h i cs e) (hj : cs[j]? = some v) : cellAt h ⟨i, j, none⟩ = some v := cellAt_blk b.lt b.get hj
theorem Box.all10 {h : Heap} {i : Nat} {c : Nat → Int} {pv : Value} (b : Box h i (cfgL c pv) 25) : cellAt h ⟨i, 0, none⟩ = some (.int .i64 (c 0)) ∧ cellAt h ⟨i, 1, none⟩ = some (.int .i64 (c 1)) ∧ cellAt h ⟨i, 2, none⟩ = some (.int .i64 (c 2)) ∧ cellAt h ⟨i, 3, none⟩ = some (.int .i64 (c 3)) ∧ cellAt h ⟨i, 4, none⟩ = some (.int .i64 (c 4)) ∧ cellAt h ⟨i, 5, none⟩ = some (.int .i64 (c 5)) ∧ cellAt h ⟨i, 6, none⟩ = some (.int .i64 (c 6)) ∧ cellAt h ⟨i, 7, none⟩ = some (.int .i64 (c 7)) ∧ cellAt h ⟨i, 8, none⟩ = some (.int .i64 (c 8)) ∧ cellAt h ⟨i, 9, none⟩ = some (.int .i64 (c 9)) :=
  ⟨b.at_ rfl, b.at_ rfl, b.at_ rfl, b.at_ rfl, b.at_ rfl, b.at_ rfl, b.at_ rfl, b.at_ rfl, b.at_ rfl, b.at_ rfl⟩
theorem Box.all4 {h : Heap} {i : Nat} {c : Nat → Int} {pv : Value} (b : Box h i (cfgL c pv) 25) : cellAt h ⟨i, 10, none⟩ = some (.int .u64 (c 10)) ∧ cellAt h ⟨i, 11, none⟩ = some (.int .u64 (c 11)) ∧ cellAt h ⟨i, 12, none⟩ = some (.int .u64 (c 12)) ∧ cellAt h ⟨i, 13, none⟩ = some (.int .u64 (c 13)) :=
  ⟨b.at_ rfl, b.at_ rfl, b.at_ rfl, b.at_ rfl⟩
theorem small_ret {c : Nat → Int} {a : Option Addr} {n cc : Nat} {h : Heap} {K : Value → Heap → Prop}
    (hK : ∀ j h', ExtB h.n h h' → j < h'.n → (∀ k, k < 10 → cellAt h' ⟨j, k, none⟩ = some (.int .i64 (c k))) → K (.slice (some ⟨j, 0, none⟩) 10 10) h') : Ret env (.func 57) [.agg ⟨cfgL c (.slice a n cc)⟩] h K := by
  refine F57 rfl ?_
  simp only [cfgL]
  repeat' (first | done | with_reducible (first | refine y1 ?_ (by omega) | refine y2 ?_ (by omega) | refine y3 (fun _ => ?_) (fun _ => ?_) | refine y4 ?_ (by omega) (by omega) | refine y5 ?_ (by omega) | refine y6 ?_ (by with_unfolding_all rfl) | refine y7 ?_ (by with_unfolding_all rfl) | refine y8 ?_ (by with_unfolding_all rfl) | refine y9 ?_ (by with_unfolding_all rfl) | refine ya ?_ (by with_unfolding_all rfl)) | ((with_reducible refine And.intro ?_ ?_); (· omega)) | (simp -dsimp only [↓cw_ops, ↓cw_seq, ↓seqK_normal, ↓getK_same, ↓getK_ne, ↓evK_tmp, ↓evK_nilslice, ↓opsW_nil, ↓opsW_d, ↓opW_assign, ↓ld1_some, ↓fldA_some, ↓setAll_cons, ↓setAll_nil, ↓opW_box, ↓box_agg, ↓evp_nil, ↓evp_cons, ↓ld_3, ↓fa_25_0, ↓fa_25_1, ↓fa_25_2, ↓fa_25_3, ↓fa_25_4, ↓fa_25_5, ↓fa_25_6, ↓fa_25_7, ↓fa_25_8, ↓fa_25_9, ↓bsl_95_10, ↓r57_0_w, ↓s57_1_w, ↓r57_2_w, ↓s57_3_w, cellAt_newE, List.getElem?_cons_zero, List.getElem?_cons_succ, onV_some', ne_eq, Nat.reduceEqDiff, Nat.reduceAdd, not_false_eq_true, Nat.add_zero, Addr.add_lit]))
  refine bs_of (l := [.int .i64 (c 0), .int .i64 (c 1), .int .i64 (c 2), .int .i64 (c 3), .int .i64 (c 4), .int .i64 (c 5), .int .i64 (c 6), .int .i64 (c 7), .int .i64 (c 8), .int .i64 (c 9)]) ?_ ?_
  · rfl
  repeat' (first | done | with_reducible (first | refine y1 ?_ (by omega) | refine y2 ?_ (by omega) | refine y3 (fun _ => ?_) (fun _ => ?_) | refine y4 ?_ (by omega) (by omega) | refine y5 ?_ (by omega) | refine y6 ?_ (by with_unfolding_all rfl) | refine y7 ?_ (by with_unfolding_all rfl) | refine y8 ?_ (by with_unfolding_all rfl) | refine y9 ?_ (by with_unfolding_all rfl) | refine ya ?_ (by with_unfolding_all rfl)) | ((with_reducible refine And.intro ?_ ?_); (· omega)) | (simp -dsimp only [↓cw_ret, ↓seqK_normal, ↓getK_same, ↓evK_tmp, ↓opsW_nil, ↓opsW_d, ↓opW_assign, ↓resK_one, newBlk_n]))
  refine hK _ _ ((ExtB.new _ (Nat.le_refl _)).trans (ExtB.new _ (Nat.le_succ _))) (Nat.lt_succ_self _) fun k hk => ?_
  refine (cellAt_newE (h := newBlk h _)).trans ?_
  rcases k with _ | _ | _ | _ | _ | _ | _ | _ | _ | _ | k <;> first | rfl | omega
theorem great_ret {c : Nat → Int} {a : Option Addr} {n cc : Nat} {h : Heap} {K : Value → Heap → Prop}
    (hK : ∀ j h', ExtB h.n h h' → j < h'.n → (∀ k, k < 4 → cellAt h' ⟨j, k, none⟩ = some (.int .u64 (c (10 + k)))) → K (.slice (some ⟨j, 0, none⟩) 4 4) h') : Ret env (.func 58) [.agg ⟨cfgL c (.slice a n cc)⟩] h K := by
  refine F58 rfl ?_
  simp only [cfgL]
  repeat' (first | done | with_reducible (first | refine y1 ?_ (by omega) | refine y2 ?_ (by omega) | refine y3 (fun _ => ?_) (fun _ => ?_) | refine y4 ?_ (by omega) (by omega) | refine y5 ?_ (by omega) | refine y6 ?_ (by with_unfolding_all rfl) | refine y7 ?_ (by with_unfolding_all rfl) | refine y8 ?_ (by with_unfolding_all rfl) | refine y9 ?_ (by with_unfolding_all rfl) | refine ya ?_ (by with_unfolding_all rfl)) | ((with_reducible refine And.intro ?_ ?_); (· omega)) | (simp -dsimp only [↓cw_ops, ↓cw_seq, ↓seqK_normal, ↓getK_same, ↓getK_ne, ↓evK_tmp, ↓evK_nilslice, ↓opsW_nil, ↓opsW_d, ↓opW_assign, ↓ld1_some, ↓fldA_some, ↓setAll_cons, ↓setAll_nil, ↓opW_box, ↓box_agg, ↓evp_nil, ↓evp_cons, ↓ld_22, ↓fa_25_10, ↓fa_25_11, ↓fa_25_12, ↓fa_25_13, ↓bsl_97_4, ↓r58_0_w, ↓s58_1_w, ↓r58_2_w, ↓s58_3_w, cellAt_newE, List.getElem?_cons_zero, List.getElem?_cons_succ, onV_some', ne_eq, Nat.reduceEqDiff, Nat.reduceAdd, not_false_eq_true, Addr.add_lit]))
  refine bs_of (l := [.int .u64 (c 10), .int .u64 (c 11), .int .u64 (c 12), .int .u64 (c 13)]) ?_ ?_
  · rfl
  repeat' (first | done | with_reducible (first | refine y1 ?_ (by omega) | refine y2 ?_ (by omega) | refine y3 (fun _ => ?_) (fun _ => ?_) | refine y4 ?_ (by omega) (by omega) | refine y5 ?_ (by omega) | refine y6 ?_ (by with_unfolding_all rfl) | refine y7 ?_ (by with_unfolding_all rfl) | refine y8 ?_ (by with_unfolding_all rfl) | refine y9 ?_ (by with_unfolding_all rfl) | refine ya ?_ (by with_unfolding_all rfl)) | ((with_reducible refine And.intro ?_ ?_); (· omega)) | (simp -dsimp only [↓cw_ret, ↓seqK_normal, ↓getK_same, ↓evK_tmp, ↓opsW_nil, ↓opsW_d, ↓opW_assign, ↓resK_one, newBlk_n]))
  refine hK _ _ ((ExtB.new _ (Nat.le_refl _)).trans (ExtB.new _ (Nat.le_succ _))) (Nat.lt_succ_self _) fun k hk => ?_
  refine (cellAt_newE (h := newBlk h _)).trans ?_
  rcases k with _ | _ | _ | _ | k <;> first | rfl | omega
end Go.Proofs.YtohjaacnlmkhbaaGreatDoor

