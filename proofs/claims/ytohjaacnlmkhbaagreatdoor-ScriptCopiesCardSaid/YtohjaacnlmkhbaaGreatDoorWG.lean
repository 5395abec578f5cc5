/- THE DOCUMENT's Same, walked. Conditions: none beyond each theorem's own. -/
import Derived.Test.YtohjaacnlmkhbaaGreatDoorWD
set_option linter.unusedSimpArgs false
set_option linter.unusedVariables false
namespace Go.Proofs.YtohjaacnlmkhbaaGreatDoor
open Go.Ev
set_option maxRecDepth 100000
set_option maxHeartbeats 400000
theorem str_inj {l m : List UInt8} : ((⟨l.toArray⟩ : ByteArray) = ⟨m.toArray⟩) ↔ l = m := by
  constructor
  · intro h
    have := congrArg (fun b => b.data.toList) h
    simpa using this
  · rintro rfl; rfl
theorem bstr_rd {B : Nat} {h : Heap} {v : Value} {l : List UInt8} {J : Value → Prop} (r : RdB B h v l) (q : J (.string ⟨l.toArray⟩)) : bstrK h v J := by
  obtain ⟨a, c, rfl, e⟩ := r
  cases a with
  | none =>
    cases l with
    | nil => exact q
    | cons x l => obtain ⟨i, o, e, _⟩ := e (by simp); cases e
  | some a =>
    refine bstr_of (l := l) ?_ q
    cases l with
    | nil => rfl
    | cons x l => obtain ⟨i, o, e, _, q⟩ := e (by simp); cases e; exact q
theorem same_int (n : Nat) (k : IntKind) (m : Int) : sameV n (.int k m) (.int k m) = true := by cases n <;> simp [sameV]
theorem same_cfg {c : Nat → Int} {pv : Value} (h : ∀ n, sameV n pv pv = true) : (sameV 50 (.agg ⟨cfgL c pv⟩) (.agg ⟨cfgL c pv⟩) = true) = True := by
  have : sameV.go 49 (cfgL c pv) (cfgL c pv) = true := by simp [cfgL, sameV.go, same_int, h]
  simpa [sameV] using this
theorem same_scr {c : Nat → Int} {pv av : Value} (h : ∀ n, sameV n pv pv = true) (h' : ∀ n, sameV n av av = true) : (sameV 50 (.agg ⟨scrL c pv av⟩) (.agg ⟨scrL c pv av⟩) = true) = True := by
  have : sameV.go 49 (scrL c pv av) (scrL c pv av) = true := by simp [scrL, cfgL, sameV.go, same_int, h, h']
  simpa [sameV] using this
theorem refSameC_ret {B : Nat} {c d : Nat → Int} {pv qv : Value} {P Q : List (List UInt8)} {h : Heap} {K : Value → Heap → Prop} (r : RdP B h pv P) (s : RdP B h qv Q) (hB : B ≤ h.n)
    (hsp : ∀ n, sameV n pv pv = true) (hsq : ∀ n, sameV n qv qv = true) (hP : P.length ≤ 1000)
    (hK : ∀ b h', ExtB h.n h h' → (b = true ↔ ((∀ i, i < 14 → c i = d i) ∧ P = Q)) → K (.bool b) h') : Ret env (.func 22) [.agg ⟨cfgL c pv⟩, .agg ⟨cfgL d qv⟩] h K := by
  obtain ⟨pa, pc, rfl, _⟩ := id r
  obtain ⟨qa, qc, rfl, _⟩ := id s
  refine F22 rfl ?_
  repeat' (first | done | with_reducible (first | refine y1 ?_ (by omega) | refine y2 ?_ (by omega) | refine y3 (fun _ => ?_) (fun _ => ?_) | refine y4 ?_ (by omega) (by omega) | refine y5 ?_ (by omega) | refine y6 ?_ (by with_unfolding_all rfl) | refine y7 ?_ (by with_unfolding_all rfl) | refine y8 ?_ (by with_unfolding_all rfl) | refine y9 ?_ (by with_unfolding_all rfl) | refine ya ?_ (by with_unfolding_all rfl)) | ((with_reducible refine And.intro ?_ ?_); (· omega)) | (simp -dsimp only [↓cw_ops, ↓cw_plan, ↓cw_seq, ↓seqK_normal, ↓getK_same, ↓getK_ne, ↓evK_tmp, ↓evK_bool, ↓opsW_nil, ↓opsW_d, ↓planW_d, ↓opW_assign, ↓ldN_some, ↓setAll_cons, ↓setAll_nil, ↓opW_box, ↓box_agg, ↓ld_25, ↓p22_61_w, ↓s22_62_w, ↓r22_63_w, ↓s22_64_w, true_and, ne_eq, Nat.reduceEqDiff, Nat.reduceAdd, not_false_eq_true, Nat.one_ne_zero, cfg_one]))
  have hx : ∀ k, k < 1 → True := fun _ _ => trivial
  have V := Box.new h (cfgL c (.slice pa P.length pc)) 25
  have X : ExtB h.n h (newBlk h (.cells (cfgL c (.slice pa P.length pc)) 25 true)) := ExtB.new _ (Nat.le_refl _)
  have hn1 : (newBlk h (.cells (cfgL c (.slice pa P.length pc)) 25 true)).n = h.n + 1 := rfl
  generalize newBlk h (.cells (cfgL c (.slice pa P.length pc)) 25 true) = h1 at V X hn1 ⊢
  have W := Box.new h1 (cfgL d (.slice qa Q.length qc)) 25
  have X1 : ExtB h1.n h1 (newBlk h1 (.cells (cfgL d (.slice qa Q.length qc)) 25 true)) := ExtB.new _ (Nat.le_refl _)
  have hn2 : (newBlk h1 (.cells (cfgL d (.slice qa Q.length qc)) 25 true)).n = h.n + 2 := by show h1.n + 1 = _; omega
  rw [hn1] at W ⊢
  replace V := V.ext X1 (by omega)
  replace X := X.trans (X1.mono (by omega))
  generalize newBlk h1 (.cells (cfgL d (.slice qa Q.length qc)) 25 true) = h2 at V W X hn2 ⊢
  clear X1 hn1
  have sc := same_cfg (c := c) hsp
  have sd := same_cfg (c := d) hsq
  have dv := V.cfg
  have dw := W.cfg
  repeat' (first | done | with_reducible (first | refine y1 ?_ (by omega) | refine y2 ?_ (by omega) | refine y3 (fun _ => ?_) (fun _ => ?_) | refine y4 ?_ (by omega) (by omega) | refine y5 ?_ (by omega) | refine y6 ?_ (by with_unfolding_all rfl) | refine y7 ?_ (by with_unfolding_all rfl) | refine y8 ?_ (by with_unfolding_all rfl) | refine y9 ?_ (by with_unfolding_all rfl) | refine ya ?_ (by with_unfolding_all rfl)) | ((with_reducible refine And.intro ?_ ?_); (· omega)) | (simp -dsimp only [↓getK_same, ↓getK_ne, ↓evK_tmp, ↓planW_d, ↓agK_nil, ↓ldN_some, ↓evs_nil, ↓evs_cons, ↓callE, ↓ld_25, onV_some', Nat.le_refl, true_and, ne_eq, Nat.reduceEqDiff, not_false_eq_true, dv, dw]))
  refine small_ret fun j3 h3 X3 j3l c3 => ?_
  have n3 := X3.n
  have V3 := V.ext X3 (by omega)
  have W3 := W.ext X3 (by omega)
  have dv3 := V3.cfg
  have dw3 := W3.cfg
  repeat' (first | done | with_reducible (first | refine y1 ?_ (by omega) | refine y2 ?_ (by omega) | refine y3 (fun _ => ?_) (fun _ => ?_) | refine y4 ?_ (by omega) (by omega) | refine y5 ?_ (by omega) | refine y6 ?_ (by with_unfolding_all rfl) | refine y7 ?_ (by with_unfolding_all rfl) | refine y8 ?_ (by with_unfolding_all rfl) | refine y9 ?_ (by with_unfolding_all rfl) | refine ya ?_ (by with_unfolding_all rfl)) | ((with_reducible refine And.intro ?_ ?_); (· omega)) | (simp -dsimp only [↓getK_same, ↓getK_ne, ↓evK_tmp, ↓planW_d, ↓agK_nil, ↓ldN_some, ↓evs_nil, ↓evs_cons, ↓agK_load, ↓agV_same, ↓agV_ne, ↓callE, ↓agl_25, onV_some', true_and, and_true, ne_eq, Nat.reduceEqDiff, not_false_eq_true, dw3, sd]))
  refine small_ret fun j4 h4 X4 j4l d4 => ?_
  have n4 := X4.n
  have V4 := V3.ext X4 (by omega)
  have W4 := W3.ext X4 (by omega)
  have dv4 := V4.cfg
  have dw4 := W4.cfg
  have c4 : ∀ k, k < 10 → cellAt h4 ⟨j3, k, none⟩ = some (.int .i64 (c k)) := fun k hk => cellAt_ext X4 j3l (c3 k hk)
  have XX : ExtB h.n h h4 := (X.trans (X3.mono (by omega))).trans (X4.mono (by omega))
  clear X X3 X4 V V3 W W3 dv dw dv3 dw3 c3
  repeat' (first | done | with_reducible (first | refine y1 ?_ (by omega) | refine y2 ?_ (by omega) | refine y3 (fun _ => ?_) (fun _ => ?_) | refine y4 ?_ (by omega) (by omega) | refine y5 ?_ (by omega) | refine y6 ?_ (by with_unfolding_all rfl) | refine y7 ?_ (by with_unfolding_all rfl) | refine y8 ?_ (by with_unfolding_all rfl) | refine y9 ?_ (by with_unfolding_all rfl) | refine ya ?_ (by with_unfolding_all rfl)) | ((with_reducible refine And.intro ?_ ?_); (· omega)) | (simp -dsimp only [↓cw_ops, ↓cw_seq, ↓cw_block, ↓seqK_normal, ↓getK_same, ↓getK_ne, ↓evK_tmp, ↓evK_int, ↓opsW_nil, ↓opsW_d, ↓planW_nil, ↓planW_d, ↓agK_nil, ↓opW_assign, ↓setAll_cons, ↓setAll_nil, ↓s22_56_w, ↓s22_57_w, ↓r22_58_w, ↓s22_59_w, ↓s22_60_w, Nat.le_refl, true_and, ne_eq, Nat.reduceEqDiff, Nat.reduceAdd, not_false_eq_true]))
  refine cw_loopI (fun m fr' h' => ∃ k : Nat, k ≤ 10 ∧ m = 10 - k ∧ h' = h4 ∧ fr'.get 7 = some (.int .i64 k) ∧ ∀ i, i < k → c i = d i) 10 ?_ (by omega) ?_
  · exact ⟨0, by omega, by omega, rfl, by simp [T.get_set], fun i hi => by omega⟩
  rintro m fr2 h' ⟨k, hk, rfl, rfl, f7, hcd⟩ hag
  have e7 := getK_of f7
  have b2 := getK_eq (hag 2 rfl)
  have b3 := getK_eq (hag 3 rfl)
  have b5 := getK_eq (hag 5 rfl)
  have b6 := getK_eq (hag 6 rfl)
  by_cases hlt : k < 10
  · have c5 := c4 k hlt
    have d5 := d4 k hlt
    by_cases hcdk : c k = d k
    · repeat' (first | done | with_reducible (first | refine y1 ?_ (by omega) | refine y2 ?_ (by omega) | refine y3 (fun _ => ?_) (fun _ => ?_) | refine y4 ?_ (by omega) (by omega) | refine y5 ?_ (by omega) | refine y6 ?_ (by with_unfolding_all rfl) | refine y7 ?_ (by with_unfolding_all rfl) | refine y8 ?_ (by with_unfolding_all rfl) | refine y9 ?_ (by with_unfolding_all rfl) | refine ya ?_ (by with_unfolding_all rfl)) | ((with_reducible refine And.intro ?_ ?_); (· omega)) | (simp -dsimp only [↓cw_skip, ↓cw_ops, ↓cw_plan, ↓cw_seq, ↓cw_block, ↓cw_cond, ↓seqK_normal, ↓blockK_normal, ↓loopK_normal, ↓getK_same, ↓getK_ne, ↓evK_tmp, ↓evK_int, ↓condV_var, ↓opsW_nil, ↓opsW_d, ↓planW_nil, ↓planW_d, ↓agK_nil, ↓opW_move, ↓opW_assign, ↓opW_bin, ↓bin_add, ↓bin_neq, ↓bin_lss, ↓ld1_some, ↓idxS_some, ↓lenS_some, ↓ld_3, ↓len_95, ↓ia_95, ↓r22_44_w, ↓s22_45_w, ↓s22_48_w, ↓p22_49_w, ↓s22_50_w, ↓s22_51_w, ↓s22_52_w, ↓r22_53_w, ↓s22_54_w, ↓s22_55_w, onV_some', brK_true, brK_false, Nat.le_refl, true_and, ne_eq, Nat.reduceEqDiff, not_false_eq_true, Addr.add_lit, Int.toNat_natCast, Bool.false_eq_true,  ↓e7, ↓b5, ↓b6, Nat.zero_add, Nat.mul_one, c5, d5, hcdk]))
      exact ⟨10 - (k + 1), by omega, k + 1, by omega, rfl, by simp [T.get_set, wrap_succ (show k ≤ 4611686018427387904 by omega)], fun i hi => by
        by_cases e : i = k
        · rw [e]; exact hcdk
        · exact hcd i (by omega)⟩
    · repeat' (first | done | with_reducible (first | refine y1 ?_ (by omega) | refine y2 ?_ (by omega) | refine y3 (fun _ => ?_) (fun _ => ?_) | refine y4 ?_ (by omega) (by omega) | refine y5 ?_ (by omega) | refine y6 ?_ (by with_unfolding_all rfl) | refine y7 ?_ (by with_unfolding_all rfl) | refine y8 ?_ (by with_unfolding_all rfl) | refine y9 ?_ (by with_unfolding_all rfl) | refine ya ?_ (by with_unfolding_all rfl)) | ((with_reducible refine And.intro ?_ ?_); (· omega)) | (simp -dsimp only [↓cw_skip, ↓cw_ops, ↓cw_plan, ↓cw_seq, ↓cw_block, ↓cw_ret, ↓cw_cond, ↓seqK_normal, ↓seqK_ret, ↓blockK_ret, ↓loopK_ret, ↓getK_same, ↓getK_ne, ↓evK_tmp, ↓evK_bool, ↓condV_var, ↓opsW_nil, ↓opsW_d, ↓planW_nil, ↓planW_d, ↓agK_nil, ↓opW_move, ↓opW_assign, ↓opW_bin, ↓bin_neq, ↓bin_lss, ↓ld1_some, ↓idxS_some, ↓lenS_some, ↓resK_one, ↓ld_3, ↓len_95, ↓ia_95, ↓r22_46_w, ↓s22_47_w, ↓s22_48_w, ↓p22_49_w, ↓s22_50_w, ↓s22_51_w, ↓s22_52_w, ↓r22_53_w, ↓s22_54_w, ↓s22_55_w, onV_some', brK_true, brK_false, Nat.le_refl, true_and, ne_eq, Nat.reduceEqDiff, not_false_eq_true, Addr.add_lit, Int.toNat_natCast, ↓e7, ↓b5, ↓b6, Nat.zero_add, Nat.mul_one, c5, d5, hcdk]))
      exact hK _ _ XX ⟨fun h => (by cases h), fun h => absurd (h.1 k (by omega)) hcdk⟩
  have k10 : k = 10 := by omega
  subst k10
  clear c4 d4 hlt
  repeat' (first | done | with_reducible (first | refine y1 ?_ (by omega) | refine y2 ?_ (by omega) | refine y3 (fun _ => ?_) (fun _ => ?_) | refine y4 ?_ (by omega) (by omega) | refine y5 ?_ (by omega) | refine y6 ?_ (by with_unfolding_all rfl) | refine y7 ?_ (by with_unfolding_all rfl) | refine y8 ?_ (by with_unfolding_all rfl) | refine y9 ?_ (by with_unfolding_all rfl) | refine ya ?_ (by with_unfolding_all rfl)) | ((with_reducible refine And.intro ?_ ?_); (· omega)) | (simp -dsimp only [↓cw_ops, ↓cw_plan, ↓cw_seq, ↓cw_exit, ↓cw_cond, ↓seqK_normal, ↓seqK_exit, ↓blockK_same, ↓loopK_exit, ↓getK_same, ↓getK_ne, ↓evK_tmp, ↓condV_var, ↓opsW_nil, ↓opsW_d, ↓planW_d, ↓agK_nil, ↓opW_move, ↓opW_bin, ↓bin_lss, ↓ldN_some, ↓evs_nil, ↓evs_cons, ↓lenS_some, ↓callE, ↓ld_25, ↓len_95, ↓p22_42_w, ↓s22_43_w, ↓s22_52_w, ↓r22_53_w, ↓s22_54_w, ↓s22_55_w, onV_some', brK_false, Nat.le_refl, true_and, ne_eq, Nat.reduceEqDiff, not_false_eq_true, Bool.false_eq_true,  ↓e7, ↓b2, ↓b3, ↓b5, dv4, dw4]))
  refine great_ret fun j5 h5 X5 j5l c5 => ?_
  have n5 := X5.n
  have V5 := V4.ext X5 (by omega)
  have W5 := W4.ext X5 (by omega)
  have dv5 := V5.cfg
  have dw5 := W5.cfg
  repeat' (first | done | with_reducible (first | refine y1 ?_ (by omega) | refine y2 ?_ (by omega) | refine y3 (fun _ => ?_) (fun _ => ?_) | refine y4 ?_ (by omega) (by omega) | refine y5 ?_ (by omega) | refine y6 ?_ (by with_unfolding_all rfl) | refine y7 ?_ (by with_unfolding_all rfl) | refine y8 ?_ (by with_unfolding_all rfl) | refine y9 ?_ (by with_unfolding_all rfl) | refine ya ?_ (by with_unfolding_all rfl)) | ((with_reducible refine And.intro ?_ ?_); (· omega)) | (simp -dsimp only [↓getK_same, ↓getK_ne, ↓evK_tmp, ↓planW_d, ↓agK_nil, ↓ldN_some, ↓evs_nil, ↓evs_cons, ↓agK_load, ↓agV_same, ↓agV_ne, ↓callE, ↓agl_25, onV_some', true_and, and_true, ne_eq, Nat.reduceEqDiff, not_false_eq_true, ↓b3, dw5, sd]))
  refine great_ret fun j6 h6 X6 j6l d6 => ?_
  have n6 := X6.n
  have V6 := V5.ext X6 (by omega)
  have W6 := W5.ext X6 (by omega)
  have dv6 := V6.cfg
  have dw6 := W6.cfg
  have c6 : ∀ k, k < 4 → cellAt h6 ⟨j5, k, none⟩ = some (.int .u64 (c (10 + k))) := fun k hk => cellAt_ext X6 j5l (c5 k hk)
  replace XX : ExtB h.n h h6 := (XX.trans (X5.mono (by omega))).trans (X6.mono (by omega))
  clear X5 X6 V4 V5 W4 W5 dv4 dw4 dv5 dw5 c5 e7 f7 n3
  repeat' (first | done | with_reducible (first | refine y1 ?_ (by omega) | refine y2 ?_ (by omega) | refine y3 (fun _ => ?_) (fun _ => ?_) | refine y4 ?_ (by omega) (by omega) | refine y5 ?_ (by omega) | refine y6 ?_ (by with_unfolding_all rfl) | refine y7 ?_ (by with_unfolding_all rfl) | refine y8 ?_ (by with_unfolding_all rfl) | refine y9 ?_ (by with_unfolding_all rfl) | refine ya ?_ (by with_unfolding_all rfl)) | ((with_reducible refine And.intro ?_ ?_); (· omega)) | (simp -dsimp only [↓cw_ops, ↓cw_seq, ↓cw_block, ↓seqK_normal, ↓getK_same, ↓getK_ne, ↓evK_tmp, ↓evK_int, ↓opsW_nil, ↓opsW_d, ↓planW_nil, ↓planW_d, ↓agK_nil, ↓opW_assign, ↓s22_37_w, ↓s22_38_w, ↓r22_39_w, ↓s22_40_w, ↓s22_41_w, Nat.le_refl, true_and, ne_eq, Nat.reduceEqDiff, not_false_eq_true]))
  refine cw_loopI (fun m fr' h' => ∃ k : Nat, k ≤ 4 ∧ m = 4 - k ∧ h' = h6 ∧ fr'.get 10 = some (.int .i64 k) ∧ ∀ i, i < 10 + k → c i = d i) 4 ?_ (by omega) ?_
  · exact ⟨0, by omega, by omega, rfl, by simp [T.get_set], fun i hi => hcd i (by omega)⟩
  rintro m fr3 h' ⟨k, hk, rfl, rfl, f10, hcd⟩ hag2
  have e10 := getK_of f10
  have b2' := getK_eq (hag2 2 rfl)
  have b3' := getK_eq (hag2 3 rfl)
  have b8 := getK_eq (hag2 8 rfl)
  have b9 := getK_eq (hag2 9 rfl)
  by_cases hlt : k < 4
  · have c5 := c6 k hlt
    have d5 := d6 k hlt
    by_cases hcdk : c (10 + k) = d (10 + k)
    · repeat' (first | done | with_reducible (first | refine y1 ?_ (by omega) | refine y2 ?_ (by omega) | refine y3 (fun _ => ?_) (fun _ => ?_) | refine y4 ?_ (by omega) (by omega) | refine y5 ?_ (by omega) | refine y6 ?_ (by with_unfolding_all rfl) | refine y7 ?_ (by with_unfolding_all rfl) | refine y8 ?_ (by with_unfolding_all rfl) | refine y9 ?_ (by with_unfolding_all rfl) | refine ya ?_ (by with_unfolding_all rfl)) | ((with_reducible refine And.intro ?_ ?_); (· omega)) | (simp -dsimp only [↓cw_skip, ↓cw_ops, ↓cw_plan, ↓cw_seq, ↓cw_block, ↓cw_cond, ↓seqK_normal, ↓blockK_normal, ↓loopK_normal, ↓getK_same, ↓getK_ne, ↓evK_tmp, ↓evK_int, ↓condV_var, ↓opsW_nil, ↓opsW_d, ↓planW_nil, ↓planW_d, ↓agK_nil, ↓opW_move, ↓opW_assign, ↓opW_bin, ↓bin_add, ↓bin_neq, ↓bin_lss, ↓ld1_some, ↓idxS_some, ↓lenS_some, ↓len_97, ↓ia_97, ↓ld_22, ↓r22_25_w, ↓s22_26_w, ↓s22_29_w, ↓p22_30_w, ↓s22_31_w, ↓s22_32_w, ↓s22_33_w, ↓r22_34_w, ↓s22_35_w, ↓s22_36_w, onV_some', brK_true, brK_false, Nat.le_refl, true_and, ne_eq, Nat.reduceEqDiff, not_false_eq_true, Addr.add_lit, Int.toNat_natCast, Bool.false_eq_true,  ↓e10, ↓b8, ↓b9, Nat.zero_add, Nat.mul_one, c5, d5, hcdk]))
      exact ⟨4 - (k + 1), by omega, k + 1, by omega, rfl, by simp [T.get_set, wrap_succ (show k ≤ 4611686018427387904 by omega)], fun i hi => by
        by_cases e : i = 10 + k
        · rw [e]; exact hcdk
        · exact hcd i (by omega)⟩
    · repeat' (first | done | with_reducible (first | refine y1 ?_ (by omega) | refine y2 ?_ (by omega) | refine y3 (fun _ => ?_) (fun _ => ?_) | refine y4 ?_ (by omega) (by omega) | refine y5 ?_ (by omega) | refine y6 ?_ (by with_unfolding_all rfl) | refine y7 ?_ (by with_unfolding_all rfl) | refine y8 ?_ (by with_unfolding_all rfl) | refine y9 ?_ (by with_unfolding_all rfl) | refine ya ?_ (by with_unfolding_all rfl)) | ((with_reducible refine And.intro ?_ ?_); (· omega)) | (simp -dsimp only [↓cw_skip, ↓cw_ops, ↓cw_plan, ↓cw_seq, ↓cw_block, ↓cw_ret, ↓cw_cond, ↓seqK_normal, ↓seqK_ret, ↓blockK_ret, ↓loopK_ret, ↓getK_same, ↓getK_ne, ↓evK_tmp, ↓evK_bool, ↓condV_var, ↓opsW_nil, ↓opsW_d, ↓planW_nil, ↓planW_d, ↓agK_nil, ↓opW_move, ↓opW_assign, ↓opW_bin, ↓bin_neq, ↓bin_lss, ↓ld1_some, ↓idxS_some, ↓lenS_some, ↓resK_one, ↓len_97, ↓ia_97, ↓ld_22, ↓r22_27_w, ↓s22_28_w, ↓s22_29_w, ↓p22_30_w, ↓s22_31_w, ↓s22_32_w, ↓s22_33_w, ↓r22_34_w, ↓s22_35_w, ↓s22_36_w, onV_some', brK_true, brK_false, Nat.le_refl, true_and, ne_eq, Nat.reduceEqDiff, not_false_eq_true, Addr.add_lit, Int.toNat_natCast, ↓e10, ↓b8, ↓b9, Nat.zero_add, Nat.mul_one, c5, d5, hcdk]))
      exact hK _ _ XX ⟨fun h => (by cases h), fun h => absurd (h.1 (10 + k) (by omega)) hcdk⟩
  have k4 : k = 4 := by omega
  subst k4
  clear c6 d6 hlt
  by_cases hlen : P.length = Q.length
  case neg =>
    repeat' (first | done | with_reducible (first | refine y1 ?_ (by omega) | refine y2 ?_ (by omega) | refine y3 (fun _ => ?_) (fun _ => ?_) | refine y4 ?_ (by omega) (by omega) | refine y5 ?_ (by omega) | refine y6 ?_ (by with_unfolding_all rfl) | refine y7 ?_ (by with_unfolding_all rfl) | refine y8 ?_ (by with_unfolding_all rfl) | refine y9 ?_ (by with_unfolding_all rfl) | refine ya ?_ (by with_unfolding_all rfl)) | ((with_reducible refine And.intro ?_ ?_); (· omega)) | (simp -dsimp only [↓cw_ops, ↓cw_seq, ↓cw_exit, ↓cw_ret, ↓cw_cond, ↓seqK_normal, ↓seqK_exit, ↓seqK_ret, ↓blockK_same, ↓loopK_exit, ↓getK_same, ↓getK_ne, ↓evK_tmp, ↓evK_bool, ↓condV_var, ↓opsW_nil, ↓opsW_d, ↓opW_move, ↓opW_assign, ↓opW_bin, ↓bin_neq, ↓bin_lss, ↓ld1_some, ↓fldA_some, ↓lenS_some, ↓resK_one, ↓fa_25_14, ↓ld_23, ↓len_23, ↓len_97, ↓r22_19_w, ↓s22_20_w, ↓s22_21_w, ↓r22_22_w, ↓s22_23_w, ↓s22_24_w, ↓s22_33_w, ↓r22_34_w, ↓s22_35_w, ↓s22_36_w, onV_some', brK_true, brK_false, ne_eq, Nat.reduceEqDiff, Nat.reduceAdd, not_false_eq_true, Addr.add_lit, Bool.false_eq_true,  ↓e10, ↓b8, ↓b2', ↓b3', ↓b2, ↓b3, dv6, dw6]))
    all_goals exact hK _ _ XX ⟨fun h => (by cases h), fun h => absurd (congrArg List.length h.2) hlen⟩
  have hleni : ((P.length : Int) = (Q.length : Int)) := by omega
  repeat' (first | done | with_reducible (first | refine y1 ?_ (by omega) | refine y2 ?_ (by omega) | refine y3 (fun _ => ?_) (fun _ => ?_) | refine y4 ?_ (by omega) (by omega) | refine y5 ?_ (by omega) | refine y6 ?_ (by with_unfolding_all rfl) | refine y7 ?_ (by with_unfolding_all rfl) | refine y8 ?_ (by with_unfolding_all rfl) | refine y9 ?_ (by with_unfolding_all rfl) | refine ya ?_ (by with_unfolding_all rfl)) | ((with_reducible refine And.intro ?_ ?_); (· omega)) | (simp -dsimp only [↓cw_skip, ↓cw_ops, ↓cw_seq, ↓cw_block, ↓cw_exit, ↓cw_cond, ↓seqK_normal, ↓seqK_exit, ↓blockK_same, ↓loopK_exit, ↓getK_same, ↓getK_ne, ↓evK_tmp, ↓evK_int, ↓condV_var, ↓opsW_nil, ↓opsW_d, ↓opW_move, ↓opW_assign, ↓opW_bin, ↓bin_neq, ↓bin_lss, ↓ld1_some, ↓fldA_some, ↓lenS_some, ↓fa_25_14, ↓ld_23, ↓len_23, ↓len_97, ↓s22_14_w, ↓s22_15_w, ↓r22_16_w, ↓s22_17_w, ↓s22_18_w, ↓s22_21_w, ↓r22_22_w, ↓s22_23_w, ↓s22_24_w, ↓s22_33_w, ↓r22_34_w, ↓s22_35_w, ↓s22_36_w, onV_some', brK_false, ne_eq, Nat.reduceEqDiff, Nat.reduceAdd, not_false_eq_true, Addr.add_lit, Bool.false_eq_true,  ↓e10, ↓b8, ↓b2', ↓b3', ↓b2, ↓b3, dv6, dw6]))
  refine cw_loopI (fun m fr' h'' => ∃ k : Nat, k ≤ P.length ∧ m = P.length - k ∧ h'' = h' ∧ fr'.get 11 = some (.int .i64 k) ∧ P.take k = Q.take k) P.length ?_ (by omega) ?_
  · exact ⟨0, by omega, by omega, rfl, by simp [T.get_set], rfl⟩
  rintro m fr4 h'' ⟨k, hk, rfl, rfl, f11, hpq⟩ hag3
  have e11 := getK_of f11
  have b2'' := getK_eq (hag3 2 rfl)
  have b3'' := getK_eq (hag3 3 rfl)
  by_cases hlt : k < P.length
  · have hlq : k < Q.length := by omega
    obtain ⟨i, o, ua, uc, rfl, hi, hc, hu⟩ := (r.ext (XX.mono hB)).at_ hlt
    obtain ⟨i', o', ua', uc', rfl, hi', hc', hu'⟩ := (s.ext (XX.mono hB)).at_ hlq
    repeat' (first | done | with_reducible (first | refine y1 ?_ (by omega) | refine y2 ?_ (by omega) | refine y3 (fun _ => ?_) (fun _ => ?_) | refine y4 ?_ (by omega) (by omega) | refine y5 ?_ (by omega) | refine y6 ?_ (by with_unfolding_all rfl) | refine y7 ?_ (by with_unfolding_all rfl) | refine y8 ?_ (by with_unfolding_all rfl) | refine y9 ?_ (by with_unfolding_all rfl) | refine ya ?_ (by with_unfolding_all rfl)) | ((with_reducible refine And.intro ?_ ?_); (· omega)) | (simp -dsimp only [↓cw_skip, ↓cw_ops, ↓cw_plan, ↓cw_seq, ↓cw_block, ↓cw_cond, ↓seqK_normal, ↓getK_same, ↓getK_ne, ↓evK_tmp, ↓condV_var, ↓opsW_nil, ↓opsW_d, ↓planW_d, ↓agK_nil, ↓opW_move, ↓opW_bin, ↓bin_lss, ↓ld1_some, ↓fldA_some, ↓idxS_some, ↓lenS_some, ↓fa_25_14, ↓ld_23, ↓len_23, ↓ia_23, ↓ld_36, ↓cv_36_9, ↓p22_7_w, ↓s22_8_w, ↓s22_9_w, ↓s22_10_w, ↓r22_11_w, ↓s22_12_w, ↓s22_13_w, onV_some', brK_true, Nat.le_refl, true_and, ne_eq, Nat.reduceEqDiff, Nat.reduceAdd, not_false_eq_true, Addr.add_lit, Int.toNat_natCast, ↓e11, ↓b2'', ↓b2', ↓b2, dv6, Nat.mul_one, hc]))
    refine bstr_rd hu ?_
    repeat' (first | done | with_reducible (first | refine y1 ?_ (by omega) | refine y2 ?_ (by omega) | refine y3 (fun _ => ?_) (fun _ => ?_) | refine y4 ?_ (by omega) (by omega) | refine y5 ?_ (by omega) | refine y6 ?_ (by with_unfolding_all rfl) | refine y7 ?_ (by with_unfolding_all rfl) | refine y8 ?_ (by with_unfolding_all rfl) | refine y9 ?_ (by with_unfolding_all rfl) | refine ya ?_ (by with_unfolding_all rfl)) | ((with_reducible refine And.intro ?_ ?_); (· omega)) | (simp -dsimp only [↓getK_same, ↓getK_ne, ↓evK_tmp, ↓planW_d, ↓agK_nil, ↓opW_move, ↓ld1_some, ↓fldA_some, ↓idxS_some, ↓fa_25_14, ↓ld_23, ↓ia_23, ↓ld_36, ↓cv_36_9, onV_some', Nat.le_refl, true_and, ne_eq, Nat.reduceEqDiff, Nat.reduceAdd, not_false_eq_true, Addr.add_lit, Int.toNat_natCast, ↓e11, ↓b3'', ↓b3', ↓b3, dw6, Nat.mul_one, hc']))
    refine bstr_rd hu' ?_
    by_cases he : P[k] = Q[k]
    · rw [he]
      repeat' (first | done | with_reducible (first | refine y1 ?_ (by omega) | refine y2 ?_ (by omega) | refine y3 (fun _ => ?_) (fun _ => ?_) | refine y4 ?_ (by omega) (by omega) | refine y5 ?_ (by omega) | refine y6 ?_ (by with_unfolding_all rfl) | refine y7 ?_ (by with_unfolding_all rfl) | refine y8 ?_ (by with_unfolding_all rfl) | refine y9 ?_ (by with_unfolding_all rfl) | refine ya ?_ (by with_unfolding_all rfl)) | ((with_reducible refine And.intro ?_ ?_); (· omega)) | (simp -dsimp only [↓cw_skip, ↓cw_ops, ↓cw_cond, ↓seqK_normal, ↓blockK_normal, ↓loopK_normal, ↓getK_same, ↓getK_ne, ↓evK_tmp, ↓evK_int, ↓condV_var, ↓opsW_nil, ↓opsW_d, ↓planW_nil, ↓planW_d, ↓agK_nil, ↓opW_move, ↓opW_assign, ↓opW_bin, ↓bin_add, ↓bin_neqS, ↓r22_2_w, ↓s22_3_w, ↓s22_6_w, brK_true, brK_false, Nat.le_refl, true_and, ne_eq, Nat.reduceEqDiff, Nat.reduceAdd, not_false_eq_true, Addr.add_lit, Int.toNat_natCast, Bool.false_eq_true,  ↓e11]))
      exact ⟨P.length - (k + 1), by omega, k + 1, by omega, rfl, by simp [T.get_set, wrap_succ (show k ≤ 4611686018427387904 by omega)], by rw [← List.take_append_getElem hlt, ← List.take_append_getElem hlq, hpq, he]⟩
    · have hne : ¬ ((⟨P[k].toArray⟩ : ByteArray) = ⟨Q[k].toArray⟩) := fun e => he (str_inj.1 e)
      repeat' (first | done | with_reducible (first | refine y1 ?_ (by omega) | refine y2 ?_ (by omega) | refine y3 (fun _ => ?_) (fun _ => ?_) | refine y4 ?_ (by omega) (by omega) | refine y5 ?_ (by omega) | refine y6 ?_ (by with_unfolding_all rfl) | refine y7 ?_ (by with_unfolding_all rfl) | refine y8 ?_ (by with_unfolding_all rfl) | refine y9 ?_ (by with_unfolding_all rfl) | refine ya ?_ (by with_unfolding_all rfl)) | ((with_reducible refine And.intro ?_ ?_); (· omega)) | (simp -dsimp only [↓cw_ops, ↓cw_seq, ↓cw_ret, ↓cw_cond, ↓seqK_normal, ↓seqK_ret, ↓blockK_ret, ↓loopK_ret, ↓getK_same, ↓getK_ne, ↓evK_tmp, ↓evK_bool, ↓condV_var, ↓opsW_nil, ↓opsW_d, ↓planW_nil, ↓planW_d, ↓agK_nil, ↓opW_assign, ↓opW_bin, ↓resK_one, ↓bin_neqS, ↓r22_4_w, ↓s22_5_w, ↓s22_6_w, brK_true, brK_false, Nat.le_refl, true_and, ne_eq, Nat.reduceEqDiff, not_false_eq_true, hne]))
      exact hK _ _ XX ⟨fun h => (by cases h), fun h => absurd (by simp [h.2]) he⟩
  · have hkl : k = P.length := by omega
    repeat' (first | done | with_reducible (first | refine y1 ?_ (by omega) | refine y2 ?_ (by omega) | refine y3 (fun _ => ?_) (fun _ => ?_) | refine y4 ?_ (by omega) (by omega) | refine y5 ?_ (by omega) | refine y6 ?_ (by with_unfolding_all rfl) | refine y7 ?_ (by with_unfolding_all rfl) | refine y8 ?_ (by with_unfolding_all rfl) | refine y9 ?_ (by with_unfolding_all rfl) | refine ya ?_ (by with_unfolding_all rfl)) | ((with_reducible refine And.intro ?_ ?_); (· omega)) | (simp -dsimp only [↓cw_ops, ↓cw_seq, ↓cw_exit, ↓cw_ret, ↓cw_cond, ↓seqK_normal, ↓seqK_exit, ↓blockK_same, ↓loopK_exit, ↓getK_same, ↓getK_ne, ↓evK_tmp, ↓evK_bool, ↓condV_var, ↓opsW_nil, ↓opsW_d, ↓opW_move, ↓opW_assign, ↓opW_bin, ↓bin_lss, ↓ld1_some, ↓fldA_some, ↓lenS_some, ↓resK_one, ↓fa_25_14, ↓ld_23, ↓len_23, ↓r22_0_w, ↓s22_1_w, ↓s22_10_w, ↓r22_11_w, ↓s22_12_w, ↓s22_13_w, onV_some', brK_false, ne_eq, Nat.reduceEqDiff, Nat.reduceAdd, not_false_eq_true, Addr.add_lit, Bool.false_eq_true,  ↓e11, ↓b2'', ↓b2', ↓b2, dv6]))
    exact hK _ _ XX ⟨fun _ => ⟨hcd, by
      have h1 : P.take k = P := List.take_of_length_le (by omega)
      have h2 : Q.take k = Q := List.take_of_length_le (by omega)
      rw [h1, h2] at hpq; exact hpq⟩, fun _ => rfl⟩
end Go.Proofs.YtohjaacnlmkhbaaGreatDoor

namespace Go.Proofs.YtohjaacnlmkhbaaGreatDoor
open Go.Ev
set_option maxRecDepth 100000
set_option maxHeartbeats 400000
theorem RdA.at_ {B : Nat} {h : Heap} {a : Option Addr} {n c : Nat} {A : List ActD} (r : RdA B h (.slice a n c) A) {k : Nat} (hk : k < A.length) :
    ∃ i o, a = some ⟨i, o, none⟩ ∧ i < B ∧ cellsAt h ⟨i, o + k * 4, none⟩ 4 = some [.int .i64 A[k].k, .int .i64 A[k].p, .int .i64 A[k].v, .int .i64 A[k].c] := by
  obtain ⟨a', c', e, q⟩ := r
  cases e
  obtain ⟨i, o, e1, e2, e3⟩ := q k (by simpa using hk)
  refine ⟨i, o, e1, e2, ?_⟩
  rw [e3, List.getElem_map]; rfl
theorem actD_eq {a b : ActD} : (a.k = b.k ∧ a.p = b.p ∧ a.v = b.v ∧ a.c = b.c ∧ True) ↔ a = b := by
  cases a; cases b; simp
theorem refSame_ret {B : Nat} {c d : Nat → Int} {pv qv av dv : Value} {P Q : List (List UInt8)} {A D : List ActD} {h : Heap} {K : Value → Heap → Prop} (r : RdP B h pv P) (s : RdP B h qv Q) (ra : RdA B h av A) (rd : RdA B h dv D) (hB : B ≤ h.n)
    (hsp : ∀ n, sameV n pv pv = true) (hsq : ∀ n, sameV n qv qv = true) (hsa : ∀ n, sameV n av av = true) (hsd : ∀ n, sameV n dv dv = true) (hP : P.length ≤ 1000) (hA : A.length ≤ 1000)
    (hK : ∀ b h', ExtB h.n h h' → (b = true ↔ ((∀ i, i < 14 → c i = d i) ∧ P = Q ∧ A = D)) → K (.bool b) h') : Ret env (.func 10) [.agg ⟨scrL c pv av⟩, .agg ⟨scrL d qv dv⟩] h K := by
  obtain ⟨pa, pc, rfl, _⟩ := id r
  obtain ⟨qa, qc, rfl, _⟩ := id s
  obtain ⟨aa, ac, rfl, _⟩ := id ra
  obtain ⟨da, dc, rfl, _⟩ := id rd
  refine F10 rfl ?_
  repeat' (first | done | with_reducible (first | refine y1 ?_ (by omega) | refine y2 ?_ (by omega) | refine y3 (fun _ => ?_) (fun _ => ?_) | refine y4 ?_ (by omega) (by omega) | refine y5 ?_ (by omega) | refine y6 ?_ (by with_unfolding_all rfl) | refine y7 ?_ (by with_unfolding_all rfl) | refine y8 ?_ (by with_unfolding_all rfl) | refine y9 ?_ (by with_unfolding_all rfl) | refine ya ?_ (by with_unfolding_all rfl)) | ((with_reducible refine And.intro ?_ ?_); (· omega)) | (simp -dsimp only [↓cw_ops, ↓cw_seq, ↓seqK_normal, ↓getK_same, ↓getK_ne, ↓evK_tmp, ↓evK_bool, ↓opsW_nil, ↓opsW_d, ↓opW_assign, ↓ldN_some, ↓fldA_some, ↓setAll_cons, ↓setAll_nil, ↓opW_box, ↓box_agg, ↓fa_28_0, ↓ld_25, ↓r10_22_w, ↓s10_23_w, ↓s10_24_w, ↓r10_25_w, ↓s10_26_w, true_and, ne_eq, Nat.reduceEqDiff, Nat.reduceAdd, not_false_eq_true, Nat.one_ne_zero, Nat.add_zero, Addr.add_lit, scr_one]))
  have V := Box.new h (scrL c (.slice pa P.length pc) (.slice aa A.length ac)) 28
  have X : ExtB h.n h (newBlk h (.cells (scrL c (.slice pa P.length pc) (.slice aa A.length ac)) 28 true)) := ExtB.new _ (Nat.le_refl _)
  have hn1 : (newBlk h (.cells (scrL c (.slice pa P.length pc) (.slice aa A.length ac)) 28 true)).n = h.n + 1 := rfl
  generalize newBlk h (.cells (scrL c (.slice pa P.length pc) (.slice aa A.length ac)) 28 true) = h1 at V X hn1 ⊢
  have W := Box.new h1 (scrL d (.slice qa Q.length qc) (.slice da D.length dc)) 28
  have X1 : ExtB h1.n h1 (newBlk h1 (.cells (scrL d (.slice qa Q.length qc) (.slice da D.length dc)) 28 true)) := ExtB.new _ (Nat.le_refl _)
  have hn2 : (newBlk h1 (.cells (scrL d (.slice qa Q.length qc) (.slice da D.length dc)) 28 true)).n = h.n + 2 := by show h1.n + 1 = _; omega
  rw [hn1] at W ⊢
  replace V := V.ext X1 (by omega)
  replace X := X.trans (X1.mono (by omega))
  generalize newBlk h1 (.cells (scrL d (.slice qa Q.length qc) (.slice da D.length dc)) 28 true) = h2 at V W X hn2 ⊢
  clear X1 hn1
  have dv := V.scr
  have dw := W.scr
  repeat' (first | done | with_reducible (first | refine y1 ?_ (by omega) | refine y2 ?_ (by omega) | refine y3 (fun _ => ?_) (fun _ => ?_) | refine y4 ?_ (by omega) (by omega) | refine y5 ?_ (by omega) | refine y6 ?_ (by with_unfolding_all rfl) | refine y7 ?_ (by with_unfolding_all rfl) | refine y8 ?_ (by with_unfolding_all rfl) | refine y9 ?_ (by with_unfolding_all rfl) | refine ya ?_ (by with_unfolding_all rfl)) | ((with_reducible refine And.intro ?_ ?_); (· omega)) | (simp -dsimp only [↓getK_same, ↓getK_ne, ↓evK_tmp, ↓opsW_d, ↓ldN_some, ↓fldA_some, ↓evs_nil, ↓evs_cons, ↓callE, ↓fa_28_0, ↓ld_25, onV_some', ne_eq, Nat.reduceEqDiff, not_false_eq_true, Nat.add_zero, Addr.add_lit, dv, dw]))
  refine refSameC_ret (r.ext (X.mono hB)) (s.ext (X.mono hB)) (by omega) hsp hsq hP fun b h3 X3 hb => ?_
  have n3 := X3.n
  have V3 := V.ext X3 (by omega)
  have W3 := W.ext X3 (by omega)
  have dv3 := V3.scr
  have dw3 := W3.scr
  replace X := X.trans (X3.mono (by omega))
  cases b with
  | false =>
    repeat' (first | done | with_reducible (first | refine y1 ?_ (by omega) | refine y2 ?_ (by omega) | refine y3 (fun _ => ?_) (fun _ => ?_) | refine y4 ?_ (by omega) (by omega) | refine y5 ?_ (by omega) | refine y6 ?_ (by with_unfolding_all rfl) | refine y7 ?_ (by with_unfolding_all rfl) | refine y8 ?_ (by with_unfolding_all rfl) | refine y9 ?_ (by with_unfolding_all rfl) | refine ya ?_ (by with_unfolding_all rfl)) | ((with_reducible refine And.intro ?_ ?_); (· omega)) | (simp -dsimp only [↓cw_ops, ↓cw_seq, ↓cw_ret, ↓cw_cond, ↓seqK_normal, ↓seqK_ret, ↓getK_same, ↓getK_ne, ↓evK_tmp, ↓evK_bool, ↓condV_var, ↓gdV_var, ↓opsW_nil, ↓opsW_d, ↓opsW_gd, ↓opW_move, ↓opW_assign, ↓opW_pick, ↓resK_one, ↓opW_un, ↓un_not, ↓r10_19_w, ↓s10_20_w, ↓s10_21_w, brK_true, brK_false, ne_eq, Nat.reduceEqDiff, not_false_eq_true, Bool.true_eq_false, Bool.not_false]))
    exact hK _ _ X ⟨fun h => (by cases h), fun h => (by have := hb.2 ⟨h.1, h.2.1⟩; cases this)⟩
  | true =>
  have hb := hb.1 rfl
  by_cases hlen : A.length = D.length
  case neg =>
    have hleni : ¬ ((A.length : Int) = (D.length : Int)) := by omega
    repeat' (first | done | with_reducible (first | refine y1 ?_ (by omega) | refine y2 ?_ (by omega) | refine y3 (fun _ => ?_) (fun _ => ?_) | refine y4 ?_ (by omega) (by omega) | refine y5 ?_ (by omega) | refine y6 ?_ (by with_unfolding_all rfl) | refine y7 ?_ (by with_unfolding_all rfl) | refine y8 ?_ (by with_unfolding_all rfl) | refine y9 ?_ (by with_unfolding_all rfl) | refine ya ?_ (by with_unfolding_all rfl)) | ((with_reducible refine And.intro ?_ ?_); (· omega)) | (simp -dsimp only [↓cw_ops, ↓cw_seq, ↓cw_ret, ↓cw_cond, ↓seqK_normal, ↓seqK_ret, ↓getK_same, ↓getK_ne, ↓evK_tmp, ↓evK_bool, ↓condV_var, ↓gdV_var, ↓opsW_nil, ↓opsW_d, ↓opsW_gd, ↓opW_move, ↓opW_assign, ↓opW_pick, ↓opW_bin, ↓bin_neq, ↓ld1_some, ↓fldA_some, ↓lenS_some, ↓resK_one, ↓opW_un, ↓un_not, ↓fa_28_1, ↓ld_26, ↓len_26, ↓r10_19_w, ↓s10_20_w, ↓s10_21_w, onV_some', brK_true, brK_false, ne_eq, Nat.reduceEqDiff, Nat.reduceAdd, not_false_eq_true, Addr.add_lit, Bool.false_eq_true,  dv3, dw3, Bool.not_true]))
    all_goals exact hK _ _ X ⟨fun h => (by cases h), fun h => absurd (congrArg List.length h.2.2) hlen⟩
  have hleni : ((A.length : Int) = (D.length : Int)) := by omega
  repeat' (first | done | with_reducible (first | refine y1 ?_ (by omega) | refine y2 ?_ (by omega) | refine y3 (fun _ => ?_) (fun _ => ?_) | refine y4 ?_ (by omega) (by omega) | refine y5 ?_ (by omega) | refine y6 ?_ (by with_unfolding_all rfl) | refine y7 ?_ (by with_unfolding_all rfl) | refine y8 ?_ (by with_unfolding_all rfl) | refine y9 ?_ (by with_unfolding_all rfl) | refine ya ?_ (by with_unfolding_all rfl)) | ((with_reducible refine And.intro ?_ ?_); (· omega)) | (simp -dsimp only [↓cw_skip, ↓cw_ops, ↓cw_seq, ↓cw_block, ↓cw_cond, ↓seqK_normal, ↓getK_same, ↓getK_ne, ↓evK_tmp, ↓evK_int, ↓condV_var, ↓gdV_var, ↓opsW_nil, ↓opsW_d, ↓opsW_gd, ↓opW_move, ↓opW_assign, ↓opW_pick, ↓opW_bin, ↓bin_neq, ↓ld1_some, ↓fldA_some, ↓lenS_some, ↓setAll_cons, ↓setAll_nil, ↓opW_un, ↓un_not, ↓fa_28_1, ↓ld_26, ↓len_26, ↓s10_14_w, ↓s10_15_w, ↓r10_16_w, ↓s10_17_w, ↓s10_18_w, ↓s10_21_w, onV_some', brK_true, brK_false, ne_eq, Nat.reduceEqDiff, Nat.reduceAdd, not_false_eq_true, Nat.add_zero, Addr.add_lit, Bool.false_eq_true,  dv3, dw3, hleni, Bool.not_true]))
  refine cw_loopI (fun m fr' h'' => ∃ k : Nat, k ≤ A.length ∧ m = A.length - k ∧ h'' = h3 ∧ fr'.get 5 = some (.int .i64 k) ∧ A.take k = D.take k) A.length ?_ (by omega) ?_
  · exact ⟨0, by omega, by omega, rfl, by simp [T.get_set], rfl⟩
  rintro m fr4 h'' ⟨k, hk, rfl, rfl, f5, hpq⟩ hag
  have e5 := getK_of f5
  have b2 := getK_eq (hag 2 rfl)
  have b3 := getK_eq (hag 3 rfl)
  by_cases hlt : k < A.length
  · have hlq : k < D.length := by omega
    obtain ⟨i, o, rfl, hi, hc⟩ := (ra.ext (X.mono hB)).at_ hlt
    obtain ⟨i', o', rfl, hi', hc'⟩ := (rd.ext (X.mono hB)).at_ hlq
    by_cases he : A[k] = D[k]
    · rw [← he] at hc'
      repeat' (first | done | with_reducible (first | refine y1 ?_ (by omega) | refine y2 ?_ (by omega) | refine y3 (fun _ => ?_) (fun _ => ?_) | refine y4 ?_ (by omega) (by omega) | refine y5 ?_ (by omega) | refine y6 ?_ (by with_unfolding_all rfl) | refine y7 ?_ (by with_unfolding_all rfl) | refine y8 ?_ (by with_unfolding_all rfl) | refine y9 ?_ (by with_unfolding_all rfl) | refine ya ?_ (by with_unfolding_all rfl)) | ((with_reducible refine And.intro ?_ ?_); (· omega)) | (simp -dsimp only [↓cw_skip, ↓cw_ops, ↓cw_plan, ↓cw_seq, ↓cw_block, ↓cw_cond, ↓seqK_normal, ↓blockK_normal, ↓loopK_normal, ↓getK_same, ↓getK_ne, ↓evK_tmp, ↓evK_int, ↓condV_var, ↓opsW_nil, ↓opsW_d, ↓planW_nil, ↓planW_d, ↓agK_nil, ↓opW_move, ↓opW_assign, ↓opW_bin, ↓bin_add, ↓bin_lss, ↓ld1_some, ↓ldN_some, ↓fldA_some, ↓idxS_some, ↓lenS_some, ↓fa_28_1, ↓ld_26, ↓len_26, ↓ia_26, ↓ld_35, ↓neqA_35, ↓r10_2_w, ↓s10_3_w, ↓s10_6_w, ↓p10_7_w, ↓s10_8_w, ↓s10_9_w, ↓s10_10_w, ↓r10_11_w, ↓s10_12_w, ↓s10_13_w, onV_some', brK_true, brK_false, Nat.le_refl, true_and, and_true, ne_eq, Nat.reduceEqDiff, Nat.reduceAdd, not_false_eq_true, Addr.add_lit, Int.toNat_natCast, Bool.false_eq_true,  ↓e5, ↓b2, ↓b3, dv3, dw3, hc, hc']))
      exact ⟨A.length - (k + 1), by omega, k + 1, by omega, rfl, by simp [T.get_set, wrap_succ (show k ≤ 4611686018427387904 by omega)], by rw [← List.take_append_getElem hlt, ← List.take_append_getElem hlq, hpq, he]⟩
    · have hne := fun e => he (actD_eq.1 e)
      repeat' (first | done | with_reducible (first | refine y1 ?_ (by omega) | refine y2 ?_ (by omega) | refine y3 (fun _ => ?_) (fun _ => ?_) | refine y4 ?_ (by omega) (by omega) | refine y5 ?_ (by omega) | refine y6 ?_ (by with_unfolding_all rfl) | refine y7 ?_ (by with_unfolding_all rfl) | refine y8 ?_ (by with_unfolding_all rfl) | refine y9 ?_ (by with_unfolding_all rfl) | refine ya ?_ (by with_unfolding_all rfl)) | ((with_reducible refine And.intro ?_ ?_); (· omega)) | (simp -dsimp only [↓cw_skip, ↓cw_ops, ↓cw_plan, ↓cw_seq, ↓cw_block, ↓cw_ret, ↓cw_cond, ↓seqK_normal, ↓seqK_ret, ↓blockK_normal, ↓blockK_ret, ↓loopK_normal, ↓loopK_ret, ↓getK_same, ↓getK_ne, ↓evK_tmp, ↓evK_int, ↓evK_bool, ↓condV_var, ↓opsW_nil, ↓opsW_d, ↓planW_nil, ↓planW_d, ↓agK_nil, ↓opW_move, ↓opW_assign, ↓opW_bin, ↓bin_add, ↓bin_lss, ↓ld1_some, ↓ldN_some, ↓fldA_some, ↓idxS_some, ↓lenS_some, ↓resK_one, ↓fa_28_1, ↓ld_26, ↓len_26, ↓ia_26, ↓ld_35, ↓neqA_35, ↓r10_2_w, ↓s10_3_w, ↓r10_4_w, ↓s10_5_w, ↓s10_6_w, ↓p10_7_w, ↓s10_8_w, ↓s10_9_w, ↓s10_10_w, ↓r10_11_w, ↓s10_12_w, ↓s10_13_w, onV_some', brK_true, brK_false, Nat.le_refl, true_and, and_true, ne_eq, Nat.reduceEqDiff, Nat.reduceAdd, not_false_eq_true, Addr.add_lit, Int.toNat_natCast, Bool.false_eq_true,  ↓e5, ↓b2, ↓b3, dv3, dw3, hc, hc']))
      all_goals first
        | exact hK _ _ X ⟨fun h => (by cases h), fun h => absurd (by simp [h.2.2]) he⟩
        | (rename_i hh; exact absurd (by simpa using hh) (by simpa using hne))
  · have hkl : k = A.length := by omega
    repeat' (first | done | with_reducible (first | refine y1 ?_ (by omega) | refine y2 ?_ (by omega) | refine y3 (fun _ => ?_) (fun _ => ?_) | refine y4 ?_ (by omega) (by omega) | refine y5 ?_ (by omega) | refine y6 ?_ (by with_unfolding_all rfl) | refine y7 ?_ (by with_unfolding_all rfl) | refine y8 ?_ (by with_unfolding_all rfl) | refine y9 ?_ (by with_unfolding_all rfl) | refine ya ?_ (by with_unfolding_all rfl)) | ((with_reducible refine And.intro ?_ ?_); (· omega)) | (simp -dsimp only [↓cw_ops, ↓cw_seq, ↓cw_exit, ↓cw_ret, ↓cw_cond, ↓seqK_normal, ↓seqK_exit, ↓blockK_same, ↓loopK_exit, ↓getK_same, ↓getK_ne, ↓evK_tmp, ↓evK_bool, ↓condV_var, ↓opsW_nil, ↓opsW_d, ↓opW_move, ↓opW_assign, ↓opW_bin, ↓bin_lss, ↓ld1_some, ↓fldA_some, ↓lenS_some, ↓resK_one, ↓fa_28_1, ↓ld_26, ↓len_26, ↓r10_0_w, ↓s10_1_w, ↓s10_10_w, ↓r10_11_w, ↓s10_12_w, ↓s10_13_w, onV_some', brK_false, ne_eq, Nat.reduceEqDiff, Nat.reduceAdd, not_false_eq_true, Addr.add_lit, Bool.false_eq_true,  ↓e5, ↓b2, dv3]))
    exact hK _ _ X ⟨fun _ => ⟨hb.1, hb.2, by
      have h1 : A.take k = A := List.take_of_length_le (by omega)
      have h2 : D.take k = D := List.take_of_length_le (by omega)
      rw [h1, h2] at hpq; exact hpq⟩, fun _ => rfl⟩
end Go.Proofs.YtohjaacnlmkhbaaGreatDoor

