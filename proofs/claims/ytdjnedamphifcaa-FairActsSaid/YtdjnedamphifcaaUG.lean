/- The law returns true. Conditions, each theorem's own. -/
import Derived.Test.YtdjnedamphifcaaUE
set_option linter.unusedSimpArgs false
set_option linter.unusedVariables false
namespace Go.Proofs.Ytdjnedamphifcaa
open Go.Ev
set_option maxRecDepth 100000
set_option maxHeartbeats 400000
theorem lawMay_ret {B : Nat} {c : CfgD} {l : List PrgD} {h : Heap} {K : Value → Heap → Prop} (hB : B ≤ h.n) (hp : Progs B h c l) (hK : ∀ b h', (b = true → CfgOK c) → ExtB h.n h h' → K (.bool b) h') : Ret env (.func 5) [.agg ⟨c.cells⟩] h K := by
  refine F5 rfl ?_
  repeat' (first | done | with_reducible (first | refine y1 ?_ (by omega) | refine y2 ?_ (by omega) | refine y3 (fun _ => ?_) (fun _ => ?_) | refine y4 ?_ (by omega) (by omega) | refine y5 ?_ (by omega) | refine y6 ?_ (by with_unfolding_all rfl) | refine y7 ?_ (by with_unfolding_all rfl) | refine y8 ?_ (by with_unfolding_all rfl) | refine y9 ?_ (by with_unfolding_all rfl) | refine ya ?_ (by with_unfolding_all rfl)) | (simp -dsimp only [↓cw_ops, ↓cw_seq, ↓seqK_normal, ↓getK_same, ↓evK_tmp, ↓evK_bool, ↓opsW_nil, ↓opsW_d, ↓opW_assign, ↓setAll_cons, ↓setAll_nil, ↓opW_box, ↓box_agg, ↓r5_10_w, ↓s5_11_w]))
  have X1 : ExtB h.n h (newBlk h (.cells c.cells 25 true)) := ExtB.new _ (Nat.le_refl _)
  have cb := G.new h c.cells 25 true
  have hn1 : (newBlk h (.cells c.cells 25 true)).n = h.n + 1 := rfl
  generalize newBlk h (.cells c.cells 25 true) = h1 at X1 cb hn1 ⊢
  have dc := cb.cells (n := 15) rfl (by decide)
  repeat' (first | done | with_reducible (first | refine y1 ?_ (by omega) | refine y2 ?_ (by omega) | refine y3 (fun _ => ?_) (fun _ => ?_) | refine y4 ?_ (by omega) (by omega) | refine y5 ?_ (by omega) | refine y6 ?_ (by with_unfolding_all rfl) | refine y7 ?_ (by with_unfolding_all rfl) | refine y8 ?_ (by with_unfolding_all rfl) | refine y9 ?_ (by with_unfolding_all rfl) | refine ya ?_ (by with_unfolding_all rfl)) | (simp -dsimp only [↓cw_ops, ↓cw_seq, ↓getK_same, ↓getK_ne, ↓evK_tmp, ↓opsW_d, ↓ldN_some, ↓evs_nil, ↓evs_cons, ↓opW_call, ↓ld_25, ↓r5_7_w, ↓s5_8_w, ↓s5_9_w, onV_some', ne_eq, Nat.reduceEqDiff, not_false_eq_true, dc]))
  refine few_ret (B := B) (by omega) (hp.ext (X1.mono hB)) fun b h2 X2 => ?_
  have XX2 : ExtB h.n h h2 := X1.trans (X2.mono (by omega))
  have cb2 := cb.ext X2 cb.1
  have hn2 := X2.n
  have dc2 := cb2.cells (n := 15) rfl (by decide)
  cases b with
  | false =>
    repeat' (first | done | with_reducible (first | refine y1 ?_ (by omega) | refine y2 ?_ (by omega) | refine y3 (fun _ => ?_) (fun _ => ?_) | refine y4 ?_ (by omega) (by omega) | refine y5 ?_ (by omega) | refine y6 ?_ (by with_unfolding_all rfl) | refine y7 ?_ (by with_unfolding_all rfl) | refine y8 ?_ (by with_unfolding_all rfl) | refine y9 ?_ (by with_unfolding_all rfl) | refine ya ?_ (by with_unfolding_all rfl)) | (simp -dsimp only [↓cw_ops, ↓cw_seq, ↓cw_ret, ↓cw_cond, ↓seqK_normal, ↓seqK_ret, ↓getK_same, ↓evK_tmp, ↓evK_bool, ↓condV_var, ↓opsW_nil, ↓opsW_d, ↓opW_assign, ↓resK_one, ↓opW_un, ↓un_not, ↓r5_4_w, ↓s5_5_w, ↓s5_6_w, brK_true, Bool.not_false]))
    exact hK _ h2 (fun e => by cases e) XX2
  | true =>
    repeat' (first | done | with_reducible (first | refine y1 ?_ (by omega) | refine y2 ?_ (by omega) | refine y3 (fun _ => ?_) (fun _ => ?_) | refine y4 ?_ (by omega) (by omega) | refine y5 ?_ (by omega) | refine y6 ?_ (by with_unfolding_all rfl) | refine y7 ?_ (by with_unfolding_all rfl) | refine y8 ?_ (by with_unfolding_all rfl) | refine y9 ?_ (by with_unfolding_all rfl) | refine ya ?_ (by with_unfolding_all rfl)) | (simp -dsimp only [↓cw_skip, ↓cw_ops, ↓cw_seq, ↓cw_cond, ↓seqK_normal, ↓getK_same, ↓getK_ne, ↓evK_tmp, ↓condV_var, ↓opsW_nil, ↓opsW_d, ↓ldN_some, ↓evs_nil, ↓evs_cons, ↓opW_call, ↓opW_un, ↓un_not, ↓ld_25, ↓r5_2_w, ↓s5_3_w, ↓s5_6_w, onV_some', brK_false, ne_eq, Nat.reduceEqDiff, not_false_eq_true, Bool.false_eq_true,  dc2, Bool.not_true]))
    refine new_ret (B := B) (by omega) (hp.ext (XX2.mono hB)) fun v e h3 he X3 => ?_
    have XX3 : ExtB h.n h h3 := XX2.trans (X3.mono (by omega))
    by_cases h0 : e = 0
    · repeat' (first | done | with_reducible (first | refine y1 ?_ (by omega) | refine y2 ?_ (by omega) | refine y3 (fun _ => ?_) (fun _ => ?_) | refine y4 ?_ (by omega) (by omega) | refine y5 ?_ (by omega) | refine y6 ?_ (by with_unfolding_all rfl) | refine y7 ?_ (by with_unfolding_all rfl) | refine y8 ?_ (by with_unfolding_all rfl) | refine y9 ?_ (by with_unfolding_all rfl) | refine ya ?_ (by with_unfolding_all rfl)) | (simp -dsimp only [↓cw_ops, ↓cw_seq, ↓cw_ret, ↓seqK_normal, ↓getK_same, ↓getK_ne, ↓evK_tmp, ↓evK_int, ↓opsW_nil, ↓opsW_d, ↓opW_move, ↓opW_assign, ↓opW_bin, ↓bin_eql, ↓resK_one, ↓opW_extract, ↓ext_tuple, ↓r5_0_w, ↓s5_1_w, List.getElem?_cons_zero, List.getElem?_cons_succ, onV_some', ne_eq, Nat.reduceEqDiff, not_false_eq_true]))
      exact hK _ h3 (fun _ => he h0) XX3
    · repeat' (first | done | with_reducible (first | refine y1 ?_ (by omega) | refine y2 ?_ (by omega) | refine y3 (fun _ => ?_) (fun _ => ?_) | refine y4 ?_ (by omega) (by omega) | refine y5 ?_ (by omega) | refine y6 ?_ (by with_unfolding_all rfl) | refine y7 ?_ (by with_unfolding_all rfl) | refine y8 ?_ (by with_unfolding_all rfl) | refine y9 ?_ (by with_unfolding_all rfl) | refine ya ?_ (by with_unfolding_all rfl)) | (simp -dsimp only [↓cw_ops, ↓cw_seq, ↓cw_ret, ↓seqK_normal, ↓getK_same, ↓getK_ne, ↓evK_tmp, ↓evK_int, ↓opsW_nil, ↓opsW_d, ↓opW_move, ↓opW_assign, ↓opW_bin, ↓bin_eql, ↓resK_one, ↓opW_extract, ↓ext_tuple, ↓r5_0_w, ↓s5_1_w, List.getElem?_cons_zero, List.getElem?_cons_succ, onV_some', ne_eq, Nat.reduceEqDiff, not_false_eq_true]))
      exact hK _ h3 (fun e => by cases e) XX3
theorem actsRow {B : Nat} {h : Heap} {v : Value} {L : List ActD} (o : OwnS B h 52 v L.length (actsF L)) : ∃ a c, v = .slice a L.length c ∧ RowAt h.n h a 4 (L.map ActD.cells) := by
  have := OwnS.rowAt (rows := L.map ActD.cells) o (sz := 4) (by intro r hr; obtain ⟨x, _, rfl⟩ := List.mem_map.1 hr; rfl) (by simp)
  simpa using this
theorem eqB_4 {a b c : Bool} {K : Value → Prop} : binK env .eql 4 c (.bool a) (.bool b) K = K (.bool (a == b)) := bin_eqlB (by kernel_rfl)
theorem neqB_4 {a b c : Bool} {K : Value → Prop} : binK env .neq 4 c (.bool a) (.bool b) K = K (.bool (!(a == b))) := bin_neqB (by kernel_rfl)
theorem neqB_s {b c : Bool} {K : Value → Prop} : binK env .neq 4 c (.bool b) (.bool b) K = K (.bool false) := by rw [neqB_4]; simp
theorem lawEnd2 {cbk vs m ps : Nat} {c : CfgD} {a : Option Addr} {cc : Nat} {fr : Fr} {h : Heap} (hps : c.ps = ps) (hp1 : 1 ≤ ps) (hp8 : ps ≤ 8) (hvs : vs ≤ 4) (hm : m ≤ 20) (cb : G h cbk c.cells 25 true) (ra : RowAt h.n h a 4 ((roundsL ps vs m).map ActD.cells)) (hs : Sliceable a (roundsL ps vs m).length cc)
    (f3 : fr.get 3 = some (.int .i64 vs)) (f4 : fr.get 4 = some (.int .i64 m)) (f5 : fr.get 5 = some (.pointer (some ⟨cbk, 0, none⟩))) (f11 : fr.get 11 = some (.slice a (roundsL ps vs m).length cc)) (f12 : fr.get 12 = some (.int .i64 (oth ps))) :
    s3_9.wp env 100 none fr h (resK env [.tmp 10] fun v _ => v = .bool true) := by
  have e3 := getK_of f3
  have e4 := getK_of f4
  have e5 := getK_of f5
  have e11 := getK_of f11
  have e12 := getK_of f12
  have d0 : cellAt h ⟨cbk, 0, none⟩ = some (.int .i64 (ps : Int)) := by rw [← hps]; exact cb.cell rfl
  have hlen := roundsL_len' vs m hp1
  have hob : oth ps ≤ 56 := by
    unfold oth
    by_cases h1 : ps = 1
    · rw [if_pos h1]; omega
    · rw [if_neg h1]
      have : ps * (ps - 1) ≤ 8 * 7 := Nat.mul_le_mul hp8 (by omega)
      omega
  have hper : 1 + oth ps * vs ≤ 225 := by
    have : oth ps * vs ≤ 56 * 4 := Nat.mul_le_mul hob hvs
    omega
  have htot : m * (1 + oth ps * vs) ≤ 20 * 225 := Nat.mul_le_mul hm hper
  have w3 : IntKind.wrap .i64 ((oth ps : Int) * (vs : Int)) = ((oth ps * vs : Nat) : Int) := by rw [← Int.natCast_mul]; exact wrap_i64 (by omega) (by omega)
  have w4 : IntKind.wrap .i64 (1 + ((oth ps * vs : Nat) : Int)) = ((1 + oth ps * vs : Nat) : Int) := by rw [wrap_i64 (by omega) (by omega)]; omega
  have w5 : IntKind.wrap .i64 ((m : Int) * ((1 + oth ps * vs : Nat) : Int)) = ((m * (1 + oth ps * vs) : Nat) : Int) := by rw [← Int.natCast_mul]; exact wrap_i64 (by omega) (by omega)
  have fair := fun hv : 0 < vs => rounds_fair (ps := ps) (vs := vs) m hp1 hv
  rw [← hlen] at w5 htot
  generalize roundsL ps vs m = L at *
  generalize oth ps * vs = q at *
  by_cases hv0 : vs = 0
  · repeat' (first | done | with_reducible (first | refine y1 ?_ (by omega) | refine y2 ?_ (by omega) | refine y3 (fun _ => ?_) (fun _ => ?_) | refine y4 ?_ (by omega) (by omega) | refine y5 ?_ (by omega) | refine y6 ?_ (by with_unfolding_all rfl) | refine y7 ?_ (by with_unfolding_all rfl) | refine y8 ?_ (by with_unfolding_all rfl) | refine y9 ?_ (by with_unfolding_all rfl) | refine ya ?_ (by with_unfolding_all rfl)) | (simp -dsimp only [↓cw_skip, ↓cw_ops, ↓cw_seq, ↓cw_cond, ↓seqK_normal, ↓getK_same, ↓getK_ne, ↓evK_tmp, ↓evK_int, ↓evK_bool, ↓condV_var, ↓gdV_var, ↓opsW_nil, ↓opsW_d, ↓opsW_gd, ↓opW_move, ↓opW_assign, ↓opW_pick, ↓opW_bin, ↓bin_add, ↓bin_mul, ↓bin_eql, ↓bin_neq, ↓evs_nil, ↓opW_call, ↓lenS_some, ↓len_26, ↓r3_0_w, ↓s3_1_w, ↓s3_4_w, ↓r3_5_w, ↓s3_6_w, ↓s3_7_w, ↓r3_8_w, ↓s3_9_w, brK_true, brK_false, ne_eq, Nat.reduceEqDiff, not_false_eq_true, Bool.true_eq_false, Bool.false_eq_true,  ↓e3, ↓e4, ↓e11, ↓e12, w3, w4, w5]))
    exact Ret.ext (v := .bool true) rfl (by simp -dsimp only [↓cw_ret, ↓seqK_normal, ↓getK_same, ↓getK_ne, ↓evK_tmp, ↓condV_var, ↓opsW_nil, ↓opsW_d, ↓opW_assign, ↓opW_pick, ↓resK_one, brK_true, ne_eq, Nat.reduceEqDiff, not_false_eq_true])
  · repeat' (first | done | with_reducible (first | refine y1 ?_ (by omega) | refine y2 ?_ (by omega) | refine y3 (fun _ => ?_) (fun _ => ?_) | refine y4 ?_ (by omega) (by omega) | refine y5 ?_ (by omega) | refine y6 ?_ (by with_unfolding_all rfl) | refine y7 ?_ (by with_unfolding_all rfl) | refine y8 ?_ (by with_unfolding_all rfl) | refine y9 ?_ (by with_unfolding_all rfl) | refine ya ?_ (by with_unfolding_all rfl)) | (simp -dsimp only [↓cw_skip, ↓cw_ops, ↓cw_seq, ↓cw_cond, ↓seqK_normal, ↓getK_same, ↓getK_ne, ↓evK_tmp, ↓evK_int, ↓condV_var, ↓gdV_var, ↓opsW_nil, ↓opsW_d, ↓opsW_gd, ↓opW_move, ↓opW_assign, ↓opW_bin, ↓bin_add, ↓bin_mul, ↓bin_eql, ↓bin_neq, ↓ld1_some, ↓fldA_some, ↓evs_nil, ↓evs_cons, ↓opW_call, ↓lenS_some, ↓len_26, ↓fa_25_0, ↓ld_3, ↓r3_0_w, ↓s3_1_w, ↓s3_4_w, ↓r3_5_w, ↓s3_6_w, ↓s3_7_w, ↓r3_8_w, ↓s3_9_w, onV_some', brK_true, brK_false, ne_eq, Nat.reduceEqDiff, not_false_eq_true, Nat.add_zero, Addr.add_lit, Bool.false_eq_true,  ↓e3, ↓e4, ↓e5, ↓e11, ↓e12, d0, w3, w4, w5]))
    refine fairIs_ret (B := h.n) (by omega) ⟨hp1, hp8⟩ (by omega) (Nat.le_refl _) ra hs fun b h1 hb X1 => ?_
    have hbt := hb.2 (fair (by omega))
    subst hbt
    repeat' (first | done | with_reducible (first | refine y1 ?_ (by omega) | refine y2 ?_ (by omega) | refine y3 (fun _ => ?_) (fun _ => ?_) | refine y4 ?_ (by omega) (by omega) | refine y5 ?_ (by omega) | refine y6 ?_ (by with_unfolding_all rfl) | refine y7 ?_ (by with_unfolding_all rfl) | refine y8 ?_ (by with_unfolding_all rfl) | refine y9 ?_ (by with_unfolding_all rfl) | refine ya ?_ (by with_unfolding_all rfl)) | (simp -dsimp only [↓getK_same, ↓getK_ne, ↓evK_tmp, ↓condV_var, ↓gdV_var, ↓opsW_d, ↓opsW_gd, ↓opW_move, ↓opW_pick, ↓evs_nil, ↓opW_call, brK_true, brK_false, ne_eq, Nat.reduceEqDiff, not_false_eq_true, Bool.false_eq_true]))
    exact Ret.ext (v := .bool true) rfl (by simp -dsimp only [↓cw_ret, ↓seqK_normal, ↓getK_same, ↓getK_ne, ↓evK_tmp, ↓condV_var, ↓opsW_nil, ↓opsW_d, ↓opW_assign, ↓opW_pick, ↓resK_one, brK_true, ne_eq, Nat.reduceEqDiff, not_false_eq_true])
theorem lawEnd {cbk vs m ps : Nat} {c : CfgD} {fr : Fr} {h : Heap} (hps : c.ps = ps) (hp1 : 1 ≤ ps) (hp8 : ps ≤ 8) (hvs : vs ≤ 4) (hm : m ≤ 20) (cb : G h cbk c.cells 25 true)
    (f3 : fr.get 3 = some (.int .i64 vs)) (f4 : fr.get 4 = some (.int .i64 m)) (f5 : fr.get 5 = some (.pointer (some ⟨cbk, 0, none⟩))) :
    s3_19.wp env 100 none fr h (resK env [.tmp 10] fun v _ => v = .bool true) := by
  have e3 := getK_of f3
  have e4 := getK_of f4
  have e5 := getK_of f5
  have d0 : cellAt h ⟨cbk, 0, none⟩ = some (.int .i64 (ps : Int)) := by rw [← hps]; exact cb.cell rfl
  repeat' (first | done | with_reducible (first | refine y1 ?_ (by omega) | refine y2 ?_ (by omega) | refine y3 (fun _ => ?_) (fun _ => ?_) | refine y4 ?_ (by omega) (by omega) | refine y5 ?_ (by omega) | refine y6 ?_ (by with_unfolding_all rfl) | refine y7 ?_ (by with_unfolding_all rfl) | refine y8 ?_ (by with_unfolding_all rfl) | refine y9 ?_ (by with_unfolding_all rfl) | refine ya ?_ (by with_unfolding_all rfl)) | (simp -dsimp only [↓cw_ops, ↓cw_seq, ↓getK_same, ↓getK_ne, ↓evK_tmp, ↓opsW_d, ↓opW_move, ↓ld1_some, ↓fldA_some, ↓evs_nil, ↓evs_cons, ↓opW_call, ↓fa_25_0, ↓ld_3, ↓r3_18_w, ↓s3_19_w, onV_some', ne_eq, Nat.reduceEqDiff, not_false_eq_true, Nat.add_zero, Addr.add_lit, ↓e3, ↓e4, ↓e5, d0]))
  refine rounds_ret hp8 hvs hm fun v h1 o1 X1 => ?_
  have n1 := X1.n
  have cb1 := cb.ext X1 cb.1
  have d0 : cellAt h1 ⟨cbk, 0, none⟩ = some (.int .i64 (ps : Int)) := by rw [← hps]; exact cb1.cell rfl
  obtain ⟨a, cc, rfl, ra⟩ := actsRow o1
  have hs : Sliceable a (roundsL ps vs m).length cc := by
    have key : ∀ (q : Nat) (L : List Value), OwnS h.n h1 52 (.slice a q cc) q L → Sliceable a q cc := fun q L o => by
      cases o with
      | nil => exact sliceable_0
      | emp i hi => exact sliceable_0
      | row i _ _ _ _ _ => exact sliceable_U
    exact key _ _ o1
  have hoth : (if ps = 1 then (1 : Int) else (ps : Int) * ((ps : Int) - 1)) = (oth ps : Int) := by
    unfold oth
    by_cases h1 : ps = 1
    · rw [if_pos h1, if_pos h1]; rfl
    · rw [if_neg h1, if_neg h1]
      obtain ⟨q, rfl⟩ : ∃ q, ps = q + 1 := ⟨ps - 1, by omega⟩
      simp
  have w1 : IntKind.wrap .i64 ((ps : Int) - 1) = (ps : Int) - 1 := wrap_i64 (by omega) (by omega)
  have w2 : IntKind.wrap .i64 ((ps : Int) * ((ps : Int) - 1)) = (ps : Int) * ((ps : Int) - 1) := by
    have a1 : 0 ≤ (ps : Int) * ((ps : Int) - 1) := Int.mul_nonneg (by omega) (by omega)
    have a2 : (ps : Int) * ((ps : Int) - 1) ≤ 8 * 7 := mul_le (by omega) (by omega) (by omega) (by omega)
    exact wrap_i64 (by omega) (by omega)
  by_cases h1 : ps = 1
  · rw [if_pos h1] at hoth
    repeat' (first | done | with_reducible (first | refine y1 ?_ (by omega) | refine y2 ?_ (by omega) | refine y3 (fun _ => ?_) (fun _ => ?_) | refine y4 ?_ (by omega) (by omega) | refine y5 ?_ (by omega) | refine y6 ?_ (by with_unfolding_all rfl) | refine y7 ?_ (by with_unfolding_all rfl) | refine y8 ?_ (by with_unfolding_all rfl) | refine y9 ?_ (by with_unfolding_all rfl) | refine ya ?_ (by with_unfolding_all rfl)) | (simp -dsimp only [↓cw_ops, ↓cw_seq, ↓cw_cond, ↓seqK_normal, ↓getK_same, ↓getK_ne, ↓evK_tmp, ↓evK_int, ↓condV_var, ↓opsW_nil, ↓opsW_d, ↓opW_assign, ↓opW_bin, ↓bin_sub, ↓bin_mul, ↓bin_eql, ↓ld1_some, ↓fldA_some, ↓fa_25_0, ↓ld_3, ↓r3_10_w, ↓s3_11_w, ↓s3_12_w, ↓r3_13_w, ↓s3_14_w, ↓s3_15_w, ↓r3_16_w, ↓s3_17_w, onV_some', brK_true, ne_eq, Nat.reduceEqDiff, not_false_eq_true, Nat.add_zero, Addr.add_lit, ↓e5, d0]))
    exact lawEnd2 hps hp1 hp8 hvs hm cb1 ra hs (by simp only [T.get_set]; simpa using f3) (by simp only [T.get_set]; simpa using f4) (by simp only [T.get_set]; simpa using f5) (by simp [T.get_set]) (by simp [T.get_set]; omega)
  · rw [if_neg h1] at hoth
    rw [hoth] at w2
    repeat' (first | done | with_reducible (first | refine y1 ?_ (by omega) | refine y2 ?_ (by omega) | refine y3 (fun _ => ?_) (fun _ => ?_) | refine y4 ?_ (by omega) (by omega) | refine y5 ?_ (by omega) | refine y6 ?_ (by with_unfolding_all rfl) | refine y7 ?_ (by with_unfolding_all rfl) | refine y8 ?_ (by with_unfolding_all rfl) | refine y9 ?_ (by with_unfolding_all rfl) | refine ya ?_ (by with_unfolding_all rfl)) | (simp -dsimp only [↓cw_skip, ↓cw_ops, ↓cw_seq, ↓cw_cond, ↓seqK_normal, ↓getK_same, ↓getK_ne, ↓evK_tmp, ↓evK_int, ↓condV_var, ↓opsW_nil, ↓opsW_d, ↓opW_assign, ↓opW_bin, ↓bin_sub, ↓bin_mul, ↓bin_eql, ↓ld1_some, ↓fldA_some, ↓fa_25_0, ↓ld_3, ↓s3_12_w, ↓r3_13_w, ↓s3_14_w, ↓s3_15_w, ↓r3_16_w, ↓s3_17_w, onV_some', brK_false, ne_eq, Nat.reduceEqDiff, not_false_eq_true, Nat.add_zero, Addr.add_lit, Bool.false_eq_true,  ↓e5, d0, w1, w2, hoth]))
    exact lawEnd2 hps hp1 hp8 hvs hm cb1 ra hs (by simp only [T.get_set]; simpa using f3) (by simp only [T.get_set]; simpa using f4) (by simp only [T.get_set]; simpa using f5) (by simp [T.get_set]) (by simp [T.get_set])
theorem lawTail {B cbk vs m : Nat} {c : CfgD} {k : Int} {a : Option Addr} {cp : Nat} {l : List ActD} {fr : Fr} {h : Heap} (ok : CfgOK c) (hl : l.length ≤ 300) (kk2 : k ≤ 9223372036854775807) (hvs : vs ≤ 4) (hm : m ≤ 20) (hB : B ≤ h.n) (ra : RowAt B h a 4 (l.map ActD.cells)) (hs : Sliceable a l.length cp) (hsl : sameV 50 (.slice a l.length cp) (.slice a l.length cp) = true) (hcs : sameV 50 (.agg ⟨c.cells⟩) (.agg ⟨c.cells⟩) = true) (cb : G h cbk c.cells 25 true)
    (f1 : fr.get 1 = some (.int .i64 k)) (f2 : fr.get 2 = some (.slice a l.length cp)) (f3 : fr.get 3 = some (.int .i64 vs)) (f4 : fr.get 4 = some (.int .i64 m)) (f5 : fr.get 5 = some (.pointer (some ⟨cbk, 0, none⟩))) :
    s3_25.wp env 100 none fr h (resK env [.tmp 10] fun v _ => v = .bool true) := by
  obtain ⟨p1, p2⟩ := ok.ps
  obtain ⟨ps, hps⟩ := Int.eq_ofNat_of_zero_le (show 0 ≤ c.ps by omega)
  have hp1 : 1 ≤ ps := by omega
  have hp8 : ps ≤ 8 := by omega
  have e1 := getK_of f1
  have e2 := getK_of f2
  have e3 := getK_of f3
  have e4 := getK_of f4
  have e5 := getK_of f5
  have ssl : (sameV 50 (.slice a l.length cp) (.slice a l.length cp) = true) = True := eq_true hsl
  have d0 : cellAt h ⟨cbk, 0, none⟩ = some (.int .i64 (ps : Int)) := by rw [← hps]; exact cb.cell rfl
  repeat' (first | done | with_reducible (first | refine y1 ?_ (by omega) | refine y2 ?_ (by omega) | refine y3 (fun _ => ?_) (fun _ => ?_) | refine y4 ?_ (by omega) (by omega) | refine y5 ?_ (by omega) | refine y6 ?_ (by with_unfolding_all rfl) | refine y7 ?_ (by with_unfolding_all rfl) | refine y8 ?_ (by with_unfolding_all rfl) | refine y9 ?_ (by with_unfolding_all rfl) | refine ya ?_ (by with_unfolding_all rfl)) | (simp -dsimp only [↓cw_plan, ↓cw_seq, ↓getK_same, ↓getK_ne, ↓evK_tmp, ↓planW_d, ↓agK_nil, ↓opW_move, ↓ld1_some, ↓fldA_some, ↓evs_nil, ↓evs_cons, ↓opW_call, ↓fa_25_0, ↓ld_3, ↓p3_23_w, ↓s3_24_w, ↓s3_25_w, onV_some', Nat.le_refl, true_and, ne_eq, Nat.reduceEqDiff, not_false_eq_true, Nat.add_zero, Addr.add_lit, ↓e1, ↓e2, ↓e5, d0]))
  refine fairIs_ret (B := B) (by omega) ⟨hp1, hp8⟩ kk2 hB ra hs fun b1 h1 hb1 X1 => ?_
  have n1 := X1.n
  have cb1 := cb.ext X1 cb.1
  have d01 : cellAt h1 ⟨cbk, 0, none⟩ = some (.int .i64 (ps : Int)) := by rw [← hps]; exact cb1.cell rfl
  have dc1 := cb1.cells (n := 15) rfl (by decide)
  refine ⟨n1, by repeat' (first | done | with_reducible (first | refine y1 ?_ (by omega) | refine y2 ?_ (by omega) | refine y3 (fun _ => ?_) (fun _ => ?_) | refine y4 ?_ (by omega) (by omega) | refine y5 ?_ (by omega) | refine y6 ?_ (by with_unfolding_all rfl) | refine y7 ?_ (by with_unfolding_all rfl) | refine y8 ?_ (by with_unfolding_all rfl) | refine y9 ?_ (by with_unfolding_all rfl) | refine ya ?_ (by with_unfolding_all rfl)) | (simp -dsimp only [↓getK_same, ↓getK_ne, ↓evK_tmp, ↓agK_nil, ↓ld1_some, ↓agK_load, ↓agV_same, ↓agV_ne, ↓agl_3, onV_some', and_true, ne_eq, Nat.reduceEqDiff, not_false_eq_true, Nat.add_zero, Addr.add_lit, d01, same_int])), ?_⟩
  repeat' (first | done | with_reducible (first | refine y1 ?_ (by omega) | refine y2 ?_ (by omega) | refine y3 (fun _ => ?_) (fun _ => ?_) | refine y4 ?_ (by omega) (by omega) | refine y5 ?_ (by omega) | refine y6 ?_ (by with_unfolding_all rfl) | refine y7 ?_ (by with_unfolding_all rfl) | refine y8 ?_ (by with_unfolding_all rfl) | refine y9 ?_ (by with_unfolding_all rfl) | refine ya ?_ (by with_unfolding_all rfl)) | (simp -dsimp only [↓getK_same, ↓getK_ne, ↓evK_tmp, ↓planW_d, ↓evs_nil, ↓evs_cons, ↓opW_call, ne_eq, Nat.reduceEqDiff, not_false_eq_true]))
  refine refIs_ret (B := B) (by omega) ⟨hp1, hp8⟩ (by omega) (ra.ext (X1.mono hB)) hs fun b2 hb2 => ?_
  have hbb : b1 = b2 := by
    have : b1 = true ↔ b2 = true := hb1.trans hb2.symm
    cases b1 <;> cases b2 <;> simp_all
  subst hbb
  repeat' (first | done | with_reducible (first | refine y1 ?_ (by omega) | refine y2 ?_ (by omega) | refine y3 (fun _ => ?_) (fun _ => ?_) | refine y4 ?_ (by omega) (by omega) | refine y5 ?_ (by omega) | refine y6 ?_ (by with_unfolding_all rfl) | refine y7 ?_ (by with_unfolding_all rfl) | refine y8 ?_ (by with_unfolding_all rfl) | refine y9 ?_ (by with_unfolding_all rfl) | refine ya ?_ (by with_unfolding_all rfl)) | (simp -dsimp only [↓getK_same, ↓getK_ne, ↓evK_tmp, ↓gdV_var, ↓planW_d, ↓planW_gd, ↓agK_nil, ↓opW_move, ↓opW_bin, ↓ldN_some, ↓evs_nil, ↓evs_cons, ↓opW_call, ↓ld_25, onV_some', brK_true, Nat.le_refl, true_and, ne_eq, Nat.reduceEqDiff, not_false_eq_true, ↓e1, ↓e5, dc1, neqB_s]))
  have scc : (sameV 50 (.agg ⟨c.cells⟩) (.agg ⟨c.cells⟩) = true) = True := eq_true hcs
  refine bound_ret ok kk2 fun h2 X2 => ?_
  have n2 := X2.n
  have cb2 := cb1.ext X2 cb1.1
  have dc2 := cb2.cells (n := 15) rfl (by decide)
  refine ⟨n2, by repeat' (first | done | with_reducible (first | refine y1 ?_ (by omega) | refine y2 ?_ (by omega) | refine y3 (fun _ => ?_) (fun _ => ?_) | refine y4 ?_ (by omega) (by omega) | refine y5 ?_ (by omega) | refine y6 ?_ (by with_unfolding_all rfl) | refine y7 ?_ (by with_unfolding_all rfl) | refine y8 ?_ (by with_unfolding_all rfl) | refine y9 ?_ (by with_unfolding_all rfl) | refine ya ?_ (by with_unfolding_all rfl)) | (simp -dsimp only [↓getK_same, ↓getK_ne, ↓evK_tmp, ↓gdV_var, ↓agK_nil, ↓ldN_some, ↓agK_loadG, ↓agV_same, ↓agV_ne, ↓agl_25, onV_some', brK_true, and_true, ne_eq, Nat.reduceEqDiff, not_false_eq_true, ↓e5, dc2, scc])), ?_⟩
  repeat' (first | done | with_reducible (first | refine y1 ?_ (by omega) | refine y2 ?_ (by omega) | refine y3 (fun _ => ?_) (fun _ => ?_) | refine y4 ?_ (by omega) (by omega) | refine y5 ?_ (by omega) | refine y6 ?_ (by with_unfolding_all rfl) | refine y7 ?_ (by with_unfolding_all rfl) | refine y8 ?_ (by with_unfolding_all rfl) | refine y9 ?_ (by with_unfolding_all rfl) | refine ya ?_ (by with_unfolding_all rfl)) | (simp -dsimp only [↓getK_same, ↓getK_ne, ↓evK_tmp, ↓gdV_var, ↓planW_gd, ↓evs_nil, ↓evs_cons, ↓opW_call, brK_true, ne_eq, Nat.reduceEqDiff, not_false_eq_true]))
  refine refBound_ret ok kk2 fun h3 X3 => ?_
  have n3 := X3.n
  have cb3 := cb2.ext X3 cb2.1
  repeat' (first | done | with_reducible (first | refine y1 ?_ (by omega) | refine y2 ?_ (by omega) | refine y3 (fun _ => ?_) (fun _ => ?_) | refine y4 ?_ (by omega) (by omega) | refine y5 ?_ (by omega) | refine y6 ?_ (by with_unfolding_all rfl) | refine y7 ?_ (by with_unfolding_all rfl) | refine y8 ?_ (by with_unfolding_all rfl) | refine y9 ?_ (by with_unfolding_all rfl) | refine ya ?_ (by with_unfolding_all rfl)) | (simp -dsimp only [↓getK_same, ↓getK_ne, ↓evK_tmp, ↓evK_int, ↓condV_var, ↓gdV_var, ↓planW_d, ↓planW_gd, ↓agK_nil, ↓opW_move, ↓opW_pick, ↓opW_bin, ↓bin_neq, ↓evs_nil, ↓evs_cons, ↓opW_call, brK_true, brK_false, Nat.le_refl, true_and, ne_eq, Nat.reduceEqDiff, not_false_eq_true, Bool.false_eq_true,  ↓e1, ↓e2]))
  refine fairIs0 ?_
  have d03 : cellAt h3 ⟨cbk, 0, none⟩ = some (.int .i64 (ps : Int)) := by rw [← hps]; exact cb3.cell rfl
  repeat' (first | done | with_reducible (first | refine y1 ?_ (by omega) | refine y2 ?_ (by omega) | refine y3 (fun _ => ?_) (fun _ => ?_) | refine y4 ?_ (by omega) (by omega) | refine y5 ?_ (by omega) | refine y6 ?_ (by with_unfolding_all rfl) | refine y7 ?_ (by with_unfolding_all rfl) | refine y8 ?_ (by with_unfolding_all rfl) | refine y9 ?_ (by with_unfolding_all rfl) | refine ya ?_ (by with_unfolding_all rfl)) | (simp -dsimp only [↓cw_skip, ↓cw_cond, ↓seqK_normal, ↓getK_same, ↓getK_ne, ↓evK_tmp, ↓condV_var, ↓planW_nil, ↓planW_d, ↓agK_nil, ↓opW_pick, ↓s3_22_w, brK_false, Nat.le_refl, true_and, ne_eq, Nat.reduceEqDiff, not_false_eq_true, Nat.add_zero, Addr.add_lit, Bool.false_eq_true]))
  exact lawEnd hps hp1 hp8 hvs hm cb3 (by simp only [T.get_set]; simpa using f3) (by simp only [T.get_set]; simpa using f4) (by simp only [T.get_set]; simpa using f5)
theorem law_ret {B : Nat} {c : CfgD} {pl : List PrgD} {k vi n : Int} {a : Option Addr} {cp : Nat} {l : List ActD} {h : Heap} (hB : B ≤ h.n) (hp : Progs B h c pl) (hk : -9223372036854775808 ≤ k ∧ k ≤ 9223372036854775807) (ra : RowAt B h a 4 (l.map ActD.cells)) (hs : Sliceable a l.length cp) (hsl : sameV 50 (.slice a l.length cp) (.slice a l.length cp) = true) (hcs : sameV 50 (.agg ⟨c.cells⟩) (.agg ⟨c.cells⟩) = true) :
    Ret env (.func 3) [.agg ⟨c.cells⟩, .int .i64 k, .slice a l.length cp, .int .i64 vi, .int .i64 n] h fun v _ => v = .bool true := by
  obtain ⟨kk1, kk2⟩ := hk
  refine F3 rfl ?_
  repeat' (first | done | with_reducible (first | refine y1 ?_ (by omega) | refine y2 ?_ (by omega) | refine y3 (fun _ => ?_) (fun _ => ?_) | refine y4 ?_ (by omega) (by omega) | refine y5 ?_ (by omega) | refine y6 ?_ (by with_unfolding_all rfl) | refine y7 ?_ (by with_unfolding_all rfl) | refine y8 ?_ (by with_unfolding_all rfl) | refine y9 ?_ (by with_unfolding_all rfl) | refine ya ?_ (by with_unfolding_all rfl)) | (simp -dsimp only [↓cw_ops, ↓cw_seq, ↓seqK_normal, ↓getK_same, ↓getK_ne, ↓evK_tmp, ↓evK_bool, ↓opsW_nil, ↓opsW_d, ↓opW_assign, ↓setAll_cons, ↓setAll_nil, ↓opW_box, ↓box_agg, ↓r3_32_w, ↓s3_33_w, ne_eq, Nat.reduceEqDiff, Nat.reduceAdd, not_false_eq_true, Nat.one_ne_zero]))
  have X1 : ExtB h.n h (newBlk h (.cells c.cells 25 true)) := ExtB.new _ (Nat.le_refl _)
  have cb := G.new h c.cells 25 true
  have hn1 : (newBlk h (.cells c.cells 25 true)).n = h.n + 1 := rfl
  generalize newBlk h (.cells c.cells 25 true) = h1 at X1 cb hn1 ⊢
  have dc := cb.cells (n := 15) rfl (by decide)
  repeat' (first | done | with_reducible (first | refine y1 ?_ (by omega) | refine y2 ?_ (by omega) | refine y3 (fun _ => ?_) (fun _ => ?_) | refine y4 ?_ (by omega) (by omega) | refine y5 ?_ (by omega) | refine y6 ?_ (by with_unfolding_all rfl) | refine y7 ?_ (by with_unfolding_all rfl) | refine y8 ?_ (by with_unfolding_all rfl) | refine y9 ?_ (by with_unfolding_all rfl) | refine ya ?_ (by with_unfolding_all rfl)) | (simp -dsimp only [↓cw_ops, ↓cw_seq, ↓getK_same, ↓getK_ne, ↓evK_tmp, ↓opsW_d, ↓ldN_some, ↓evs_nil, ↓evs_cons, ↓opW_call, ↓ld_25, ↓r3_29_w, ↓s3_30_w, ↓s3_31_w, onV_some', ne_eq, Nat.reduceEqDiff, not_false_eq_true, dc]))
  refine lawMay_ret (B := B) (by omega) (hp.ext (X1.mono hB)) fun b h2 hb X2 => ?_
  have XX2 : ExtB h.n h h2 := X1.trans (X2.mono (by omega))
  have cb2 := cb.ext X2 cb.1
  have hn2 := X2.n
  cases b with
  | false =>
    repeat' (first | done | with_reducible (first | refine y1 ?_ (by omega) | refine y2 ?_ (by omega) | refine y3 (fun _ => ?_) (fun _ => ?_) | refine y4 ?_ (by omega) (by omega) | refine y5 ?_ (by omega) | refine y6 ?_ (by with_unfolding_all rfl) | refine y7 ?_ (by with_unfolding_all rfl) | refine y8 ?_ (by with_unfolding_all rfl) | refine y9 ?_ (by with_unfolding_all rfl) | refine ya ?_ (by with_unfolding_all rfl)) | (simp -dsimp only [↓cw_ops, ↓cw_seq, ↓cw_cond, ↓seqK_normal, ↓getK_same, ↓getK_ne, ↓evK_tmp, ↓evK_bool, ↓condV_var, ↓gdV_var, ↓opsW_nil, ↓opsW_d, ↓opsW_gd, ↓opW_move, ↓opW_pick, ↓evs_nil, ↓opW_call, ↓opW_un, ↓un_not, ↓r3_26_w, ↓s3_27_w, ↓s3_28_w, brK_true, brK_false, ne_eq, Nat.reduceEqDiff, not_false_eq_true, Bool.true_eq_false, Bool.not_false]))
    exact Ret.ext (v := .bool true) rfl (by simp -dsimp only [↓cw_ret, ↓seqK_normal, ↓seqK_ret, ↓getK_same, ↓evK_tmp, ↓opsW_nil, ↓opsW_d, ↓opW_assign, ↓resK_one])
  | true =>
    have ok := hb rfl
    by_cases hl : 300 < l.length
    · repeat' (first | done | with_reducible (first | refine y1 ?_ (by omega) | refine y2 ?_ (by omega) | refine y3 (fun _ => ?_) (fun _ => ?_) | refine y4 ?_ (by omega) (by omega) | refine y5 ?_ (by omega) | refine y6 ?_ (by with_unfolding_all rfl) | refine y7 ?_ (by with_unfolding_all rfl) | refine y8 ?_ (by with_unfolding_all rfl) | refine y9 ?_ (by with_unfolding_all rfl) | refine ya ?_ (by with_unfolding_all rfl)) | (simp -dsimp only [↓cw_ops, ↓cw_seq, ↓cw_cond, ↓seqK_normal, ↓getK_same, ↓getK_ne, ↓evK_tmp, ↓evK_int, ↓evK_bool, ↓condV_var, ↓gdV_var, ↓opsW_nil, ↓opsW_d, ↓opsW_gd, ↓opW_move, ↓opW_pick, ↓opW_bin, ↓bin_gtr, ↓evs_nil, ↓opW_call, ↓lenS_some, ↓opW_un, ↓un_not, ↓len_26, ↓r3_26_w, ↓s3_27_w, ↓s3_28_w, brK_true, brK_false, ne_eq, Nat.reduceEqDiff, not_false_eq_true, Bool.true_eq_false, Bool.false_eq_true,  Bool.not_true]))
      exact Ret.ext (v := .bool true) rfl (by simp -dsimp only [↓cw_ret, ↓seqK_normal, ↓seqK_ret, ↓getK_same, ↓evK_tmp, ↓opsW_nil, ↓opsW_d, ↓opW_assign, ↓resK_one])
    by_cases hv4 : 4 < vi
    · repeat' (first | done | with_reducible (first | refine y1 ?_ (by omega) | refine y2 ?_ (by omega) | refine y3 (fun _ => ?_) (fun _ => ?_) | refine y4 ?_ (by omega) (by omega) | refine y5 ?_ (by omega) | refine y6 ?_ (by with_unfolding_all rfl) | refine y7 ?_ (by with_unfolding_all rfl) | refine y8 ?_ (by with_unfolding_all rfl) | refine y9 ?_ (by with_unfolding_all rfl) | refine ya ?_ (by with_unfolding_all rfl)) | (simp -dsimp only [↓cw_ops, ↓cw_seq, ↓cw_cond, ↓seqK_normal, ↓getK_same, ↓getK_ne, ↓evK_tmp, ↓evK_int, ↓evK_bool, ↓condV_var, ↓gdV_var, ↓opsW_nil, ↓opsW_d, ↓opsW_gd, ↓opW_move, ↓opW_pick, ↓opW_bin, ↓bin_gtr, ↓evs_nil, ↓opW_call, ↓lenS_some, ↓opW_un, ↓un_not, ↓len_26, ↓r3_26_w, ↓s3_27_w, ↓s3_28_w, brK_true, brK_false, ne_eq, Nat.reduceEqDiff, not_false_eq_true, Bool.true_eq_false, Bool.false_eq_true,  Bool.not_true]))
      exact Ret.ext (v := .bool true) rfl (by simp -dsimp only [↓cw_ret, ↓seqK_normal, ↓seqK_ret, ↓getK_same, ↓evK_tmp, ↓opsW_nil, ↓opsW_d, ↓opW_assign, ↓resK_one])
    by_cases hn20 : 20 < n
    · repeat' (first | done | with_reducible (first | refine y1 ?_ (by omega) | refine y2 ?_ (by omega) | refine y3 (fun _ => ?_) (fun _ => ?_) | refine y4 ?_ (by omega) (by omega) | refine y5 ?_ (by omega) | refine y6 ?_ (by with_unfolding_all rfl) | refine y7 ?_ (by with_unfolding_all rfl) | refine y8 ?_ (by with_unfolding_all rfl) | refine y9 ?_ (by with_unfolding_all rfl) | refine ya ?_ (by with_unfolding_all rfl)) | (simp -dsimp only [↓cw_ops, ↓cw_seq, ↓cw_cond, ↓seqK_normal, ↓getK_same, ↓getK_ne, ↓evK_tmp, ↓evK_int, ↓evK_bool, ↓condV_var, ↓gdV_var, ↓opsW_nil, ↓opsW_d, ↓opsW_gd, ↓opW_move, ↓opW_pick, ↓opW_bin, ↓bin_gtr, ↓evs_nil, ↓opW_call, ↓lenS_some, ↓opW_un, ↓un_not, ↓len_26, ↓r3_26_w, ↓s3_27_w, ↓s3_28_w, brK_true, brK_false, ne_eq, Nat.reduceEqDiff, not_false_eq_true, Bool.true_eq_false, Bool.false_eq_true,  Bool.not_true]))
      exact Ret.ext (v := .bool true) rfl (by simp -dsimp only [↓cw_ret, ↓seqK_normal, ↓seqK_ret, ↓getK_same, ↓evK_tmp, ↓opsW_nil, ↓opsW_d, ↓opW_assign, ↓resK_one])
    by_cases hn0 : n < 0
    · repeat' (first | done | with_reducible (first | refine y1 ?_ (by omega) | refine y2 ?_ (by omega) | refine y3 (fun _ => ?_) (fun _ => ?_) | refine y4 ?_ (by omega) (by omega) | refine y5 ?_ (by omega) | refine y6 ?_ (by with_unfolding_all rfl) | refine y7 ?_ (by with_unfolding_all rfl) | refine y8 ?_ (by with_unfolding_all rfl) | refine y9 ?_ (by with_unfolding_all rfl) | refine ya ?_ (by with_unfolding_all rfl)) | (simp -dsimp only [↓cw_ops, ↓cw_seq, ↓cw_cond, ↓seqK_normal, ↓getK_same, ↓getK_ne, ↓evK_tmp, ↓evK_int, ↓evK_bool, ↓condV_var, ↓gdV_var, ↓opsW_nil, ↓opsW_d, ↓opsW_gd, ↓opW_move, ↓opW_pick, ↓opW_bin, ↓bin_lss, ↓bin_gtr, ↓evs_nil, ↓opW_call, ↓lenS_some, ↓opW_un, ↓un_not, ↓len_26, ↓r3_26_w, ↓s3_27_w, ↓s3_28_w, brK_true, brK_false, ne_eq, Nat.reduceEqDiff, not_false_eq_true, Bool.true_eq_false, Bool.false_eq_true,  Bool.not_true]))
      exact Ret.ext (v := .bool true) rfl (by simp -dsimp only [↓cw_ret, ↓seqK_normal, ↓seqK_ret, ↓getK_same, ↓evK_tmp, ↓opsW_nil, ↓opsW_d, ↓opW_assign, ↓resK_one])
    by_cases hv0 : vi < 0
    · repeat' (first | done | with_reducible (first | refine y1 ?_ (by omega) | refine y2 ?_ (by omega) | refine y3 (fun _ => ?_) (fun _ => ?_) | refine y4 ?_ (by omega) (by omega) | refine y5 ?_ (by omega) | refine y6 ?_ (by with_unfolding_all rfl) | refine y7 ?_ (by with_unfolding_all rfl) | refine y8 ?_ (by with_unfolding_all rfl) | refine y9 ?_ (by with_unfolding_all rfl) | refine ya ?_ (by with_unfolding_all rfl)) | (simp -dsimp only [↓cw_ops, ↓cw_seq, ↓cw_cond, ↓seqK_normal, ↓getK_same, ↓getK_ne, ↓evK_tmp, ↓evK_int, ↓condV_var, ↓gdV_var, ↓opsW_nil, ↓opsW_d, ↓opsW_gd, ↓opW_move, ↓opW_pick, ↓opW_bin, ↓bin_lss, ↓bin_gtr, ↓evs_nil, ↓opW_call, ↓lenS_some, ↓opW_un, ↓un_not, ↓len_26, ↓r3_26_w, ↓s3_27_w, ↓s3_28_w, brK_true, brK_false, ne_eq, Nat.reduceEqDiff, not_false_eq_true, Bool.false_eq_true,  Bool.not_true]))
      exact Ret.ext (v := .bool true) rfl (by simp -dsimp only [↓cw_ret, ↓seqK_normal, ↓seqK_ret, ↓getK_same, ↓evK_tmp, ↓opsW_nil, ↓opsW_d, ↓opW_assign, ↓resK_one])
    repeat' (first | done | with_reducible (first | refine y1 ?_ (by omega) | refine y2 ?_ (by omega) | refine y3 (fun _ => ?_) (fun _ => ?_) | refine y4 ?_ (by omega) (by omega) | refine y5 ?_ (by omega) | refine y6 ?_ (by with_unfolding_all rfl) | refine y7 ?_ (by with_unfolding_all rfl) | refine y8 ?_ (by with_unfolding_all rfl) | refine y9 ?_ (by with_unfolding_all rfl) | refine ya ?_ (by with_unfolding_all rfl)) | (simp -dsimp only [↓cw_skip, ↓cw_cond, ↓seqK_normal, ↓getK_same, ↓getK_ne, ↓evK_tmp, ↓evK_int, ↓condV_var, ↓gdV_var, ↓opsW_nil, ↓opsW_d, ↓opsW_gd, ↓opW_move, ↓opW_pick, ↓opW_bin, ↓bin_lss, ↓bin_gtr, ↓lenS_some, ↓opW_un, ↓un_not, ↓len_26, ↓s3_28_w, brK_true, brK_false, ne_eq, Nat.reduceEqDiff, not_false_eq_true, Bool.false_eq_true,  Bool.not_true]))
    obtain ⟨vs, rfl⟩ := Int.eq_ofNat_of_zero_le (show 0 ≤ vi by omega)
    obtain ⟨m, rfl⟩ := Int.eq_ofNat_of_zero_le (show 0 ≤ n by omega)
    exact lawTail (B := B) (vs := vs) (m := m) ok (by omega) kk2 (by omega) (by omega) (by omega) (ra.ext (XX2.mono hB)) hs hsl hcs cb2 (by simp [T.get_set]) (by simp [T.get_set]) (by simp [T.get_set]) (by simp [T.get_set]) (by simp [T.get_set])
end Go.Proofs.Ytdjnedamphifcaa

