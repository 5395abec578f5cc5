/- What is called on contexts and domains. Conditions, each theorem's own. -/
import Derived.Test.YtdjnedamphifcaaVR
set_option linter.unusedSimpArgs false
set_option linter.unusedVariables false
namespace Go.Proofs.Ytdjnedamphifcaa
open Go.Ev
set_option maxRecDepth 100000
set_option maxHeartbeats 400000
theorem ctxL_head {size : Nat} (h : 1 ≤ size) : ∃ rest, ctxL size = ctxRow 0 ++ rest := by
  induction size with
  | zero => omega
  | succ k ih =>
    by_cases hk : k = 0
    · subst hk; exact ⟨[], rfl⟩
    · obtain ⟨rest, hr⟩ := ih (by omega)
      exact ⟨rest ++ ctxRow k, by rw [ctxL_succ, hr, List.append_assoc]⟩
theorem ctxL_get {size i o : Nat} (hi : i < size) (ho : o < 7) : (ctxL size)[i * 7 + o]? = (ctxRow i)[o]? := by
  induction size with
  | zero => omega
  | succ k ih =>
    rw [ctxL_succ]
    by_cases hk : i < k
    · rw [List.getElem?_append_left (by rw [ctxL_len]; omega), ih hk]
    · have : i = k := by omega
      subst this
      rw [List.getElem?_append_right (by rw [ctxL_len]; omega), ctxL_len]
      congr 1; omega
theorem ctxPut_ret {cb lb size : Nat} {most budget period : Int} {sl : Value} {h : Heap} {K : Value → Heap → Prop} (h1 : 1 ≤ size) (h64 : size ≤ 64) (hsl : ∃ a n c, sl = .slice a n c) (hsv : ∀ k, sameV k sl sl = true)
    (gc : G h cb [.slice (some ⟨lb, 0, none⟩) size UNK, .int .i64 0, .int .i64 most] 134 true) (gl : G h lb (ctxL size) 139 false)
    (hK : ∀ rest h', G h' cb [.slice (some ⟨lb, 0, none⟩) size UNK, .int .i64 0, .int .i64 most] 134 true → G h' lb ([.int .u64 1, .bool true, .int .u64 budget, .int .u64 period, sl, .int .i64 0, .int .i64 (-1)] ++ rest) 139 false → h.n ≤ h'.n → (∀ j, j < h.n → j ≠ lb → h'.b.get j = h.b.get j) → K (.tuple #[.agg ⟨[.int .i64 0, .int .u64 1]⟩, .int .i64 0]) h') :
    Ret env (.func 57) [.pointer (some ⟨cb, 0, none⟩), .agg ⟨[.int .u64 budget, .int .u64 period, sl, .int .i64 0]⟩] h K := by
  obtain ⟨sa, sn, sc, rfl⟩ := hsl
  have n1 := gc.ne gl (.inl (by decide))
  refine F57 rfl ?_
  repeat' (first | done | with_reducible (first | refine y1 ?_ (by omega) | refine y2 ?_ (by omega) | refine y3 (fun _ => ?_) (fun _ => ?_) | refine y4 ?_ (by omega) (by omega) | refine y5 ?_ (by omega) | refine y6 ?_ (by with_unfolding_all rfl) | refine y7 ?_ (by with_unfolding_all rfl) | refine y8 ?_ (by with_unfolding_all rfl) | refine y9 ?_ (by with_unfolding_all rfl) | refine ya ?_ (by with_unfolding_all rfl)) | (simp -dsimp only [↓cw_ops, ↓cw_seq, ↓seqK_normal, ↓getK_same, ↓evK_tmp, ↓evK_int, ↓opsW_nil, ↓opsW_d, ↓opW_assign, ↓setAll_cons, ↓setAll_nil, ↓opW_box, ↓box_agg, ↓al_59, ↓r57_29_w, ↓s57_30_w, ↓r57_31_w, ↓s57_32_w, newBlk_n, Nat.reduceAdd]))
  have q1 := (gc.old (.cells [.int .u64 budget, .int .u64 period, .slice sa sn sc, .int .i64 0] 137 true)).old (.cells [.int .i64 0, .int .u64 0] 59 true)
  have q2 := (gl.old (.cells [.int .u64 budget, .int .u64 period, .slice sa sn sc, .int .i64 0] 137 true)).old (.cells [.int .i64 0, .int .u64 0] 59 true)
  have q4 := (G.new h [.int .u64 budget, .int .u64 period, .slice sa sn sc, .int .i64 0] 137 true).old (.cells [.int .i64 0, .int .u64 0] 59 true)
  have q5 := G.new (newBlk h (.cells [.int .u64 budget, .int .u64 period, .slice sa sn sc, .int .i64 0] 137 true)) [.int .i64 0, .int .u64 0] 59 true
  have X : ExtB h.n h (newBlk (newBlk h (.cells [.int .u64 budget, .int .u64 period, .slice sa sn sc, .int .i64 0] 137 true)) (.cells [.int .i64 0, .int .u64 0] 59 true)) := (ExtB.new _ (Nat.le_refl _)).trans (ExtB.new _ (by simp [newBlk]))
  rw [newBlk_n] at q5
  have hc := gc.1
  have hl := gl.1
  generalize newBlk (newBlk h (.cells [.int .u64 budget, .int .u64 period, .slice sa sn sc, .int .i64 0] 137 true)) (.cells [.int .i64 0, .int .u64 0] 59 true) = h2 at q1 q2 q4 q5 X ⊢
  have c0 := q1.cell (off := 0) rfl
  have d0f : cellAt h2 ⟨lb, 6, none⟩ = some (.int .i64 (-1)) := by
    refine q2.cell ?_
    have := ctxL_get (size := size) (i := 0) (o := 6) (by omega) (by omega)
    rw [Nat.zero_mul, Nat.zero_add] at this
    rw [this]; rfl
  repeat' (first | done | with_reducible (first | refine y1 ?_ (by omega) | refine y2 ?_ (by omega) | refine y3 (fun _ => ?_) (fun _ => ?_) | refine y4 ?_ (by omega) (by omega) | refine y5 ?_ (by omega) | refine y6 ?_ (by with_unfolding_all rfl) | refine y7 ?_ (by with_unfolding_all rfl) | refine y8 ?_ (by with_unfolding_all rfl) | refine y9 ?_ (by with_unfolding_all rfl) | refine ya ?_ (by with_unfolding_all rfl)) | (simp -dsimp only [↓cw_ops, ↓cw_seq, ↓cw_block, ↓seqK_normal, ↓evK_int, ↓opsW_nil, ↓opsW_d, ↓opW_assign, ↓s57_24_w, ↓s57_25_w, ↓r57_26_w, ↓s57_27_w, ↓s57_28_w]))
  refine cw_loopI (fun m fr' h' => h2 = h' ∧ ∃ k : Nat, k ≤ size ∧ m = size - k ∧ fr'.get 7 = some (.int .i64 k) ∧ fr'.get 6 = some (.int .i64 (if k = 0 then -1 else 0))) size ?_ (by omega) ?_
  · exact ⟨rfl, 0, by omega, by omega, by simp [T.get_set], by simp [T.get_set]⟩
  rintro m fr2 h' ⟨rfl, k, hk, rfl, f7, f6⟩ hag
  have e7 := getK_of f7
  have a0 := getK_eq (hag 0 rfl)
  have a3 := getK_eq (hag 3 rfl)
  have a4 := getK_eq (hag 4 rfl)
  by_cases hlt : k < size
  · have dt : cellAt h2 ⟨lb, 0 + k * 7 + 1, none⟩ = some (.bool false) := q2.cell (by rw [Nat.zero_add, ctxL_get hlt (by decide)]; rfl)
    have df : cellAt h2 ⟨lb, 0 + k * 7 + 6, none⟩ = some (.int .i64 (-1 - (k : Int))) := q2.cell (by rw [Nat.zero_add, ctxL_get hlt (by decide)]; rfl)
    by_cases h0 : k = 0
    · rw [if_pos h0] at f6
      have e6 := getK_of f6
      repeat' (first | done | with_reducible (first | refine y1 ?_ (by omega) | refine y2 ?_ (by omega) | refine y3 (fun _ => ?_) (fun _ => ?_) | refine y4 ?_ (by omega) (by omega) | refine y5 ?_ (by omega) | refine y6 ?_ (by with_unfolding_all rfl) | refine y7 ?_ (by with_unfolding_all rfl) | refine y8 ?_ (by with_unfolding_all rfl) | refine y9 ?_ (by with_unfolding_all rfl) | refine ya ?_ (by with_unfolding_all rfl)) | (simp -dsimp only [↓cw_skip, ↓cw_ops, ↓cw_plan, ↓cw_seq, ↓cw_block, ↓cw_cond, ↓seqK_normal, ↓blockK_normal, ↓loopK_normal, ↓getK_same, ↓getK_ne, ↓evK_tmp, ↓evK_int, ↓evK_bool, ↓condV_var, ↓gdV_var, ↓opsW_nil, ↓opsW_d, ↓planW_nil, ↓planW_d, ↓planW_gd, ↓agK_nil, ↓opW_move, ↓opW_assign, ↓opW_pick, ↓opW_bin, ↓bin_add, ↓bin_lss, ↓ld1_some, ↓fldA_some, ↓idxS_some, ↓lenS_some, ↓opW_un, ↓un_not, ↓opW_nilCheck, ↓fa_134_0, ↓ld_132, ↓ia_132, ↓len_132, ↓fa_139_1, ↓ld_4, ↓r57_12_w, ↓s57_13_w, ↓r57_14_w, ↓s57_15_w, ↓s57_16_w, ↓p57_17_w, ↓s57_18_w, ↓s57_19_w, ↓s57_20_w, ↓r57_21_w, ↓s57_22_w, ↓s57_23_w, onV_some', brK_true, brK_false, Nat.le_refl, true_and, ne_eq, Nat.reduceEqDiff, not_false_eq_true, Nat.one_ne_zero, Nat.add_zero, Addr.add_lit, Int.toNat_natCast, Bool.true_eq_false, ↓e7, ↓e6, ↓a0, c0, dt, Bool.not_false]))
      exact ⟨size - (k + 1), by omega, k + 1, by omega, rfl, by simp [T.get_set, wrap_succ (show k ≤ 4611686018427387904 by omega)], by simp [T.get_set, h0]⟩
    · rw [if_neg h0] at f6
      have e6 := getK_of f6
      repeat' (first | done | with_reducible (first | refine y1 ?_ (by omega) | refine y2 ?_ (by omega) | refine y3 (fun _ => ?_) (fun _ => ?_) | refine y4 ?_ (by omega) (by omega) | refine y5 ?_ (by omega) | refine y6 ?_ (by with_unfolding_all rfl) | refine y7 ?_ (by with_unfolding_all rfl) | refine y8 ?_ (by with_unfolding_all rfl) | refine y9 ?_ (by with_unfolding_all rfl) | refine ya ?_ (by with_unfolding_all rfl)) | (simp -dsimp only [↓cw_skip, ↓cw_ops, ↓cw_plan, ↓cw_seq, ↓cw_block, ↓cw_cond, ↓seqK_normal, ↓blockK_normal, ↓loopK_normal, ↓getK_same, ↓getK_ne, ↓evK_tmp, ↓evK_int, ↓condV_var, ↓gdV_var, ↓opsW_nil, ↓opsW_d, ↓planW_nil, ↓planW_d, ↓planW_gd, ↓agK_nil, ↓opW_move, ↓opW_assign, ↓opW_pick, ↓opW_bin, ↓bin_add, ↓bin_lss, ↓bin_gtr, ↓ld1_some, ↓fldA_some, ↓idxS_some, ↓lenS_some, ↓opW_un, ↓un_not, ↓opW_nilCheck, ↓ld_3, ↓fa_134_0, ↓ld_132, ↓ia_132, ↓len_132, ↓fa_139_1, ↓ld_4, ↓fa_139_3, ↓r57_12_w, ↓s57_13_w, ↓s57_16_w, ↓p57_17_w, ↓s57_18_w, ↓s57_19_w, ↓s57_20_w, ↓r57_21_w, ↓s57_22_w, ↓s57_23_w, onV_some', brK_true, brK_false, Nat.le_refl, true_and, ne_eq, Nat.reduceEqDiff, Nat.reduceAdd, not_false_eq_true, Nat.one_ne_zero, Nat.add_zero, Addr.add_lit, Int.toNat_natCast, Int.toNat_zero, Nat.zero_mul, Bool.false_eq_true,  ↓e7, ↓e6, ↓a0, c0, dt, df, d0f, Bool.not_false]))
      exact ⟨size - (k + 1), by omega, k + 1, by omega, rfl, by simp [T.get_set, wrap_succ (show k ≤ 4611686018427387904 by omega)], by simp only [T.get_set]; simpa using f6⟩
  · have e : k = size := by omega
    subst e
    rw [if_neg (by omega)] at f6
    have e6 := getK_of f6
    obtain ⟨rest, hr⟩ := ctxL_head h1
    rw [hr] at q2
    repeat' (first | done | with_reducible (first | refine y1 ?_ (by omega) | refine y2 ?_ (by omega) | refine y3 (fun _ => ?_) (fun _ => ?_) | refine y4 ?_ (by omega) (by omega) | refine y5 ?_ (by omega) | refine y6 ?_ (by with_unfolding_all rfl) | refine y7 ?_ (by with_unfolding_all rfl) | refine y8 ?_ (by with_unfolding_all rfl) | refine y9 ?_ (by with_unfolding_all rfl) | refine ya ?_ (by with_unfolding_all rfl)) | (simp -dsimp only [↓cw_skip, ↓cw_ops, ↓cw_seq, ↓cw_exit, ↓cw_cond, ↓seqK_normal, ↓seqK_exit, ↓blockK_same, ↓loopK_exit, ↓getK_same, ↓getK_ne, ↓evK_tmp, ↓evK_int, ↓evK_bool, ↓condV_var, ↓opsW_nil, ↓opsW_d, ↓opsW_n, ↓opW_move, ↓opW_bin, ↓bin_lss, ↓ld1_some, ↓fldA_some, ↓idxS_some, ↓lenS_some, ↓opW_nilCheck, ↓fa_134_0, ↓ld_132, ↓ia_132, ↓st_4, ↓len_132, ↓fa_139_1, ↓r57_4_w, ↓s57_5_w, ↓s57_8_w, ↓r57_9_w, ↓s57_10_w, ↓s57_11_w, ↓s57_20_w, ↓r57_21_w, ↓s57_22_w, ↓s57_23_w, onV_some', brK_false, ne_eq, Nat.reduceEqDiff, Nat.reduceAdd, not_false_eq_true, Nat.one_ne_zero, Nat.add_zero, Addr.add_lit, Int.toNat_zero, Nat.zero_mul, Bool.false_eq_true,  ↓e7, ↓e6, ↓a0, c0]))
    refine st_G (off := 1) (l := [.bool true]) (cs' := [.int .u64 1, .bool true, .int .u64 0, .int .u64 0, .slice none 0 0, .int .i64 0, .int .i64 (-1)] ++ rest) q2 rfl rfl (over_mid [.bool true] [.int .u64 1] [.bool false] ([.int .u64 0, .int .u64 0, .slice none 0 0, .int .i64 0, .int .i64 (-1)] ++ rest) rfl) rfl (by decide) fun h3 e3 p2 f3 => ?_
    have p1 := q1.same (by omega) (f3 cb (by omega))
    have p4 := q4.same (by omega) (f3 h.n (by omega))
    have p5 := q5.same (by omega) (f3 (h.n + 1) (by omega))
    have c0 := p1.cell (off := 0) rfl
    have cx := p4.cells (n := 4) rfl (by decide)
    have sxx : (sameV 50 (.agg ⟨[.int .u64 budget, .int .u64 period, .slice sa sn sc, .int .i64 0]⟩) (.agg ⟨[.int .u64 budget, .int .u64 period, .slice sa sn sc, .int .i64 0]⟩) = true) = True := by
      refine eq_true ?_
      show sameV.go 49 [_, _, _, _] [_, _, _, _] = true
      simp only [sameV.go, hsv, Bool.and_true]
      simp [sameV]
    repeat' (first | done | with_reducible (first | refine y1 ?_ (by omega) | refine y2 ?_ (by omega) | refine y3 (fun _ => ?_) (fun _ => ?_) | refine y4 ?_ (by omega) (by omega) | refine y5 ?_ (by omega) | refine y6 ?_ (by with_unfolding_all rfl) | refine y7 ?_ (by with_unfolding_all rfl) | refine y8 ?_ (by with_unfolding_all rfl) | refine y9 ?_ (by with_unfolding_all rfl) | refine ya ?_ (by with_unfolding_all rfl)) | (simp -dsimp only [↓cw_plan, ↓cw_seq, ↓seqK_normal, ↓getK_same, ↓getK_ne, ↓evK_tmp, ↓opsW_nil, ↓planW_d, ↓planW_n, ↓agK_nil, ↓opW_move, ↓ld1_some, ↓ldN_some, ↓fldA_some, ↓idxS_some, ↓opW_nilCheck, ↓fa_134_0, ↓ld_132, ↓ia_132, ↓fa_139_2, ↓ld_137, ↓st_137, ↓p57_2_w, ↓s57_3_w, onV_some', Nat.le_refl, true_and, ne_eq, Nat.reduceEqDiff, Nat.reduceAdd, not_false_eq_true, Nat.one_ne_zero, Nat.add_zero, Addr.add_lit, Int.toNat_zero, Nat.zero_mul, ↓e6, ↓a0, ↓a3, c0, cx]))
    refine st_G (off := 2) (l := [.int .u64 budget, .int .u64 period, .slice sa sn sc, .int .i64 0]) (cs' := [.int .u64 1, .bool true, .int .u64 budget, .int .u64 period, .slice sa sn sc, .int .i64 0, .int .i64 (-1)] ++ rest) p2 rfl rfl (over_mid [.int .u64 budget, .int .u64 period, .slice sa sn sc, .int .i64 0] [.int .u64 1, .bool true] [.int .u64 0, .int .u64 0, .slice none 0 0, .int .i64 0] ([.int .i64 (-1)] ++ rest) rfl) rfl (by decide) fun h4 e4 r2 f4 => ?_
    have r1 := p1.same (by omega) (f4 cb (by omega))
    have r5 := p5.same (by omega) (f4 (h.n + 1) (by omega))
    have c0 := r1.cell (off := 0) rfl
    have cg := r2.cell (off := 0) rfl
    refine ⟨by omega, by repeat' (first | done | with_reducible (first | refine y1 ?_ (by omega) | refine y2 ?_ (by omega) | refine y3 (fun _ => ?_) (fun _ => ?_) | refine y4 ?_ (by omega) (by omega) | refine y5 ?_ (by omega) | refine y6 ?_ (by with_unfolding_all rfl) | refine y7 ?_ (by with_unfolding_all rfl) | refine y8 ?_ (by with_unfolding_all rfl) | refine y9 ?_ (by with_unfolding_all rfl) | refine ya ?_ (by with_unfolding_all rfl)) | (simp -dsimp only [↓agK_nil])), ?_⟩
    repeat' (first | done | with_reducible (first | refine y1 ?_ (by omega) | refine y2 ?_ (by omega) | refine y3 (fun _ => ?_) (fun _ => ?_) | refine y4 ?_ (by omega) (by omega) | refine y5 ?_ (by omega) | refine y6 ?_ (by with_unfolding_all rfl) | refine y7 ?_ (by with_unfolding_all rfl) | refine y8 ?_ (by with_unfolding_all rfl) | refine y9 ?_ (by with_unfolding_all rfl) | refine ya ?_ (by with_unfolding_all rfl)) | (simp -dsimp only [↓cw_ops, ↓cw_seq, ↓seqK_normal, ↓getK_same, ↓getK_ne, ↓evK_tmp, ↓opsW_d, ↓opsW_n, ↓planW_nil, ↓opW_move, ↓ld1_some, ↓fldA_some, ↓idxS_some, ↓evp_nil, ↓evp_cons, ↓opW_nilCheck, ↓ld_22, ↓bd_59, ↓st_59, ↓fa_134_0, ↓ld_132, ↓ia_132, ↓fa_139_0, ↓r57_0_w, ↓s57_1_w, onV_some', ne_eq, Nat.reduceEqDiff, not_false_eq_true, Nat.one_ne_zero, Nat.add_zero, Addr.add_lit, Int.toNat_zero, Nat.zero_mul, ↓e6, ↓a0, ↓a4, c0, cg]))
    refine st_G (off := 0) (l := [.int .i64 0, .int .u64 1]) (cs' := [.int .i64 0, .int .u64 1]) r5 rfl rfl rfl rfl (by decide) fun h5 e5 s5 f5 => ?_
    have s1 := r1.same (by omega) (f5 cb (by omega))
    have s2 := r2.same (by omega) (f5 lb (by omega))
    have cr := s5.cells (n := 2) rfl (by decide)
    have XN := X.n
    repeat' (first | done | with_reducible (first | refine y1 ?_ (by omega) | refine y2 ?_ (by omega) | refine y3 (fun _ => ?_) (fun _ => ?_) | refine y4 ?_ (by omega) (by omega) | refine y5 ?_ (by omega) | refine y6 ?_ (by with_unfolding_all rfl) | refine y7 ?_ (by with_unfolding_all rfl) | refine y8 ?_ (by with_unfolding_all rfl) | refine y9 ?_ (by with_unfolding_all rfl) | refine ya ?_ (by with_unfolding_all rfl)) | (simp -dsimp only [↓cw_ret, ↓seqK_normal, ↓getK_same, ↓getK_ne, ↓evK_int, ↓opsW_nil, ↓opsW_d, ↓opW_assign, ↓ldN_some, ↓resK_ct, ↓agl_59, onV_some', ne_eq, Nat.reduceEqDiff, not_false_eq_true, ↓a4, cr]))
    exact hK rest h5 s1 s2 (by omega) fun j hj j1 => by rw [f5 j (by omega), f4 j (by omega), f3 j (by omega), X.get j hj]
end Go.Proofs.Ytdjnedamphifcaa

namespace Go.Proofs.Ytdjnedamphifcaa
open Go.Ev
set_option maxRecDepth 100000
set_option maxHeartbeats 400000
theorem ctxMake_ret {cb lb size : Nat} {most budget period : Int} {h : Heap} {K : Value → Heap → Prop} (h1 : 1 ≤ size) (h64 : size ≤ 64) (hb : 1 ≤ budget ∧ budget ≤ 4294967296) (hp : 1 ≤ period ∧ period ≤ 4294967296)
    (gc : G h cb [.slice (some ⟨lb, 0, none⟩) size UNK, .int .i64 0, .int .i64 most] 134 true) (gl : G h lb (ctxL size) 139 false)
    (hK : ∀ v sl rest h', G h' cb [.slice (some ⟨lb, 0, none⟩) size UNK, .int .i64 0, .int .i64 most] 134 true → G h' lb ([.int .u64 1, .bool true, .int .u64 budget, .int .u64 period, sl, .int .i64 0, .int .i64 (-1)] ++ rest) 139 false → h.n ≤ h'.n → (∀ j, j < h.n → j ≠ lb → h'.b.get j = h.b.get j) → K v h') :
    Ret env (.func 32) [.pointer (some ⟨cb, 0, none⟩), .int .u64 budget, .int .u64 period, .int .u64 0] h K := by
  obtain ⟨b1, b2⟩ := hb
  obtain ⟨p1, p2⟩ := hp
  refine F32 rfl ?_
  repeat' (first | done | with_reducible (first | refine y1 ?_ (by omega) | refine y2 ?_ (by omega) | refine y3 (fun _ => ?_) (fun _ => ?_) | refine y4 ?_ (by omega) (by omega) | refine y5 ?_ (by omega) | refine y6 ?_ (by with_unfolding_all rfl) | refine y7 ?_ (by with_unfolding_all rfl) | refine y8 ?_ (by with_unfolding_all rfl) | refine y9 ?_ (by with_unfolding_all rfl) | refine ya ?_ (by with_unfolding_all rfl)) | (simp -dsimp only [↓cw_skip, ↓cw_ops, ↓cw_seq, ↓cw_cond, ↓seqK_normal, ↓getK_same, ↓getK_ne, ↓evK_tmp, ↓evK_int, ↓condV_var, ↓gdV_var, ↓opsW_nil, ↓opsW_d, ↓opsW_gd, ↓opW_move, ↓opW_assign, ↓opW_pick, ↓opW_bin, ↓bin_lss, ↓bin_gtr, ↓evs_nil, ↓evs_cons, ↓opW_call, ↓setAll_cons, ↓setAll_nil, ↓evp_nil, ↓evp_cons, ↓al_59, ↓bd_157, ↓bsl_135_1, ↓bd_137, ↓r32_0_w, ↓s32_1_w, ↓s32_4_w, ↓r32_5_w, ↓s32_6_w, ↓s32_7_w, ↓r32_8_w, ↓s32_9_w, newBlk_n, brK_true, brK_false, ne_eq, Nat.reduceEqDiff, Nat.reduceAdd, not_false_eq_true, Nat.one_ne_zero, Bool.false_eq_true]))
  have q1 := (gc.old (.cells [.int .i64 0, .int .u64 0] 59 true)).old (.cells [.int .u64 budget, .int .u64 0] 157 true)
  have q2 := (gl.old (.cells [.int .i64 0, .int .u64 0] 59 true)).old (.cells [.int .u64 budget, .int .u64 0] 157 true)
  have q3 := (G.new h [.int .i64 0, .int .u64 0] 59 true).old (.cells [.int .u64 budget, .int .u64 0] 157 true)
  have X : ExtB h.n h (newBlk (newBlk h (.cells [.int .i64 0, .int .u64 0] 59 true)) (.cells [.int .u64 budget, .int .u64 0] 157 true)) := (ExtB.new _ (Nat.le_refl _)).trans (ExtB.new _ (by simp [newBlk]))
  have XN := X.n
  have hl := gl.1
  refine ctxPut_ret h1 h64 ⟨_, _, _, rfl⟩ (fun k => by cases k <;> simp [sameV]) q1 q2 fun rest h2 p1 p2 n2 f2 => ?_
  have r3 := q3.same n2 (f2 _ q3.1 (by omega))
  have hn2 : h.n ≤ h2.n := Nat.le_trans XN n2
  have F2 : ∀ j, j < h.n → j ≠ lb → h2.b.get j = h.b.get j := fun j hj j1 => (f2 j (Nat.lt_of_lt_of_le hj XN) j1).trans (X.get j hj)
  clear f2 n2
  have hc := p1.1
  repeat' (first | done | with_reducible (first | refine y1 ?_ (by omega) | refine y2 ?_ (by omega) | refine y3 (fun _ => ?_) (fun _ => ?_) | refine y4 ?_ (by omega) (by omega) | refine y5 ?_ (by omega) | refine y6 ?_ (by with_unfolding_all rfl) | refine y7 ?_ (by with_unfolding_all rfl) | refine y8 ?_ (by with_unfolding_all rfl) | refine y9 ?_ (by with_unfolding_all rfl) | refine ya ?_ (by with_unfolding_all rfl)) | (simp -dsimp only [↓getK_same, ↓getK_ne, ↓evK_tmp, ↓opsW_d, ↓opsW_n, ↓opW_extract, ↓ext_tuple, ↓st_59, List.getElem?_cons_zero, List.getElem?_cons_succ, onV_some', ne_eq, Nat.reduceEqDiff, not_false_eq_true]))
  refine st_G (off := 0) (l := [.int .i64 0, .int .u64 1]) (cs' := [.int .i64 0, .int .u64 1]) r3 rfl rfl rfl rfl (by decide) fun h3 e3 s3 f3 => ?_
  have s1 := p1.same (by omega) (f3 cb (by have := gc.1; omega))
  have s2 := p2.same (by omega) (f3 lb (by omega))
  have cr := s3.cells (n := 2) rfl (by decide)
  repeat' (first | done | with_reducible (first | refine y1 ?_ (by omega) | refine y2 ?_ (by omega) | refine y3 (fun _ => ?_) (fun _ => ?_) | refine y4 ?_ (by omega) (by omega) | refine y5 ?_ (by omega) | refine y6 ?_ (by with_unfolding_all rfl) | refine y7 ?_ (by with_unfolding_all rfl) | refine y8 ?_ (by with_unfolding_all rfl) | refine y9 ?_ (by with_unfolding_all rfl) | refine ya ?_ (by with_unfolding_all rfl)) | (simp -dsimp only [↓cw_ret, ↓seqK_normal, ↓getK_same, ↓getK_ne, ↓evK_tmp, ↓opsW_nil, ↓opsW_d, ↓opW_assign, ↓ldN_some, ↓resK_ct, ↓agl_59, onV_some', ne_eq, Nat.reduceEqDiff, not_false_eq_true, cr]))
  exact hK _ _ rest h3 s1 s2 (by omega) fun j hj j1 => by rw [f3 j (by omega), F2 j hj j1]
theorem ctxIs_ret {cb lb size : Nat} {most : Int} {l : List Value} {h : Heap} {K : Value → Heap → Prop} (h1 : 1 ≤ size)
    (gc : G h cb [.slice (some ⟨lb, 0, none⟩) size UNK, .int .i64 0, .int .i64 most] 134 true) (gl : G h lb l 139 false) (l0 : l[0]? = some (.int .u64 1)) (l1 : l[1]? = some (.bool true))
    (hK : ∀ h', ExtB h.n h h' → K (.bool true) h') : Ret env (.func 60) [.pointer (some ⟨cb, 0, none⟩), .agg ⟨[.int .i64 0, .int .u64 1]⟩] h K := by
  refine F60 rfl ?_
  repeat' (first | done | with_reducible (first | refine y1 ?_ (by omega) | refine y2 ?_ (by omega) | refine y3 (fun _ => ?_) (fun _ => ?_) | refine y4 ?_ (by omega) (by omega) | refine y5 ?_ (by omega) | refine y6 ?_ (by with_unfolding_all rfl) | refine y7 ?_ (by with_unfolding_all rfl) | refine y8 ?_ (by with_unfolding_all rfl) | refine y9 ?_ (by with_unfolding_all rfl) | refine ya ?_ (by with_unfolding_all rfl)) | (simp -dsimp only [↓cw_ops, ↓cw_plan, ↓cw_seq, ↓seqK_normal, ↓getK_same, ↓getK_ne, ↓evK_tmp, ↓evK_int, ↓evK_bool, ↓gdV_var, ↓opsW_nil, ↓opsW_d, ↓planW_d, ↓planW_gd, ↓agK_nil, ↓opW_move, ↓opW_assign, ↓opW_bin, ↓bin_geq, ↓ld1_some, ↓fldA_some, ↓setAll_cons, ↓setAll_nil, ↓opW_box, ↓box_agg, ↓opW_nilCheck, ↓ld_3, ↓fa_134_0, ↓ld_132, ↓fa_59_0, ↓p60_0_w, ↓s60_1_w, ↓r60_2_w, ↓s60_3_w, cellAt_newE, newBlk_n, List.getElem?_cons_zero, onV_some', brK_true, Nat.le_refl, true_and, ne_eq, Nat.reduceEqDiff, Nat.reduceAdd, not_false_eq_true, Nat.one_ne_zero, Nat.add_zero, Addr.add_lit]))
  have q1 := gc.old (.cells [.int .i64 0, .int .u64 1] 59 true)
  have q2 := gl.old (.cells [.int .i64 0, .int .u64 1] 59 true)
  have q3 := G.new h [.int .i64 0, .int .u64 1] 59 true
  have X : ExtB h.n h (newBlk h (.cells [.int .i64 0, .int .u64 1] 59 true)) := ExtB.new _ (Nat.le_refl _)
  generalize newBlk h (.cells [.int .i64 0, .int .u64 1] 59 true) = h2 at q1 q2 q3 X ⊢
  have c0 := q1.cell (off := 0) rfl
  have d0 := q2.cell (off := 0) l0
  have d1 := q2.cell (off := 1) l1
  have r0 := q3.cell (off := 0) rfl
  have r1 := q3.cell (off := 1) rfl
  have ss : (sameV 50 (.slice (some ⟨lb, 0, none⟩) size UNK) (.slice (some ⟨lb, 0, none⟩) size UNK) = true) = True := by simp [sameV]
  have sb : ∀ b, (sameV 50 (.bool b) (.bool b) = true) = True := fun b => by simp [sameV]
  repeat' (first | done | with_reducible (first | refine y1 ?_ (by omega) | refine y2 ?_ (by omega) | refine y3 (fun _ => ?_) (fun _ => ?_) | refine y4 ?_ (by omega) (by omega) | refine y5 ?_ (by omega) | refine y6 ?_ (by with_unfolding_all rfl) | refine y7 ?_ (by with_unfolding_all rfl) | refine y8 ?_ (by with_unfolding_all rfl) | refine y9 ?_ (by with_unfolding_all rfl) | refine ya ?_ (by with_unfolding_all rfl)) | (simp -dsimp only [↓cw_ret, ↓seqK_normal, ↓getK_same, ↓getK_ne, ↓evK_tmp, ↓condV_var, ↓gdV_var, ↓planW_nil, ↓planW_d, ↓planW_gd, ↓agK_nil, ↓opW_move, ↓opW_assign, ↓opW_pick, ↓opW_bin, ↓bin_eql, ↓bin_lss, ↓ld1_some, ↓fldA_some, ↓idxS_some, ↓lenS_some, ↓resK_one, ↓setAll_cons, ↓setAll_nil, ↓opW_nilCheck, ↓ld_3, ↓ld_22, ↓fa_134_0, ↓ld_132, ↓fa_59_0, ↓ia_132, ↓len_132, ↓fa_139_1, ↓ld_4, ↓fa_139_0, ↓fa_59_1, onV_some', brK_true, Nat.le_refl, true_and, ne_eq, Nat.reduceEqDiff, Nat.reduceAdd, not_false_eq_true, Nat.one_ne_zero, Nat.add_zero, Addr.add_lit, Int.toNat_zero, Nat.zero_mul, c0, d0, d1, r0, r1]))
  exact hK h2 X
theorem ctxBind_ret {cb lb size : Nat} {most : Int} {l : List Value} {x0 x1 x2 : Value} {h : Heap} {K : Value → Heap → Prop} (h1 : 1 ≤ size)
    (gc : G h cb [.slice (some ⟨lb, 0, none⟩) size UNK, .int .i64 0, .int .i64 most] 134 true) (gl : G h lb ([.int .u64 1, .bool true, x0, x1, x2, .int .i64 0, .int .i64 (-1)] ++ l) 139 false)
    (hK : ∀ v h', h.n ≤ h'.n → (∀ j, j < h.n → j ≠ lb → h'.b.get j = h.b.get j) → K v h') : Ret env (.func 34) [.pointer (some ⟨cb, 0, none⟩), .agg ⟨[.int .i64 0, .int .u64 1]⟩, .int .i64 1] h K := by
  refine F34 rfl ?_
  repeat' (first | done | with_reducible (first | refine y1 ?_ (by omega) | refine y2 ?_ (by omega) | refine y3 (fun _ => ?_) (fun _ => ?_) | refine y4 ?_ (by omega) (by omega) | refine y5 ?_ (by omega) | refine y6 ?_ (by with_unfolding_all rfl) | refine y7 ?_ (by with_unfolding_all rfl) | refine y8 ?_ (by with_unfolding_all rfl) | refine y9 ?_ (by with_unfolding_all rfl) | refine ya ?_ (by with_unfolding_all rfl)) | (simp -dsimp only [↓cw_ops, ↓cw_seq, ↓seqK_normal, ↓getK_same, ↓getK_ne, ↓evK_tmp, ↓evK_int, ↓opsW_nil, ↓opsW_d, ↓opW_move, ↓opW_assign, ↓ldN_some, ↓evs_nil, ↓evs_cons, ↓opW_call, ↓setAll_cons, ↓setAll_nil, ↓opW_box, ↓box_agg, ↓ld_59, ↓r34_13_w, ↓s34_14_w, ↓s34_15_w, ↓r34_16_w, ↓s34_17_w, cellsAt_newE, List.length_cons, List.length_nil, onV_some', ne_eq, Nat.reduceEqDiff, Nat.reduceAdd, not_false_eq_true, Nat.one_ne_zero]))
  have q1 := gc.old (.cells [.int .i64 0, .int .u64 1] 59 true)
  have q2 := gl.old (.cells [.int .i64 0, .int .u64 1] 59 true)
  have q3 := G.new h [.int .i64 0, .int .u64 1] 59 true
  have X : ExtB h.n h (newBlk h (.cells [.int .i64 0, .int .u64 1] 59 true)) := ExtB.new _ (Nat.le_refl _)
  have XN := X.n
  have n1 := gc.ne gl (.inl (by decide))
  have hc := gc.1
  have hl := gl.1
  refine ctxIs_ret h1 q1 q2 rfl rfl fun h2 xx => ?_
  have p1 := q1.ext xx q1.1
  have p2 := q2.ext xx q2.1
  have p3 := q3.ext xx q3.1
  have hn2 : h.n ≤ h2.n := Nat.le_trans XN xx.n
  have c0 := p1.cell (off := 0) rfl
  have c5 := p2.cell (off := 5) rfl
  have cr := p3.cell (off := 0) rfl
  have w1 : IntKind.wrap .i64 (0 + 1) = 1 := rfl
  repeat' (first | done | with_reducible (first | refine y1 ?_ (by omega) | refine y2 ?_ (by omega) | refine y3 (fun _ => ?_) (fun _ => ?_) | refine y4 ?_ (by omega) (by omega) | refine y5 ?_ (by omega) | refine y6 ?_ (by with_unfolding_all rfl) | refine y7 ?_ (by with_unfolding_all rfl) | refine y8 ?_ (by with_unfolding_all rfl) | refine y9 ?_ (by with_unfolding_all rfl) | refine ya ?_ (by with_unfolding_all rfl)) | (simp -dsimp only [↓cw_skip, ↓cw_plan, ↓cw_seq, ↓cw_cond, ↓seqK_normal, ↓getK_same, ↓getK_ne, ↓evK_tmp, ↓evK_int, ↓condV_var, ↓opsW_nil, ↓opsW_d, ↓planW_nil, ↓planW_d, ↓planW_n, ↓agK_nil, ↓opW_move, ↓opW_bin, ↓bin_add, ↓bin_lss, ↓ld1_some, ↓fldA_some, ↓idxS_some, ↓setAll_cons, ↓setAll_nil, ↓opW_un, ↓un_not, ↓opW_nilCheck, ↓ld_3, ↓fa_134_0, ↓ld_132, ↓fa_59_0, ↓st_3, ↓ia_132, ↓fa_139_2, ↓fa_137_3, ↓p34_2_w, ↓s34_3_w, ↓s34_6_w, ↓p34_7_w, ↓s34_8_w, ↓s34_9_w, ↓s34_12_w, onV_some', brK_false, Nat.le_refl, true_and, ne_eq, Nat.reduceEqDiff, Nat.reduceAdd, not_false_eq_true, Nat.one_ne_zero, Nat.add_zero, Addr.add_lit, Int.toNat_zero, Nat.zero_mul, Bool.false_eq_true,  c0, c5, cr, w1, Bool.not_true]))
  refine st_G (off := 5) (l := [.int .i64 1]) (cs' := [.int .u64 1, .bool true, x0, x1, x2, .int .i64 1, .int .i64 (-1)] ++ l) p2 rfl rfl (over_mid [.int .i64 1] [.int .u64 1, .bool true, x0, x1, x2] [.int .i64 0] ([.int .i64 (-1)] ++ l) rfl) rfl (by decide) fun h3 e3 r2 f3 => ?_
  refine ⟨by omega, by repeat' (first | done | with_reducible (first | refine y1 ?_ (by omega) | refine y2 ?_ (by omega) | refine y3 (fun _ => ?_) (fun _ => ?_) | refine y4 ?_ (by omega) (by omega) | refine y5 ?_ (by omega) | refine y6 ?_ (by with_unfolding_all rfl) | refine y7 ?_ (by with_unfolding_all rfl) | refine y8 ?_ (by with_unfolding_all rfl) | refine y9 ?_ (by with_unfolding_all rfl) | refine ya ?_ (by with_unfolding_all rfl)) | (simp -dsimp only [↓agK_nil])), ?_⟩
  repeat' (first | done | with_reducible (first | refine y1 ?_ (by omega) | refine y2 ?_ (by omega) | refine y3 (fun _ => ?_) (fun _ => ?_) | refine y4 ?_ (by omega) (by omega) | refine y5 ?_ (by omega) | refine y6 ?_ (by with_unfolding_all rfl) | refine y7 ?_ (by with_unfolding_all rfl) | refine y8 ?_ (by with_unfolding_all rfl) | refine y9 ?_ (by with_unfolding_all rfl) | refine ya ?_ (by with_unfolding_all rfl)) | (simp -dsimp only [↓cw_ops, ↓cw_seq, ↓cw_ret, ↓seqK_normal, ↓getK_same, ↓evK_int, ↓opsW_nil, ↓opsW_d, ↓planW_nil, ↓opW_assign, ↓resK_one, ↓r34_0_w, ↓s34_1_w]))
  exact hK _ h3 (by omega) fun j hj j1 => (f3 j j1).trans ((xx.get j (Nat.lt_of_lt_of_le hj XN)).trans (X.get j hj))
end Go.Proofs.Ytdjnedamphifcaa

namespace Go.Proofs.Ytdjnedamphifcaa
open Go.Ev
set_option maxRecDepth 100000
set_option maxHeartbeats 400000
def rootC (gs cpu period : Int) : List Value := [.int .u64 1, .bool true, .int .i64 gs, .int .u64 cpu, .int .u64 period, .int .i64 0, .int .u64 0, .int .i64 0, .int .u64 0]
theorem many_get {n i o : Nat} {r : List Value} {s : Nat} (hs : r.length = s) (hi : i < n) (ho : o < s) : (many n r)[i * s + o]? = r[o]? := by
  induction n with
  | zero => omega
  | succ n ih =>
    rw [many_succ]
    by_cases hin : i < n
    · rw [List.getElem?_append_left (by
        rw [many_len, hs]
        have : (i + 1) * s ≤ n * s := Nat.mul_le_mul_right _ hin
        rw [Nat.add_mul] at this; omega), ih hin]
    · have : i = n := by omega
      subst this
      rw [List.getElem?_append_right (by rw [many_len, hs]; omega), many_len, hs]
      congr 1; omega
/-- domains, of which the root alone is there -/
structure DomO (h : Heap) (db sb size : Nat) (gs cpu period : Int) (vF : Value) : Prop where
  d : G h db [.slice (some ⟨sb, 0, none⟩) size size, vF] 142 true
  s : G h sb (rootC gs cpu period ++ many (size - 1) dom1) 144 true
  one : 1 ≤ size
  few : size ≤ 64
theorem DomO.ext {B : Nat} {h h' : Heap} {db sb size : Nat} {gs cpu period : Int} {vF : Value} (x : DomO h db sb size gs cpu period vF) (e : ExtB B h h') (h1 : db < B) (h2 : sb < B) : DomO h' db sb size gs cpu period vF := ⟨x.d.ext e h1, x.s.ext e h2, x.one, x.few⟩
theorem DomO.c0 {h : Heap} {db sb size : Nat} {gs cpu period : Int} {vF : Value} (x : DomO h db sb size gs cpu period vF) : cellAt h ⟨db, 0, none⟩ = some (.slice (some ⟨sb, 0, none⟩) size size) := x.d.cell rfl
theorem DomO.r {h : Heap} {db sb size : Nat} {gs cpu period : Int} {vF : Value} (x : DomO h db sb size gs cpu period vF) {o : Nat} {v : Value} (hv : (rootC gs cpu period)[o]? = some v) : cellAt h ⟨sb, o, none⟩ = some v :=
  x.s.cell (by rw [List.getElem?_append_left (List.getElem?_eq_some_iff.1 hv).1]; exact hv)
theorem DomO.o {h : Heap} {db sb size : Nat} {gs cpu period : Int} {vF : Value} (x : DomO h db sb size gs cpu period vF) {i o : Nat} {v : Value} (hi : i < size) (h0 : i ≠ 0) (hv : dom1[o]? = some v) : cellAt h ⟨sb, 0 + i * 9 + o, none⟩ = some v := by
  refine x.s.cell ?_
  have ho : o < 9 := (List.getElem?_eq_some_iff.1 hv).1
  obtain ⟨j, rfl⟩ : ∃ j, i = j + 1 := ⟨i - 1, by omega⟩
  rw [List.getElem?_append_right (by simp [rootC]; omega), show 0 + (j + 1) * 9 + o - (rootC gs cpu period).length = j * 9 + o by simp [rootC]; omega, many_get (s := 9) rfl (by omega) ho, hv]
theorem DomO.par {h : Heap} {db sb size : Nat} {gs cpu period : Int} {vF : Value} (x : DomO h db sb size gs cpu period vF) : cellsAt h ⟨sb, 5, none⟩ 2 = some [.int .i64 0, .int .u64 0] := x.s.part (l := [.int .i64 0, .int .u64 0]) (by simp) fun o v hv => by
  rw [List.getElem?_append_left (by have := (List.getElem?_eq_some_iff.1 hv).1; simp at this; simp [rootC]; omega)]
  match o, hv with
  | 0, hv => exact hv
  | 1, hv => exact hv
section
variable {h : Heap} {K : Value → Heap → Prop} {db sb size : Nat} {gs cpu period : Int} {vF : Value}
theorem same_bool {b : Bool} : (sameV 50 (.bool b) (.bool b) = true) = True := by simp [sameV]
theorem domIs_ret {g : Int} (x : DomO h db sb size gs cpu period vF) (hK : ∀ h', ExtB h.n h h' → K (.bool (decide (g = 1))) h') : Ret env (.func 58) [.pointer (some ⟨db, 0, none⟩), .agg ⟨[.int .i64 0, .int .u64 g]⟩] h K := by
  refine F58 rfl ?_
  repeat' (first | done | with_reducible (first | refine y1 ?_ (by omega) | refine y2 ?_ (by omega) | refine y3 (fun _ => ?_) (fun _ => ?_) | refine y4 ?_ (by omega) (by omega) | refine y5 ?_ (by omega) | refine y6 ?_ (by with_unfolding_all rfl) | refine y7 ?_ (by with_unfolding_all rfl) | refine y8 ?_ (by with_unfolding_all rfl) | refine y9 ?_ (by with_unfolding_all rfl) | refine ya ?_ (by with_unfolding_all rfl)) | (simp -dsimp only [↓cw_ops, ↓cw_plan, ↓cw_seq, ↓seqK_normal, ↓getK_same, ↓getK_ne, ↓evK_tmp, ↓evK_int, ↓evK_bool, ↓gdV_var, ↓opsW_nil, ↓opsW_d, ↓planW_d, ↓planW_gd, ↓agK_nil, ↓opW_move, ↓opW_assign, ↓opW_bin, ↓bin_geq, ↓ld1_some, ↓fldA_some, ↓setAll_cons, ↓setAll_nil, ↓opW_box, ↓box_agg, ↓opW_nilCheck, ↓ld_3, ↓fa_142_0, ↓ld_140, ↓fa_59_0, ↓p58_0_w, ↓s58_1_w, ↓r58_2_w, ↓s58_3_w, cellAt_newE, newBlk_n, List.getElem?_cons_zero, onV_some', brK_true, Nat.le_refl, true_and, ne_eq, Nat.reduceEqDiff, Nat.reduceAdd, not_false_eq_true, Nat.one_ne_zero, Nat.add_zero, Addr.add_lit]))
  have X : ExtB h.n h (newBlk h (.cells [.int .i64 0, .int .u64 g] 59 true)) := ExtB.new _ (Nat.le_refl _)
  have q3 := G.new h [.int .i64 0, .int .u64 g] 59 true
  have x2 := x.ext X x.d.1 x.s.1
  generalize newBlk h (.cells [.int .i64 0, .int .u64 g] 59 true) = h2 at q3 X x2 ⊢
  have c0 := x2.c0
  have d0 := x2.r (o := 0) rfl
  have d1 := x2.r (o := 1) rfl
  have r0 := q3.cell (off := 0) rfl
  have r1 := q3.cell (off := 1) rfl
  have one := x.one
  have ss : (sameV 50 (.slice (some ⟨sb, 0, none⟩) size size) (.slice (some ⟨sb, 0, none⟩) size size) = true) = True := by simp [sameV]
  by_cases hg : g = 1
  · rw [decide_eq_true hg] at hK
    repeat' (first | done | with_reducible (first | refine y1 ?_ (by omega) | refine y2 ?_ (by omega) | refine y3 (fun _ => ?_) (fun _ => ?_) | refine y4 ?_ (by omega) (by omega) | refine y5 ?_ (by omega) | refine y6 ?_ (by with_unfolding_all rfl) | refine y7 ?_ (by with_unfolding_all rfl) | refine y8 ?_ (by with_unfolding_all rfl) | refine y9 ?_ (by with_unfolding_all rfl) | refine ya ?_ (by with_unfolding_all rfl)) | (simp -dsimp only [↓cw_ret, ↓seqK_normal, ↓getK_same, ↓getK_ne, ↓evK_tmp, ↓condV_var, ↓gdV_var, ↓planW_nil, ↓planW_d, ↓planW_gd, ↓agK_nil, ↓opW_move, ↓opW_assign, ↓opW_pick, ↓opW_bin, ↓bin_eql, ↓bin_lss, ↓ld1_some, ↓fldA_some, ↓idxS_some, ↓lenS_some, ↓resK_one, ↓setAll_cons, ↓setAll_nil, ↓opW_nilCheck, ↓ld_3, ↓ld_22, ↓fa_142_0, ↓ld_140, ↓ia_140, ↓fa_144_0, ↓fa_59_0, ↓fa_144_1, ↓ld_4, ↓len_140, ↓fa_59_1, onV_some', brK_true, Nat.le_refl, true_and, ne_eq, Nat.reduceEqDiff, Nat.reduceAdd, not_false_eq_true, Nat.one_ne_zero, Nat.add_zero, Addr.add_lit, Int.toNat_zero, Nat.zero_mul, c0, d0, d1, r0, r1]))
    exact hK h2 X
  · rw [decide_eq_false hg] at hK
    repeat' (first | done | with_reducible (first | refine y1 ?_ (by omega) | refine y2 ?_ (by omega) | refine y3 (fun _ => ?_) (fun _ => ?_) | refine y4 ?_ (by omega) (by omega) | refine y5 ?_ (by omega) | refine y6 ?_ (by with_unfolding_all rfl) | refine y7 ?_ (by with_unfolding_all rfl) | refine y8 ?_ (by with_unfolding_all rfl) | refine y9 ?_ (by with_unfolding_all rfl) | refine ya ?_ (by with_unfolding_all rfl)) | (simp -dsimp only [↓cw_ret, ↓seqK_normal, ↓getK_same, ↓getK_ne, ↓evK_tmp, ↓condV_var, ↓gdV_var, ↓planW_nil, ↓planW_d, ↓planW_gd, ↓agK_nil, ↓opW_move, ↓opW_assign, ↓opW_pick, ↓opW_bin, ↓bin_eql, ↓bin_lss, ↓ld1_some, ↓fldA_some, ↓idxS_some, ↓lenS_some, ↓resK_one, ↓setAll_cons, ↓setAll_nil, ↓opW_nilCheck, ↓ld_3, ↓ld_22, ↓fa_142_0, ↓ld_140, ↓ia_140, ↓fa_144_0, ↓fa_59_0, ↓fa_144_1, ↓ld_4, ↓len_140, ↓fa_59_1, onV_some', brK_true, Nat.le_refl, true_and, ne_eq, Nat.reduceEqDiff, Nat.reduceAdd, not_false_eq_true, Nat.one_ne_zero, Nat.add_zero, Addr.add_lit, Int.toNat_zero, Nat.zero_mul, c0, d0, d1, r0, r1]))
    exact hK h2 X
theorem children_ret (x : DomO h db sb size gs cpu period vF) (hK : ∀ h', ExtB h.n h h' → K (.slice none 0 0) h') : Ret env (.func 72) [.pointer (some ⟨db, 0, none⟩), .agg ⟨[.int .i64 0, .int .u64 1]⟩] h K := by
  have few := x.few
  refine F72 rfl ?_
  repeat' (first | done | with_reducible (first | refine y1 ?_ (by omega) | refine y2 ?_ (by omega) | refine y3 (fun _ => ?_) (fun _ => ?_) | refine y4 ?_ (by omega) (by omega) | refine y5 ?_ (by omega) | refine y6 ?_ (by with_unfolding_all rfl) | refine y7 ?_ (by with_unfolding_all rfl) | refine y8 ?_ (by with_unfolding_all rfl) | refine y9 ?_ (by with_unfolding_all rfl) | refine ya ?_ (by with_unfolding_all rfl)) | (simp -dsimp only [↓cw_ops, ↓cw_seq, ↓cw_block, ↓seqK_normal, ↓getK_same, ↓evK_tmp, ↓evK_int, ↓evK_nilslice, ↓opsW_nil, ↓opsW_d, ↓opW_assign, ↓setAll_cons, ↓setAll_nil, ↓opW_box, ↓box_agg, ↓s72_14_w, ↓s72_15_w, ↓r72_16_w, ↓s72_17_w, ↓s72_18_w, ↓r72_19_w, ↓s72_20_w, ↓r72_21_w, ↓s72_22_w, Nat.reduceAdd]))
  have X : ExtB h.n h (newBlk h (.cells [.int .i64 0, .int .u64 1] 59 true)) := ExtB.new _ (Nat.le_refl _)
  have q3 := G.new h [.int .i64 0, .int .u64 1] 59 true
  have x2 := x.ext X x.d.1 x.s.1
  generalize newBlk h (.cells [.int .i64 0, .int .u64 1] 59 true) = h2 at q3 X x2 ⊢
  have c0 := x2.c0
  refine cw_loopI (fun m fr' h' => h2 = h' ∧ ∃ k : Nat, k ≤ size ∧ m = size - k ∧ fr'.get 6 = some (.int .i64 k) ∧ fr'.get 5 = some (.slice none 0 0)) size ?_ (by omega) ?_
  · exact ⟨rfl, 0, by omega, by omega, by simp [T.get_set], by simp [T.get_set]⟩
  rintro m fr2 h' ⟨rfl, k, hk, rfl, f6, f5⟩ hag
  have e6 := getK_of f6
  have e5 := getK_of f5
  have a0 := getK_eq (hag 0 rfl)
  have a3 := getK_eq (hag 3 rfl)
  have ss : (sameV 50 (.slice (some ⟨sb, 0, none⟩) size size) (.slice (some ⟨sb, 0, none⟩) size size) = true) = True := by simp [sameV]
  by_cases hlt : k < size
  · by_cases h0 : k = 0
    · subst h0
      have d1 := x2.r (o := 1) rfl
      have dp : cellsAt h2 ⟨sb, 5, none⟩ 2 = some [.int .i64 0, .int .u64 0] := x2.s.part (l := [.int .i64 0, .int .u64 0]) (by simp) fun o v hv => by
        rw [List.getElem?_append_left (by have := (List.getElem?_eq_some_iff.1 hv).1; simp at this; simp [rootC]; omega)]
        match o, hv with
        | 0, hv => exact hv
        | 1, hv => exact hv
      have dr := q3.cells (n := 2) rfl (by decide)
      have sr : ∀ a b, (sameV 50 (.agg ⟨[.int .i64 a, .int .u64 b]⟩) (.agg ⟨[.int .i64 a, .int .u64 b]⟩) = true) = True := fun a b => by simp [sameV, sameV.go]
      repeat' (first | done | with_reducible (first | refine y1 ?_ (by omega) | refine y2 ?_ (by omega) | refine y3 (fun _ => ?_) (fun _ => ?_) | refine y4 ?_ (by omega) (by omega) | refine y5 ?_ (by omega) | refine y6 ?_ (by with_unfolding_all rfl) | refine y7 ?_ (by with_unfolding_all rfl) | refine y8 ?_ (by with_unfolding_all rfl) | refine y9 ?_ (by with_unfolding_all rfl) | refine ya ?_ (by with_unfolding_all rfl)) | (simp -dsimp only [↓cw_skip, ↓cw_ops, ↓cw_plan, ↓cw_seq, ↓cw_block, ↓cw_cond, ↓seqK_normal, ↓blockK_normal, ↓loopK_normal, ↓getK_same, ↓getK_ne, ↓evK_tmp, ↓evK_int, ↓condV_var, ↓gdV_var, ↓opsW_nil, ↓opsW_d, ↓planW_nil, ↓planW_d, ↓planW_gd, ↓agK_nil, ↓opW_move, ↓opW_assign, ↓opW_pick, ↓opW_bin, ↓bin_add, ↓bin_lss, ↓ld1_some, ↓ldN_some, ↓fldA_some, ↓idxS_some, ↓lenS_some, ↓opW_nilCheck, ↓ld_59, ↓fa_142_0, ↓ld_140, ↓ia_140, ↓fa_144_1, ↓ld_4, ↓len_140, ↓fa_144_5, ↓eqlA_59, ↓r72_2_w, ↓s72_3_w, ↓s72_6_w, ↓p72_7_w, ↓s72_8_w, ↓s72_9_w, ↓s72_10_w, ↓r72_11_w, ↓s72_12_w, ↓s72_13_w, onV_some', brK_true, brK_false, Nat.le_refl, true_and, and_true, ne_eq, Nat.reduceEqDiff, Nat.reduceAdd, not_false_eq_true, Nat.one_ne_zero, Nat.add_zero, Addr.add_lit, Int.toNat_zero, Nat.zero_mul, Bool.false_eq_true,  ↓e6, ↓a0, ↓a3, c0, d1, dp, dr, Int.natCast_zero]))
      have w01 : IntKind.wrap .i64 (1 : Int) = 1 := rfl
      exact ⟨size - (0 + 1), by omega, 0 + 1, by omega, rfl, by simp [T.get_set, w01], by simp only [T.get_set]; simpa using f5⟩
    · have d1 := x2.o (o := 1) hlt h0 rfl
      repeat' (first | done | with_reducible (first | refine y1 ?_ (by omega) | refine y2 ?_ (by omega) | refine y3 (fun _ => ?_) (fun _ => ?_) | refine y4 ?_ (by omega) (by omega) | refine y5 ?_ (by omega) | refine y6 ?_ (by with_unfolding_all rfl) | refine y7 ?_ (by with_unfolding_all rfl) | refine y8 ?_ (by with_unfolding_all rfl) | refine y9 ?_ (by with_unfolding_all rfl) | refine ya ?_ (by with_unfolding_all rfl)) | (simp -dsimp only [↓cw_skip, ↓cw_ops, ↓cw_plan, ↓cw_seq, ↓cw_block, ↓cw_cond, ↓seqK_normal, ↓blockK_normal, ↓loopK_normal, ↓getK_same, ↓getK_ne, ↓evK_tmp, ↓evK_int, ↓evK_bool, ↓condV_var, ↓gdV_var, ↓opsW_nil, ↓opsW_d, ↓planW_nil, ↓planW_d, ↓planW_gd, ↓agK_nil, ↓opW_move, ↓opW_assign, ↓opW_pick, ↓opW_bin, ↓bin_add, ↓bin_lss, ↓ld1_some, ↓fldA_some, ↓idxS_some, ↓lenS_some, ↓opW_nilCheck, ↓fa_142_0, ↓ld_140, ↓ia_140, ↓fa_144_1, ↓ld_4, ↓len_140, ↓r72_2_w, ↓s72_3_w, ↓s72_6_w, ↓p72_7_w, ↓s72_8_w, ↓s72_9_w, ↓s72_10_w, ↓r72_11_w, ↓s72_12_w, ↓s72_13_w, onV_some', brK_true, brK_false, Nat.le_refl, true_and, ne_eq, Nat.reduceEqDiff, not_false_eq_true, Nat.one_ne_zero, Nat.add_zero, Addr.add_lit, Int.toNat_natCast, Bool.false_eq_true,  ↓e6, ↓a0, c0, d1]))
      exact ⟨size - (k + 1), by omega, k + 1, by omega, rfl, by simp [T.get_set, wrap_succ (show k ≤ 4611686018427387904 by omega)], by simp only [T.get_set]; simpa using f5⟩
  · repeat' (first | done | with_reducible (first | refine y1 ?_ (by omega) | refine y2 ?_ (by omega) | refine y3 (fun _ => ?_) (fun _ => ?_) | refine y4 ?_ (by omega) (by omega) | refine y5 ?_ (by omega) | refine y6 ?_ (by with_unfolding_all rfl) | refine y7 ?_ (by with_unfolding_all rfl) | refine y8 ?_ (by with_unfolding_all rfl) | refine y9 ?_ (by with_unfolding_all rfl) | refine ya ?_ (by with_unfolding_all rfl)) | (simp -dsimp only [↓cw_ops, ↓cw_seq, ↓cw_exit, ↓cw_ret, ↓cw_cond, ↓seqK_normal, ↓seqK_exit, ↓blockK_same, ↓loopK_exit, ↓getK_same, ↓getK_ne, ↓evK_tmp, ↓condV_var, ↓opsW_nil, ↓opsW_d, ↓opW_move, ↓opW_assign, ↓opW_bin, ↓bin_lss, ↓ld1_some, ↓fldA_some, ↓lenS_some, ↓resK_one, ↓opW_nilCheck, ↓fa_142_0, ↓ld_140, ↓len_140, ↓r72_0_w, ↓s72_1_w, ↓s72_10_w, ↓r72_11_w, ↓s72_12_w, ↓s72_13_w, onV_some', brK_false, ne_eq, Nat.reduceEqDiff, not_false_eq_true, Nat.one_ne_zero, Nat.add_zero, Addr.add_lit, Bool.false_eq_true,  ↓e6, ↓e5, ↓a0, c0]))
    exact hK h2 X
theorem chain_ret (x : DomO h db sb size gs cpu period vF) (hK : ∀ i h', G h' i [.int .i64 0, .int .u64 1] 59 false → ExtB h.n h h' → K (.slice (some ⟨i, 0, none⟩) 1 UNK) h') : Ret env (.func 80) [.pointer (some ⟨db, 0, none⟩), .agg ⟨[.int .i64 0, .int .u64 1]⟩] h K := by
  refine F80 rfl ?_
  repeat' (first | done | with_reducible (first | refine y1 ?_ (by omega) | refine y2 ?_ (by omega) | refine y3 (fun _ => ?_) (fun _ => ?_) | refine y4 ?_ (by omega) (by omega) | refine y5 ?_ (by omega) | refine y6 ?_ (by with_unfolding_all rfl) | refine y7 ?_ (by with_unfolding_all rfl) | refine y8 ?_ (by with_unfolding_all rfl) | refine y9 ?_ (by with_unfolding_all rfl) | refine ya ?_ (by with_unfolding_all rfl)) | (simp -dsimp only [↓cw_ops, ↓cw_seq, ↓cw_block, ↓seqK_normal, ↓getK_same, ↓evK_tmp, ↓evK_nilslice, ↓opsW_nil, ↓opsW_d, ↓opW_assign, ↓setAll_cons, ↓setAll_nil, ↓opW_box, ↓box_agg, ↓s80_11_w, ↓s80_12_w, ↓r80_13_w, ↓s80_14_w, ↓r80_15_w, ↓s80_16_w, Nat.reduceAdd]))
  have X : ExtB h.n h (newBlk h (.cells [.int .i64 0, .int .u64 1] 59 true)) := ExtB.new _ (Nat.le_refl _)
  have q3 := G.new h [.int .i64 0, .int .u64 1] 59 true
  generalize newBlk h (.cells [.int .i64 0, .int .u64 1] 59 true) = h2 at q3 X ⊢
  refine cw_loopI (fun m fr' h' => ExtB h.n h h' ∧ ((m = 1 ∧ G h' h.n [.int .i64 0, .int .u64 1] 59 true ∧ fr'.get 5 = some (.slice none 0 0)) ∨ (m = 0 ∧ G h' h.n [.int .i64 0, .int .u64 0] 59 true ∧ ∃ i, fr'.get 5 = some (.slice (some ⟨i, 0, none⟩) 1 UNK) ∧ G h' i [.int .i64 0, .int .u64 1] 59 false))) 1 ?_ (by omega) ?_
  · exact ⟨X, .inl ⟨rfl, q3, by simp [T.get_set]⟩⟩
  rintro m fr2 h' ⟨X1, hc⟩ hag
  have a0 := getK_eq (hag 0 rfl)
  have a3 := getK_eq (hag 3 rfl)
  have x1 := x.ext X1 x.d.1 x.s.1
  rcases hc with ⟨rfl, q, f5⟩ | ⟨rfl, q, i, f5, gi⟩
  · have e5 := getK_of f5
    have dr := q.cells (n := 2) rfl (by decide)
    repeat' (first | done | with_reducible (first | refine y1 ?_ (by omega) | refine y2 ?_ (by omega) | refine y3 (fun _ => ?_) (fun _ => ?_) | refine y4 ?_ (by omega) (by omega) | refine y5 ?_ (by omega) | refine y6 ?_ (by with_unfolding_all rfl) | refine y7 ?_ (by with_unfolding_all rfl) | refine y8 ?_ (by with_unfolding_all rfl) | refine y9 ?_ (by with_unfolding_all rfl) | refine ya ?_ (by with_unfolding_all rfl)) | (simp -dsimp only [↓cw_ops, ↓cw_seq, ↓getK_same, ↓getK_ne, ↓evK_tmp, ↓opsW_d, ↓opW_move, ↓ldN_some, ↓evs_nil, ↓evs_cons, ↓opW_call, ↓ld_59, ↓r80_8_w, ↓s80_9_w, ↓s80_10_w, onV_some', ne_eq, Nat.reduceEqDiff, not_false_eq_true, Nat.one_ne_zero, ↓a0, ↓a3, dr]))
    refine domIs_ret x1 fun h3 X3 => ?_
    have p := q.ext X3 q.1
    have x3 := x1.ext X3 x1.d.1 x1.s.1
    have dr3 := p.cells (n := 2) rfl (by decide)
    have XN := X1.n
    rw [show decide ((1 : Int) = 1) = true from rfl]
    repeat' (first | done | with_reducible (first | refine y1 ?_ (by omega) | refine y2 ?_ (by omega) | refine y3 (fun _ => ?_) (fun _ => ?_) | refine y4 ?_ (by omega) (by omega) | refine y5 ?_ (by omega) | refine y6 ?_ (by with_unfolding_all rfl) | refine y7 ?_ (by with_unfolding_all rfl) | refine y8 ?_ (by with_unfolding_all rfl) | refine y9 ?_ (by with_unfolding_all rfl) | refine ya ?_ (by with_unfolding_all rfl)) | (simp -dsimp only [↓cw_skip, ↓cw_ops, ↓cw_seq, ↓cw_block, ↓cw_cond, ↓seqK_normal, ↓getK_same, ↓getK_ne, ↓evK_tmp, ↓condV_var, ↓opsW_nil, ↓opsW_d, ↓opW_move, ↓ldN_some, ↓evp_nil, ↓evp_cons, ↓ld_59, ↓bsl_185_1, ↓ap_185_185, ↓r80_4_w, ↓s80_5_w, ↓s80_6_w, ↓s80_7_w, onV_some', brK_true, ne_eq, Nat.reduceEqDiff, not_false_eq_true, ↓e5, ↓a3, dr3]))
    refine app_row (B := h3.n) (n := 0) (cs := []) (new := [.int .i64 0, .int .u64 1]) (.inl ⟨rfl, rfl, rfl⟩) (Nat.le_refl _) rfl (by omega) rfl rfl (by decide) rfl fun v4 h4 r4 X4 k4 _ => ?_
    obtain ⟨i, rfl, hi, gi⟩ := r4.g (by omega)
    have p4 := p.ext X4 p.1
    have x4 := x3.ext X4 x3.d.1 x3.s.1
    have c0 := x4.c0
    have dp := x4.par
    have cr := p4.cell (off := 0) rfl
    have sr : ∀ a b, (sameV 50 (.agg ⟨[.int .i64 a, .int .u64 b]⟩) (.agg ⟨[.int .i64 a, .int .u64 b]⟩) = true) = True := fun a b => by simp [sameV, sameV.go]
    have ss : (sameV 50 (.slice (some ⟨sb, 0, none⟩) size size) (.slice (some ⟨sb, 0, none⟩) size size) = true) = True := by simp [sameV]
    have hn3 := X3.n
    have hn4 := X4.n
    have one := x.one
    repeat' (first | done | with_reducible (first | refine y1 ?_ (by omega) | refine y2 ?_ (by omega) | refine y3 (fun _ => ?_) (fun _ => ?_) | refine y4 ?_ (by omega) (by omega) | refine y5 ?_ (by omega) | refine y6 ?_ (by with_unfolding_all rfl) | refine y7 ?_ (by with_unfolding_all rfl) | refine y8 ?_ (by with_unfolding_all rfl) | refine y9 ?_ (by with_unfolding_all rfl) | refine ya ?_ (by with_unfolding_all rfl)) | (simp -dsimp only [↓cw_plan, ↓seqK_normal, ↓getK_same, ↓getK_ne, ↓evK_tmp, ↓opsW_nil, ↓opsW_d, ↓planW_d, ↓planW_n, ↓agK_nil, ↓opW_move, ↓opW_assign, ↓ld1_some, ↓ldN_some, ↓fldA_some, ↓idxS_some, ↓opW_nilCheck, ↓ld_3, ↓st_59, ↓ld_59, ↓fa_142_0, ↓ld_140, ↓ia_140, ↓fa_59_0, ↓fa_144_5, ↓p80_2_w, ↓s80_3_w, onV_some', Nat.le_refl, true_and, ne_eq, Nat.reduceEqDiff, Nat.reduceAdd, not_false_eq_true, Nat.one_ne_zero, Nat.add_zero, Addr.add_lit, Int.toNat_zero, Nat.zero_mul, ↓a0, ↓a3, c0, dp, cr]))
    refine st_G (off := 0) (l := [.int .i64 0, .int .u64 0]) (cs' := [.int .i64 0, .int .u64 0]) p4 rfl rfl rfl rfl (by decide) fun h5 e5 p5 f5 => ?_
    refine ⟨by omega, by repeat' (first | done | with_reducible (first | refine y1 ?_ (by omega) | refine y2 ?_ (by omega) | refine y3 (fun _ => ?_) (fun _ => ?_) | refine y4 ?_ (by omega) (by omega) | refine y5 ?_ (by omega) | refine y6 ?_ (by with_unfolding_all rfl) | refine y7 ?_ (by with_unfolding_all rfl) | refine y8 ?_ (by with_unfolding_all rfl) | refine y9 ?_ (by with_unfolding_all rfl) | refine ya ?_ (by with_unfolding_all rfl)) | (simp -dsimp only [↓agK_nil])), ?_⟩
    repeat' (first | done | with_reducible (first | refine y1 ?_ (by omega) | refine y2 ?_ (by omega) | refine y3 (fun _ => ?_) (fun _ => ?_) | refine y4 ?_ (by omega) (by omega) | refine y5 ?_ (by omega) | refine y6 ?_ (by with_unfolding_all rfl) | refine y7 ?_ (by with_unfolding_all rfl) | refine y8 ?_ (by with_unfolding_all rfl) | refine y9 ?_ (by with_unfolding_all rfl) | refine ya ?_ (by with_unfolding_all rfl)) | (simp -dsimp only [↓blockK_normal, ↓loopK_normal, ↓planW_nil, Nat.reduceAdd, Nat.add_zero, Addr.add_lit, Int.toNat_zero, Nat.zero_mul]))
    refine ⟨0, by omega, X1.trans ((X3.mono XN).trans ((X4.mono (by omega)).trans ⟨by omega, fun j hj => f5 j (by omega)⟩)), .inr ⟨rfl, p5, i, by simp [T.get_set], gi.same (by omega) (f5 i (by have := q.1; omega))⟩⟩
  · have e5 := getK_of f5
    have dr := q.cells (n := 2) rfl (by decide)
    repeat' (first | done | with_reducible (first | refine y1 ?_ (by omega) | refine y2 ?_ (by omega) | refine y3 (fun _ => ?_) (fun _ => ?_) | refine y4 ?_ (by omega) (by omega) | refine y5 ?_ (by omega) | refine y6 ?_ (by with_unfolding_all rfl) | refine y7 ?_ (by with_unfolding_all rfl) | refine y8 ?_ (by with_unfolding_all rfl) | refine y9 ?_ (by with_unfolding_all rfl) | refine ya ?_ (by with_unfolding_all rfl)) | (simp -dsimp only [↓cw_ops, ↓cw_seq, ↓getK_same, ↓getK_ne, ↓evK_tmp, ↓opsW_d, ↓opW_move, ↓ldN_some, ↓evs_nil, ↓evs_cons, ↓opW_call, ↓ld_59, ↓r80_8_w, ↓s80_9_w, ↓s80_10_w, onV_some', ne_eq, Nat.reduceEqDiff, not_false_eq_true, Nat.one_ne_zero, ↓a0, ↓a3, dr]))
    refine domIs_ret x1 fun h3 X3 => ?_
    rw [show decide ((0 : Int) = 1) = false from rfl]
    repeat' (first | done | with_reducible (first | refine y1 ?_ (by omega) | refine y2 ?_ (by omega) | refine y3 (fun _ => ?_) (fun _ => ?_) | refine y4 ?_ (by omega) (by omega) | refine y5 ?_ (by omega) | refine y6 ?_ (by with_unfolding_all rfl) | refine y7 ?_ (by with_unfolding_all rfl) | refine y8 ?_ (by with_unfolding_all rfl) | refine y9 ?_ (by with_unfolding_all rfl) | refine ya ?_ (by with_unfolding_all rfl)) | (simp -dsimp only [↓cw_ops, ↓cw_seq, ↓cw_exit, ↓cw_ret, ↓cw_cond, ↓seqK_normal, ↓seqK_exit, ↓blockK_same, ↓loopK_exit, ↓getK_same, ↓getK_ne, ↓evK_tmp, ↓condV_var, ↓opsW_nil, ↓opsW_d, ↓opW_move, ↓opW_assign, ↓resK_one, ↓r80_0_w, ↓s80_1_w, ↓s80_7_w, brK_false, ne_eq, Nat.reduceEqDiff, not_false_eq_true, Bool.false_eq_true,  ↓e5]))
    exact hK i h3 (gi.ext X3 gi.1) (X1.trans (X3.mono X1.n))
end
end Go.Proofs.Ytdjnedamphifcaa

namespace Go.Proofs.Ytdjnedamphifcaa
open Go.Ev
set_option maxRecDepth 100000
set_option maxHeartbeats 400000
section
variable {h : Heap} {K : Value → Heap → Prop} {db sb size : Nat} {gs cpu period : Int} {vF : Value}
theorem in_ret (x : DomO h db sb size gs cpu period vF) (hK : ∀ h', ExtB h.n h h' → K (.bool true) h') : Ret env (.func 73) [.pointer (some ⟨db, 0, none⟩), .int .i64 0, .agg ⟨[.int .i64 0, .int .u64 1]⟩] h K := by
  refine F73 rfl ?_
  have one := x.one
  repeat' (first | done | with_reducible (first | refine y1 ?_ (by omega) | refine y2 ?_ (by omega) | refine y3 (fun _ => ?_) (fun _ => ?_) | refine y4 ?_ (by omega) (by omega) | refine y5 ?_ (by omega) | refine y6 ?_ (by with_unfolding_all rfl) | refine y7 ?_ (by with_unfolding_all rfl) | refine y8 ?_ (by with_unfolding_all rfl) | refine y9 ?_ (by with_unfolding_all rfl) | refine ya ?_ (by with_unfolding_all rfl)) | (simp -dsimp only [↓cw_ops, ↓cw_seq, ↓seqK_normal, ↓getK_same, ↓getK_ne, ↓evK_tmp, ↓evK_bool, ↓opsW_nil, ↓opsW_d, ↓opW_move, ↓opW_assign, ↓ld1_some, ↓fldA_some, ↓setAll_cons, ↓setAll_nil, ↓opW_box, ↓box_agg, ↓opW_nilCheck, ↓fa_142_0, ↓ld_140, ↓r73_19_w, ↓s73_20_w, ↓r73_21_w, ↓s73_22_w, ne_eq, Nat.reduceEqDiff, Nat.reduceAdd, not_false_eq_true, Nat.one_ne_zero, Nat.add_zero, Addr.add_lit]))
  have X : ExtB h.n h (newBlk h (.cells [.int .i64 0, .int .u64 1] 59 true)) := ExtB.new _ (Nat.le_refl _)
  have q3 := G.new h [.int .i64 0, .int .u64 1] 59 true
  have x2 := x.ext X x.d.1 x.s.1
  generalize newBlk h (.cells [.int .i64 0, .int .u64 1] 59 true) = h2 at q3 X x2 ⊢
  have c0 := x2.c0
  have d0 := x2.r (o := 0) rfl
  repeat' (first | done | with_reducible (first | refine y1 ?_ (by omega) | refine y2 ?_ (by omega) | refine y3 (fun _ => ?_) (fun _ => ?_) | refine y4 ?_ (by omega) (by omega) | refine y5 ?_ (by omega) | refine y6 ?_ (by with_unfolding_all rfl) | refine y7 ?_ (by with_unfolding_all rfl) | refine y8 ?_ (by with_unfolding_all rfl) | refine y9 ?_ (by with_unfolding_all rfl) | refine ya ?_ (by with_unfolding_all rfl)) | (simp -dsimp only [↓getK_same, ↓getK_ne, ↓evK_tmp, ↓opsW_d, ↓opW_move, ↓ld1_some, ↓fldA_some, ↓idxS_some, ↓evs_nil, ↓evs_cons, ↓opW_call, ↓setAll_cons, ↓setAll_nil, ↓evp_nil, ↓evp_cons, ↓ld_22, ↓bd_59, ↓ia_140, ↓fa_144_0, onV_some', ne_eq, Nat.reduceEqDiff, Nat.reduceAdd, not_false_eq_true, Nat.add_zero, Addr.add_lit, Int.toNat_zero, Nat.zero_mul, c0, d0]))
  refine chain_ret x2 fun i h3 gi X3 => ?_
  have XN := X.n
  have q4 := q3.ext X3 q3.1
  have dr := q4.cells (n := 2) rfl (by decide)
  have di := gi.cells (n := 2) rfl (by decide)
  have sr : ∀ a b, (sameV 50 (.agg ⟨[.int .i64 a, .int .u64 b]⟩) (.agg ⟨[.int .i64 a, .int .u64 b]⟩) = true) = True := fun a b => by simp [sameV, sameV.go]
  repeat' (first | done | with_reducible (first | refine y1 ?_ (by omega) | refine y2 ?_ (by omega) | refine y3 (fun _ => ?_) (fun _ => ?_) | refine y4 ?_ (by omega) (by omega) | refine y5 ?_ (by omega) | refine y6 ?_ (by with_unfolding_all rfl) | refine y7 ?_ (by with_unfolding_all rfl) | refine y8 ?_ (by with_unfolding_all rfl) | refine y9 ?_ (by with_unfolding_all rfl) | refine ya ?_ (by with_unfolding_all rfl)) | (simp -dsimp only [↓cw_ops, ↓cw_seq, ↓cw_block, ↓seqK_normal, ↓getK_same, ↓evK_tmp, ↓evK_int, ↓opsW_nil, ↓opsW_d, ↓opW_assign, ↓setAll_cons, ↓setAll_nil, ↓s73_14_w, ↓s73_15_w, ↓r73_16_w, ↓s73_17_w, ↓s73_18_w, Nat.reduceAdd, Nat.add_zero, Addr.add_lit, Int.toNat_zero, Nat.zero_mul]))
  refine cw_loopI (fun m fr' h' => h3 = h' ∧ m = 1 ∧ fr'.get 8 = some (.int .i64 0) ∧ fr'.get 7 = some (.slice (some ⟨i, 0, none⟩) 1 UNK)) 1 ?_ (by omega) ?_
  · exact ⟨rfl, rfl, by simp [T.get_set], by simp [T.get_set]⟩
  rintro m fr2 h' ⟨rfl, rfl, f8, f7⟩ hag
  have e8 := getK_of f8
  have e7 := getK_of f7
  have a5 := getK_eq (hag 5 rfl)
  repeat' (first | done | with_reducible (first | refine y1 ?_ (by omega) | refine y2 ?_ (by omega) | refine y3 (fun _ => ?_) (fun _ => ?_) | refine y4 ?_ (by omega) (by omega) | refine y5 ?_ (by omega) | refine y6 ?_ (by with_unfolding_all rfl) | refine y7 ?_ (by with_unfolding_all rfl) | refine y8 ?_ (by with_unfolding_all rfl) | refine y9 ?_ (by with_unfolding_all rfl) | refine ya ?_ (by with_unfolding_all rfl)) | (simp -dsimp only [↓cw_skip, ↓cw_ops, ↓cw_plan, ↓cw_seq, ↓cw_block, ↓cw_ret, ↓cw_cond, ↓seqK_normal, ↓seqK_ret, ↓blockK_ret, ↓loopK_ret, ↓getK_same, ↓getK_ne, ↓evK_tmp, ↓evK_bool, ↓condV_var, ↓opsW_nil, ↓opsW_d, ↓planW_nil, ↓planW_d, ↓agK_nil, ↓opW_move, ↓opW_assign, ↓opW_bin, ↓bin_lss, ↓ldN_some, ↓idxS_some, ↓lenS_some, ↓resK_one, ↓ld_59, ↓eqlA_59, ↓len_185, ↓ia_185, ↓r73_4_w, ↓s73_5_w, ↓s73_6_w, ↓p73_7_w, ↓s73_8_w, ↓s73_9_w, ↓s73_10_w, ↓r73_11_w, ↓s73_12_w, ↓s73_13_w, onV_some', brK_true, Nat.le_refl, true_and, and_true, ne_eq, Nat.reduceEqDiff, not_false_eq_true, Nat.add_zero, Addr.add_lit, Int.toNat_zero, Nat.zero_mul, ↓e8, ↓e7, ↓a5, dr, di, Int.natCast_one]))
  exact hK h3 (X.trans (X3.mono XN))
theorem get_ret (x : DomO h db sb size gs cpu period vF) (hK : ∀ h', ExtB h.n h h' → K (.agg ⟨[.int .i64 0, .int .u64 0, .int .i64 gs, .int .u64 cpu, .int .u64 period, .int .i64 0, .int .u64 0, .int .i64 0, .int .i64 0, .int .u64 0, .int .i64 0]⟩) h') : Ret env (.func 59) [.pointer (some ⟨db, 0, none⟩), .agg ⟨[.int .i64 0, .int .u64 1]⟩] h K := by
  refine F59 rfl ?_
  have one := x.one
  have few := x.few
  have sr : ∀ a b, (sameV 50 (.agg ⟨[.int .i64 a, .int .u64 b]⟩) (.agg ⟨[.int .i64 a, .int .u64 b]⟩) = true) = True := fun a b => by simp [sameV, sameV.go]
  have ss : (sameV 50 (.slice (some ⟨sb, 0, none⟩) size size) (.slice (some ⟨sb, 0, none⟩) size size) = true) = True := by simp [sameV]
  have sx : (sameV 50 (.agg ⟨rootC gs cpu period⟩) (.agg ⟨rootC gs cpu period⟩) = true) = True := by simp [rootC, sameV, sameV.go]
  repeat' (first | done | with_reducible (first | refine y1 ?_ (by omega) | refine y2 ?_ (by omega) | refine y3 (fun _ => ?_) (fun _ => ?_) | refine y4 ?_ (by omega) (by omega) | refine y5 ?_ (by omega) | refine y6 ?_ (by with_unfolding_all rfl) | refine y7 ?_ (by with_unfolding_all rfl) | refine y8 ?_ (by with_unfolding_all rfl) | refine y9 ?_ (by with_unfolding_all rfl) | refine ya ?_ (by with_unfolding_all rfl)) | (simp -dsimp only [↓cw_ops, ↓cw_seq, ↓seqK_normal, ↓getK_same, ↓evK_tmp, ↓opsW_nil, ↓opsW_d, ↓setAll_cons, ↓setAll_nil, ↓opW_box, ↓box_agg, ↓al_160, ↓r59_43_w, ↓s59_44_w, newBlk_n, Nat.reduceAdd]))
  have X : ExtB h.n h (newBlk (newBlk h (.cells [.int .i64 0, .int .u64 1] 59 true)) (.cells [.int .i64 0, .int .u64 0, .int .i64 0, .int .u64 0, .int .u64 0, .int .i64 0, .int .u64 0, .int .i64 0, .int .i64 0, .int .u64 0, .int .i64 0] 160 true)) := (ExtB.new _ (Nat.le_refl _)).trans (ExtB.new _ (by simp [newBlk]))
  have q1 := (G.new h [.int .i64 0, .int .u64 1] 59 true).old (.cells [.int .i64 0, .int .u64 0, .int .i64 0, .int .u64 0, .int .u64 0, .int .i64 0, .int .u64 0, .int .i64 0, .int .i64 0, .int .u64 0, .int .i64 0] 160 true)
  have q2 := G.new (newBlk h (.cells [.int .i64 0, .int .u64 1] 59 true)) [.int .i64 0, .int .u64 0, .int .i64 0, .int .u64 0, .int .u64 0, .int .i64 0, .int .u64 0, .int .i64 0, .int .i64 0, .int .u64 0, .int .i64 0] 160 true
  rw [newBlk_n] at q2
  have x2 := x.ext X x.d.1 x.s.1
  generalize newBlk (newBlk h (.cells [.int .i64 0, .int .u64 1] 59 true)) (.cells [.int .i64 0, .int .u64 0, .int .i64 0, .int .u64 0, .int .u64 0, .int .i64 0, .int .u64 0, .int .i64 0, .int .i64 0, .int .u64 0, .int .i64 0] 160 true) = h2 at q1 q2 X x2 ⊢
  have XN := X.n
  have hd := x2.d.1
  have hs := x2.s.1
  have hr := q1.1
  have hd0 := x.d.1
  have hs0 := x.s.1
  have c0 := x2.c0
  have r0 := q1.cell (off := 0) rfl
  have dx : cellsAt h2 ⟨sb, 0, none⟩ 9 = some (rootC gs cpu period) := x2.s.part (l := rootC gs cpu period) (by simp [rootC]) fun o v hv => by
    rw [Nat.zero_add, List.getElem?_append_left (List.getElem?_eq_some_iff.1 hv).1]; exact hv
  repeat' (first | done | with_reducible (first | refine y1 ?_ (by omega) | refine y2 ?_ (by omega) | refine y3 (fun _ => ?_) (fun _ => ?_) | refine y4 ?_ (by omega) (by omega) | refine y5 ?_ (by omega) | refine y6 ?_ (by with_unfolding_all rfl) | refine y7 ?_ (by with_unfolding_all rfl) | refine y8 ?_ (by with_unfolding_all rfl) | refine y9 ?_ (by with_unfolding_all rfl) | refine ya ?_ (by with_unfolding_all rfl)) | (simp -dsimp only [↓cw_plan, ↓cw_seq, ↓seqK_normal, ↓getK_same, ↓getK_ne, ↓evK_tmp, ↓planW_nil, ↓planW_d, ↓planW_n, ↓agK_nil, ↓opW_move, ↓ld1_some, ↓ldN_some, ↓fldA_some, ↓idxS_some, ↓opW_nilCheck, ↓ld_3, ↓fa_142_0, ↓ld_140, ↓ia_140, ↓fa_59_0, ↓ld_144, ↓st_144, ↓al_144, ↓p59_41_w, ↓s59_42_w, newBlk_n, onV_some', Nat.le_refl, true_and, ne_eq, Nat.reduceEqDiff, not_false_eq_true, Nat.one_ne_zero, Nat.add_zero, Addr.add_lit, Int.toNat_zero, Nat.zero_mul, c0, r0, dx]))
  have X3 : ExtB h2.n h2 (newBlk h2 (.cells (rootC gs cpu period) 144 true)) := ExtB.new _ (Nat.le_refl _)
  have q3 := G.new h2 (rootC gs cpu period) 144 true
  have q2' := q2.ext X3 q2.1
  have q1' := q1.ext X3 q1.1
  have x3 := x2.ext X3 x2.d.1 x2.s.1
  generalize newBlk h2 (.cells (rootC gs cpu period) 144 true) = h3 at X3 q3 q2' q1' x3 ⊢
  have hn3 := X3.n
  have k2 := q3.cell (off := 2) rfl
  have k3 := q3.cell (off := 3) rfl
  have k4 := q3.cell (off := 4) rfl
  have k7 := q3.cell (off := 7) rfl
  have k8 := q3.cell (off := 8) rfl
  have kp : cellsAt h3 ⟨h2.n, 5, none⟩ 2 = some [.int .i64 0, .int .u64 0] := q3.part (l := [.int .i64 0, .int .u64 0]) (by simp) fun o v hv => by
    match o, hv with
    | 0, hv => exact hv
    | 1, hv => exact hv
  repeat' (first | done | with_reducible (first | refine y1 ?_ (by omega) | refine y2 ?_ (by omega) | refine y3 (fun _ => ?_) (fun _ => ?_) | refine y4 ?_ (by omega) (by omega) | refine y5 ?_ (by omega) | refine y6 ?_ (by with_unfolding_all rfl) | refine y7 ?_ (by with_unfolding_all rfl) | refine y8 ?_ (by with_unfolding_all rfl) | refine y9 ?_ (by with_unfolding_all rfl) | refine ya ?_ (by with_unfolding_all rfl)) | (simp -dsimp only [↓cw_ops, ↓cw_seq, ↓seqK_normal, ↓getK_same, ↓getK_ne, ↓evK_tmp, ↓opsW_nil, ↓opsW_d, ↓opsW_n, ↓ld1_some, ↓ldN_some, ↓fldA_some, ↓evp_nil, ↓evp_cons, ↓ld_3, ↓ld_22, ↓ld_59, ↓al_160, ↓st_160, ↓fa_144_6, ↓fa_144_5, ↓fa_144_2, ↓fa_144_3, ↓fa_144_4, ↓fa_144_7, ↓bd_160, ↓r59_39_w, ↓s59_40_w, onV_some', ne_eq, Nat.reduceEqDiff, Nat.reduceAdd, not_false_eq_true, Addr.add_lit, k2, k3, k4, k7, k8, kp]))
  have X4 : ExtB h3.n h3 (newBlk h3 (.cells [.int .i64 0, .int .u64 0, .int .i64 gs, .int .u64 cpu, .int .u64 period, .int .i64 0, .int .u64 0, .int .i64 0, .int .i64 0, .int .u64 0, .int .i64 0] 160 true)) := ExtB.new _ (Nat.le_refl _)
  have q4 := G.new h3 [.int .i64 0, .int .u64 0, .int .i64 gs, .int .u64 cpu, .int .u64 period, .int .i64 0, .int .u64 0, .int .i64 0, .int .i64 0, .int .u64 0, .int .i64 0] 160 true
  have p2 := q2'.ext X4 q2'.1
  have p1 := q1'.ext X4 q1'.1
  have x4 := x3.ext X4 x3.d.1 x3.s.1
  have hb3 := q3.1
  generalize newBlk h3 (.cells [.int .i64 0, .int .u64 0, .int .i64 gs, .int .u64 cpu, .int .u64 period, .int .i64 0, .int .u64 0, .int .i64 0, .int .i64 0, .int .u64 0, .int .i64 0] 160 true) = h4 at X4 q4 p2 p1 x4 ⊢
  have hn4 := X4.n
  have dr := p1.cells (n := 2) rfl (by decide)
  repeat' (first | done | with_reducible (first | refine y1 ?_ (by omega) | refine y2 ?_ (by omega) | refine y3 (fun _ => ?_) (fun _ => ?_) | refine y4 ?_ (by omega) (by omega) | refine y5 ?_ (by omega) | refine y6 ?_ (by with_unfolding_all rfl) | refine y7 ?_ (by with_unfolding_all rfl) | refine y8 ?_ (by with_unfolding_all rfl) | refine y9 ?_ (by with_unfolding_all rfl) | refine ya ?_ (by with_unfolding_all rfl)) | (simp -dsimp only [↓cw_ops, ↓cw_seq, ↓getK_same, ↓getK_ne, ↓evK_tmp, ↓opsW_d, ↓opW_move, ↓ldN_some, ↓evs_nil, ↓evs_cons, ↓opW_call, ↓ld_59, ↓r59_37_w, ↓s59_38_w, onV_some', ne_eq, Nat.reduceEqDiff, not_false_eq_true, Nat.one_ne_zero, dr]))
  refine children_ret x4 fun h5 X5 => ?_
  have hn5 := X5.n
  have x5 := x4.ext X5 x4.d.1 x4.s.1
  have r1 := p1.ext X5 p1.1
  have r2 := p2.ext X5 p2.1
  have r4 := q4.ext X5 q4.1
  repeat' (first | done | with_reducible (first | refine y1 ?_ (by omega) | refine y2 ?_ (by omega) | refine y3 (fun _ => ?_) (fun _ => ?_) | refine y4 ?_ (by omega) (by omega) | refine y5 ?_ (by omega) | refine y6 ?_ (by with_unfolding_all rfl) | refine y7 ?_ (by with_unfolding_all rfl) | refine y8 ?_ (by with_unfolding_all rfl) | refine y9 ?_ (by with_unfolding_all rfl) | refine ya ?_ (by with_unfolding_all rfl)) | (simp -dsimp only [↓cw_ops, ↓cw_seq, ↓cw_block, ↓seqK_normal, ↓getK_same, ↓evK_tmp, ↓evK_int, ↓opsW_nil, ↓opsW_d, ↓opW_assign, ↓s59_32_w, ↓s59_33_w, ↓r59_34_w, ↓s59_35_w, ↓s59_36_w]))
  refine cw_loopI (fun m fr' h' => h5 = h' ∧ m = 1 ∧ fr'.get 8 = some (.int .i64 0) ∧ fr'.get 7 = some (.slice none 0 0)) 1 ?_ (by omega) ?_
  · exact ⟨rfl, rfl, by simp [T.get_set], by simp [T.get_set]⟩
  rintro m fr2 h' ⟨rfl, rfl, f8, f7⟩ hag
  have e8 := getK_of f8
  have e7 := getK_of f7
  have a0 := getK_eq (hag 0 rfl)
  have a3 := getK_eq (hag 3 rfl)
  have a4 := getK_eq (hag 4 rfl)
  have a6 := getK_eq (hag 6 rfl)
  repeat' (first | done | with_reducible (first | refine y1 ?_ (by omega) | refine y2 ?_ (by omega) | refine y3 (fun _ => ?_) (fun _ => ?_) | refine y4 ?_ (by omega) (by omega) | refine y5 ?_ (by omega) | refine y6 ?_ (by with_unfolding_all rfl) | refine y7 ?_ (by with_unfolding_all rfl) | refine y8 ?_ (by with_unfolding_all rfl) | refine y9 ?_ (by with_unfolding_all rfl) | refine ya ?_ (by with_unfolding_all rfl)) | (simp -dsimp only [↓cw_ops, ↓cw_seq, ↓cw_block, ↓cw_exit, ↓cw_cond, ↓seqK_normal, ↓seqK_exit, ↓blockK_same, ↓loopK_exit, ↓getK_same, ↓getK_ne, ↓evK_tmp, ↓evK_int, ↓condV_var, ↓opsW_nil, ↓opsW_d, ↓opW_move, ↓opW_assign, ↓opW_bin, ↓bin_lss, ↓lenS_some, ↓len_38, ↓s59_14_w, ↓s59_15_w, ↓r59_16_w, ↓s59_17_w, ↓s59_18_w, ↓s59_28_w, ↓r59_29_w, ↓s59_30_w, ↓s59_31_w, brK_false, ne_eq, Nat.reduceEqDiff, not_false_eq_true, Bool.false_eq_true,  ↓e8, ↓e7]))
  have XX : ExtB h.n h h5 := X.trans ((X3.mono XN).trans ((X4.mono (by omega)).trans (X5.mono (by omega))))
  refine cw_loopI (fun m fr' h' => ∃ k : Nat, k ≤ size ∧ m = size - k ∧ fr'.get 9 = some (.int .i64 k) ∧ ExtB h.n h h' ∧ G h' h.n [.int .i64 0, .int .u64 1] 59 true ∧ G h' (h.n + 1) [.int .i64 0, .int .u64 0, .int .i64 0, .int .u64 0, .int .u64 0, .int .i64 0, .int .u64 0, .int .i64 0, .int .i64 0, .int .u64 0, .int .i64 0] 160 true ∧ G h' h3.n [.int .i64 0, .int .u64 0, .int .i64 gs, .int .u64 cpu, .int .u64 period, .int .i64 0, .int .u64 0, .int .i64 0, .int .i64 0, .int .u64 0, .int .i64 0] 160 true) size ?_ (by omega) ?_
  · exact ⟨0, by omega, by omega, by simp [T.get_set], XX, r1, r2, r4⟩
  rintro m fr3 h' ⟨k, hk, rfl, f9, Xh, u1, u2, u4⟩ hag2
  have e9 := getK_of f9
  have b0 := getK_eq (hag2 0 rfl)
  have b3 := getK_eq (hag2 3 rfl)
  have b4 := getK_eq (hag2 4 rfl)
  have b6 := getK_eq (hag2 6 rfl)
  have xh := x.ext Xh x.d.1 x.s.1
  have c0 := xh.c0
  have hnh := Xh.n
  have du := u1.cells (n := 2) rfl (by decide)
  by_cases hlt : k < size
  · by_cases h0 : k = 0
    · subst h0
      have d1 := xh.r (o := 1) rfl
      repeat' (first | done | with_reducible (first | refine y1 ?_ (by omega) | refine y2 ?_ (by omega) | refine y3 (fun _ => ?_) (fun _ => ?_) | refine y4 ?_ (by omega) (by omega) | refine y5 ?_ (by omega) | refine y6 ?_ (by with_unfolding_all rfl) | refine y7 ?_ (by with_unfolding_all rfl) | refine y8 ?_ (by with_unfolding_all rfl) | refine y9 ?_ (by with_unfolding_all rfl) | refine ya ?_ (by with_unfolding_all rfl)) | (simp -dsimp only [↓cw_skip, ↓cw_ops, ↓cw_seq, ↓cw_block, ↓cw_cond, ↓seqK_normal, ↓getK_same, ↓getK_ne, ↓evK_tmp, ↓condV_var, ↓gdV_var, ↓opsW_nil, ↓opsW_d, ↓opsW_gd, ↓opW_move, ↓opW_bin, ↓bin_lss, ↓ld1_some, ↓ldN_some, ↓fldA_some, ↓idxS_some, ↓evs_nil, ↓evs_cons, ↓opW_call, ↓lenS_some, ↓opW_nilCheck, ↓ld_59, ↓fa_142_0, ↓ld_140, ↓ia_140, ↓fa_144_1, ↓ld_4, ↓len_140, ↓r59_7_w, ↓s59_8_w, ↓s59_9_w, ↓s59_10_w, ↓r59_11_w, ↓s59_12_w, ↓s59_13_w, onV_some', brK_true, ne_eq, Nat.reduceEqDiff, Nat.reduceAdd, not_false_eq_true, Nat.one_ne_zero, Nat.add_zero, Addr.add_lit, Int.toNat_zero, Nat.zero_mul, ↓e9, ↓b0, ↓b3, ↓a0, ↓a3, c0, d1, du, Int.natCast_zero]))
      refine in_ret xh fun h6 X6 => ?_
      have hn6 := X6.n
      have xg := xh.ext X6 xh.d.1 xh.s.1
      have v1 := u1.ext X6 u1.1
      have v2 := u2.ext X6 u2.1
      have v4 := u4.ext X6 u4.1
      have c0 := xg.c0
      have d7 := xg.r (o := 7) rfl
      have o8 := v4.cell (off := 8) rfl
      have w00 : IntKind.wrap .i64 ((0 : Int) + 0) = 0 := rfl
      repeat' (first | done | with_reducible (first | refine y1 ?_ (by omega) | refine y2 ?_ (by omega) | refine y3 (fun _ => ?_) (fun _ => ?_) | refine y4 ?_ (by omega) (by omega) | refine y5 ?_ (by omega) | refine y6 ?_ (by with_unfolding_all rfl) | refine y7 ?_ (by with_unfolding_all rfl) | refine y8 ?_ (by with_unfolding_all rfl) | refine y9 ?_ (by with_unfolding_all rfl) | refine ya ?_ (by with_unfolding_all rfl)) | (simp -dsimp only [↓cw_plan, ↓cw_cond, ↓seqK_normal, ↓getK_same, ↓getK_ne, ↓evK_tmp, ↓condV_var, ↓opsW_nil, ↓opsW_d, ↓planW_d, ↓planW_n, ↓agK_nil, ↓opW_move, ↓opW_pick, ↓opW_bin, ↓bin_add, ↓ld1_some, ↓fldA_some, ↓idxS_some, ↓opW_nilCheck, ↓ld_3, ↓fa_142_0, ↓ld_140, ↓ia_140, ↓fa_144_6, ↓st_3, ↓fa_160_7, ↓p59_4_w, ↓s59_5_w, ↓s59_6_w, onV_some', brK_true, Nat.le_refl, true_and, ne_eq, Nat.reduceEqDiff, Nat.reduceAdd, not_false_eq_true, Nat.one_ne_zero, Nat.add_zero, Addr.add_lit, Int.toNat_zero, Nat.zero_mul, ↓e9, ↓b0, ↓b6, ↓a0, ↓a6, c0, d7, o8, Int.natCast_zero, Int.add_zero]))
      refine st_G (off := 8) (l := [.int .i64 0]) (cs' := [.int .i64 0, .int .u64 0, .int .i64 gs, .int .u64 cpu, .int .u64 period, .int .i64 0, .int .u64 0, .int .i64 0, .int .i64 0, .int .u64 0, .int .i64 0]) v4 rfl rfl rfl rfl (by decide) fun h7 e7 t4 f7 => ?_
      have t1 := v1.same (by omega) (f7 h.n (by omega))
      have t2 := v2.same (by omega) (f7 (h.n + 1) (by omega))
      refine ⟨by omega, by repeat' (first | done | with_reducible (first | refine y1 ?_ (by omega) | refine y2 ?_ (by omega) | refine y3 (fun _ => ?_) (fun _ => ?_) | refine y4 ?_ (by omega) (by omega) | refine y5 ?_ (by omega) | refine y6 ?_ (by with_unfolding_all rfl) | refine y7 ?_ (by with_unfolding_all rfl) | refine y8 ?_ (by with_unfolding_all rfl) | refine y9 ?_ (by with_unfolding_all rfl) | refine ya ?_ (by with_unfolding_all rfl)) | (simp -dsimp only [↓agK_nil])), ?_⟩
      have w01 : IntKind.wrap .i64 (1 : Int) = 1 := rfl
      repeat' (first | done | with_reducible (first | refine y1 ?_ (by omega) | refine y2 ?_ (by omega) | refine y3 (fun _ => ?_) (fun _ => ?_) | refine y4 ?_ (by omega) (by omega) | refine y5 ?_ (by omega) | refine y6 ?_ (by with_unfolding_all rfl) | refine y7 ?_ (by with_unfolding_all rfl) | refine y8 ?_ (by with_unfolding_all rfl) | refine y9 ?_ (by with_unfolding_all rfl) | refine ya ?_ (by with_unfolding_all rfl)) | (simp -dsimp only [↓cw_ops, ↓seqK_normal, ↓blockK_normal, ↓loopK_normal, ↓getK_same, ↓getK_ne, ↓evK_tmp, ↓evK_int, ↓opsW_nil, ↓opsW_d, ↓planW_nil, ↓opW_move, ↓opW_assign, ↓opW_bin, ↓bin_add, ↓r59_2_w, ↓s59_3_w, ne_eq, Nat.reduceEqDiff, Nat.reduceAdd, not_false_eq_true, Nat.add_zero, Addr.add_lit, Int.toNat_natCast, Nat.zero_mul, ↓e9]))
      exact ⟨size - (0 + 1), by omega, 0 + 1, by omega, rfl, by simp [T.get_set, w01], Xh.trans ((X6.mono hnh).trans ⟨by omega, fun j hj => f7 j (by omega)⟩), t1, t2, t4⟩
    · have d1 := xh.o (o := 1) hlt h0 rfl
      repeat' (first | done | with_reducible (first | refine y1 ?_ (by omega) | refine y2 ?_ (by omega) | refine y3 (fun _ => ?_) (fun _ => ?_) | refine y4 ?_ (by omega) (by omega) | refine y5 ?_ (by omega) | refine y6 ?_ (by with_unfolding_all rfl) | refine y7 ?_ (by with_unfolding_all rfl) | refine y8 ?_ (by with_unfolding_all rfl) | refine y9 ?_ (by with_unfolding_all rfl) | refine ya ?_ (by with_unfolding_all rfl)) | (simp -dsimp only [↓cw_skip, ↓cw_ops, ↓cw_seq, ↓cw_block, ↓cw_cond, ↓seqK_normal, ↓blockK_normal, ↓loopK_normal, ↓getK_same, ↓getK_ne, ↓evK_tmp, ↓evK_int, ↓evK_bool, ↓condV_var, ↓gdV_var, ↓opsW_nil, ↓opsW_d, ↓opsW_gd, ↓opW_move, ↓opW_assign, ↓opW_pick, ↓opW_bin, ↓bin_add, ↓bin_lss, ↓ld1_some, ↓fldA_some, ↓idxS_some, ↓lenS_some, ↓opW_nilCheck, ↓fa_142_0, ↓ld_140, ↓ia_140, ↓fa_144_1, ↓ld_4, ↓len_140, ↓r59_2_w, ↓s59_3_w, ↓s59_6_w, ↓r59_7_w, ↓s59_8_w, ↓s59_9_w, ↓s59_10_w, ↓r59_11_w, ↓s59_12_w, ↓s59_13_w, onV_some', brK_true, brK_false, ne_eq, Nat.reduceEqDiff, not_false_eq_true, Nat.one_ne_zero, Nat.add_zero, Addr.add_lit, Int.toNat_natCast, Bool.false_eq_true,  ↓e9, ↓b0, ↓a0, c0, d1]))
      exact ⟨size - (k + 1), by omega, k + 1, by omega, rfl, by simp [T.get_set, wrap_succ (show k ≤ 4611686018427387904 by omega)], Xh, u1, u2, u4⟩
  · have dout := u4.cells (n := 11) rfl (by decide)
    repeat' (first | done | with_reducible (first | refine y1 ?_ (by omega) | refine y2 ?_ (by omega) | refine y3 (fun _ => ?_) (fun _ => ?_) | refine y4 ?_ (by omega) (by omega) | refine y5 ?_ (by omega) | refine y6 ?_ (by with_unfolding_all rfl) | refine y7 ?_ (by with_unfolding_all rfl) | refine y8 ?_ (by with_unfolding_all rfl) | refine y9 ?_ (by with_unfolding_all rfl) | refine ya ?_ (by with_unfolding_all rfl)) | (simp -dsimp only [↓cw_ops, ↓cw_seq, ↓cw_exit, ↓cw_cond, ↓seqK_normal, ↓seqK_exit, ↓blockK_same, ↓loopK_exit, ↓getK_same, ↓getK_ne, ↓evK_tmp, ↓condV_var, ↓opsW_nil, ↓opsW_d, ↓opsW_n, ↓opW_move, ↓opW_bin, ↓bin_lss, ↓ld1_some, ↓ldN_some, ↓fldA_some, ↓lenS_some, ↓opW_nilCheck, ↓fa_142_0, ↓ld_140, ↓st_160, ↓len_140, ↓ld_160, ↓r59_0_w, ↓s59_1_w, ↓s59_10_w, ↓r59_11_w, ↓s59_12_w, ↓s59_13_w, onV_some', brK_false, ne_eq, Nat.reduceEqDiff, not_false_eq_true, Nat.one_ne_zero, Nat.add_zero, Addr.add_lit, Bool.false_eq_true,  ↓e9, ↓b0, ↓b4, ↓b6, ↓a0, ↓a4, ↓a6, c0, dout]))
    refine st_G (off := 0) (l := [.int .i64 0, .int .u64 0, .int .i64 gs, .int .u64 cpu, .int .u64 period, .int .i64 0, .int .u64 0, .int .i64 0, .int .i64 0, .int .u64 0, .int .i64 0]) (cs' := [.int .i64 0, .int .u64 0, .int .i64 gs, .int .u64 cpu, .int .u64 period, .int .i64 0, .int .u64 0, .int .i64 0, .int .i64 0, .int .u64 0, .int .i64 0]) u2 rfl rfl rfl rfl (by decide) fun h7 e7 t2 f7 => ?_
    have dres := t2.cells (n := 11) rfl (by decide)
    repeat' (first | done | with_reducible (first | refine y1 ?_ (by omega) | refine y2 ?_ (by omega) | refine y3 (fun _ => ?_) (fun _ => ?_) | refine y4 ?_ (by omega) (by omega) | refine y5 ?_ (by omega) | refine y6 ?_ (by with_unfolding_all rfl) | refine y7 ?_ (by with_unfolding_all rfl) | refine y8 ?_ (by with_unfolding_all rfl) | refine y9 ?_ (by with_unfolding_all rfl) | refine ya ?_ (by with_unfolding_all rfl)) | (simp -dsimp only [↓cw_ret, ↓seqK_normal, ↓getK_same, ↓getK_ne, ↓opsW_nil, ↓ldN_some, ↓resK_cellR, ↓agl_160, onV_some', ne_eq, Nat.reduceEqDiff, not_false_eq_true, ↓b4, ↓a4, dres]))
    exact hK h7 (Xh.trans ⟨by omega, fun j hj => f7 j (by omega)⟩)
end
end Go.Proofs.Ytdjnedamphifcaa

namespace Go.Proofs.Ytdjnedamphifcaa
open Go.Ev
set_option maxRecDepth 100000
set_option maxHeartbeats 400000
section
variable {h : Heap} {K : Value → Heap → Prop} {db sb size : Nat} {gs cpu period : Int} {vF : Value}
theorem join_ret (x : DomO h db sb size gs cpu period vF) (hg : 1 ≤ gs) (hK : ∀ v h', h.n ≤ h'.n → (∀ j, j < h.n → j ≠ sb → h'.b.get j = h.b.get j) → K v h') : Ret env (.func 33) [.pointer (some ⟨db, 0, none⟩), .agg ⟨[.int .i64 0, .int .u64 1]⟩] h K := by
  refine F33 rfl ?_
  have one := x.one
  have hs0 := x.s.1
  have hd0 := x.d.1
  have ne := x.d.ne x.s (.inl (by decide))
  have ss : (sameV 50 (.slice (some ⟨sb, 0, none⟩) size size) (.slice (some ⟨sb, 0, none⟩) size size) = true) = True := by simp [sameV]
  repeat' (first | done | with_reducible (first | refine y1 ?_ (by omega) | refine y2 ?_ (by omega) | refine y3 (fun _ => ?_) (fun _ => ?_) | refine y4 ?_ (by omega) (by omega) | refine y5 ?_ (by omega) | refine y6 ?_ (by with_unfolding_all rfl) | refine y7 ?_ (by with_unfolding_all rfl) | refine y8 ?_ (by with_unfolding_all rfl) | refine y9 ?_ (by with_unfolding_all rfl) | refine ya ?_ (by with_unfolding_all rfl)) | (simp -dsimp only [↓cw_ops, ↓cw_seq, ↓seqK_normal, ↓getK_same, ↓evK_tmp, ↓evK_int, ↓opsW_nil, ↓opsW_d, ↓opW_assign, ↓setAll_cons, ↓setAll_nil, ↓opW_box, ↓box_agg, ↓s33_17_w, ↓r33_18_w, ↓s33_19_w, Nat.reduceAdd]))
  have X : ExtB h.n h (newBlk h (.cells [.int .i64 0, .int .u64 1] 59 true)) := ExtB.new _ (Nat.le_refl _)
  have q1 := G.new h [.int .i64 0, .int .u64 1] 59 true
  have x2 := x.ext X x.d.1 x.s.1
  generalize newBlk h (.cells [.int .i64 0, .int .u64 1] 59 true) = h2 at q1 X x2 ⊢
  have XN := X.n
  have dr := q1.cells (n := 2) rfl (by decide)
  repeat' (first | done | with_reducible (first | refine y1 ?_ (by omega) | refine y2 ?_ (by omega) | refine y3 (fun _ => ?_) (fun _ => ?_) | refine y4 ?_ (by omega) (by omega) | refine y5 ?_ (by omega) | refine y6 ?_ (by with_unfolding_all rfl) | refine y7 ?_ (by with_unfolding_all rfl) | refine y8 ?_ (by with_unfolding_all rfl) | refine y9 ?_ (by with_unfolding_all rfl) | refine ya ?_ (by with_unfolding_all rfl)) | (simp -dsimp only [↓cw_ops, ↓cw_seq, ↓getK_same, ↓getK_ne, ↓evK_tmp, ↓opsW_d, ↓opW_move, ↓ldN_some, ↓evs_nil, ↓evs_cons, ↓opW_call, ↓ld_59, ↓r33_15_w, ↓s33_16_w, onV_some', ne_eq, Nat.reduceEqDiff, not_false_eq_true, Nat.one_ne_zero, dr]))
  refine domIs_ret x2 fun h3 X3 => ?_
  have q3 := q1.ext X3 q1.1
  have x3 := x2.ext X3 x2.d.1 x2.s.1
  have hn3 := X3.n
  have dr3 := q3.cells (n := 2) rfl (by decide)
  rw [show decide ((1 : Int) = 1) = true from rfl]
  repeat' (first | done | with_reducible (first | refine y1 ?_ (by omega) | refine y2 ?_ (by omega) | refine y3 (fun _ => ?_) (fun _ => ?_) | refine y4 ?_ (by omega) (by omega) | refine y5 ?_ (by omega) | refine y6 ?_ (by with_unfolding_all rfl) | refine y7 ?_ (by with_unfolding_all rfl) | refine y8 ?_ (by with_unfolding_all rfl) | refine y9 ?_ (by with_unfolding_all rfl) | refine ya ?_ (by with_unfolding_all rfl)) | (simp -dsimp only [↓cw_skip, ↓cw_ops, ↓cw_seq, ↓cw_cond, ↓seqK_normal, ↓getK_same, ↓getK_ne, ↓evK_tmp, ↓condV_var, ↓opsW_nil, ↓opsW_d, ↓opW_move, ↓ldN_some, ↓evs_nil, ↓evs_cons, ↓opW_call, ↓opW_un, ↓un_not, ↓ld_59, ↓r33_10_w, ↓s33_11_w, ↓s33_14_w, onV_some', brK_false, ne_eq, Nat.reduceEqDiff, not_false_eq_true, Nat.one_ne_zero, Bool.false_eq_true,  dr3, Bool.not_true]))
  refine get_ret x3 fun h4 X4 => ?_
  have q4 := q3.ext X4 q3.1
  have x4 := x3.ext X4 x3.d.1 x3.s.1
  have hn4 := X4.n
  have c0 := x4.c0
  have d7 := x4.r (o := 7) rfl
  have r0 := q4.cell (off := 0) rfl
  have hd4 := x4.d.1
  have hs4 := x4.s.1
  have hr4 := q4.1
  have w00 : IntKind.wrap .i64 ((0 : Int) + 0) = 0 := rfl
  have w01 : IntKind.wrap .i64 ((0 : Int) + 1) = 1 := rfl
  repeat' (first | done | with_reducible (first | refine y1 ?_ (by omega) | refine y2 ?_ (by omega) | refine y3 (fun _ => ?_) (fun _ => ?_) | refine y4 ?_ (by omega) (by omega) | refine y5 ?_ (by omega) | refine y6 ?_ (by with_unfolding_all rfl) | refine y7 ?_ (by with_unfolding_all rfl) | refine y8 ?_ (by with_unfolding_all rfl) | refine y9 ?_ (by with_unfolding_all rfl) | refine ya ?_ (by with_unfolding_all rfl)) | (simp -dsimp only [↓cw_skip, ↓cw_ops, ↓cw_plan, ↓cw_seq, ↓cw_cond, ↓seqK_normal, ↓getK_same, ↓getK_ne, ↓evK_tmp, ↓evK_int, ↓condV_var, ↓opsW_nil, ↓opsW_d, ↓opsW_n, ↓planW_d, ↓planW_n, ↓agK_nil, ↓opW_move, ↓opW_bin, ↓bin_add, ↓bin_geq, ↓ld1_some, ↓fldA_some, ↓idxS_some, ↓opW_nilCheck, ↓ld_3, ↓fa_142_0, ↓ld_140, ↓ia_140, ↓al_160, ↓st_160, ↓fa_160_6, ↓fa_160_4, ↓fa_160_1, ↓fa_59_0, ↓fa_144_6, ↓st_3, ↓p33_2_w, ↓s33_3_w, ↓s33_6_w, ↓r33_7_w, ↓s33_8_w, ↓s33_9_w, cellAt_newE, cellAt_newO, newBlk_n, List.getElem?_cons_zero, List.getElem?_cons_succ, onV_some', brK_false, Nat.le_refl, true_and, ne_eq, Nat.reduceEqDiff, Nat.reduceAdd, not_false_eq_true, Nat.one_ne_zero, Nat.add_zero, Addr.add_lit, Int.toNat_zero, Nat.zero_mul, Bool.false_eq_true,  c0, d7, r0, hd4, hs4, hr4, w00, w01]))
  refine st_G (off := 7) (l := [.int .i64 1]) (cs' := [.int .u64 1, .bool true, .int .i64 gs, .int .u64 cpu, .int .u64 period, .int .i64 0, .int .u64 0] ++ ([.int .i64 1] ++ ([.int .u64 0] ++ many (size - 1) dom1))) (x4.s.old _) rfl rfl (over_mid [.int .i64 1] [.int .u64 1, .bool true, .int .i64 gs, .int .u64 cpu, .int .u64 period, .int .i64 0, .int .u64 0] [.int .i64 0] ([.int .u64 0] ++ many (size - 1) dom1) rfl) rfl (by decide) fun h7 e7 t4 f7 => ?_
  rw [newBlk_n] at e7
  have F : ∀ j, j < h.n → j ≠ sb → h7.b.get j = h.b.get j := fun j hj j1 => by
    rw [f7 j j1, newBlk_old _ (by omega), X4.get j (by omega), X3.get j (by omega), X.get j hj]
  refine ⟨by simp only [newBlk_n]; omega, by repeat' (first | done | with_reducible (first | refine y1 ?_ (by omega) | refine y2 ?_ (by omega) | refine y3 (fun _ => ?_) (fun _ => ?_) | refine y4 ?_ (by omega) (by omega) | refine y5 ?_ (by omega) | refine y6 ?_ (by with_unfolding_all rfl) | refine y7 ?_ (by with_unfolding_all rfl) | refine y8 ?_ (by with_unfolding_all rfl) | refine y9 ?_ (by with_unfolding_all rfl) | refine ya ?_ (by with_unfolding_all rfl)) | (simp -dsimp only [↓agK_nil])), ?_⟩
  repeat' (first | done | with_reducible (first | refine y1 ?_ (by omega) | refine y2 ?_ (by omega) | refine y3 (fun _ => ?_) (fun _ => ?_) | refine y4 ?_ (by omega) (by omega) | refine y5 ?_ (by omega) | refine y6 ?_ (by with_unfolding_all rfl) | refine y7 ?_ (by with_unfolding_all rfl) | refine y8 ?_ (by with_unfolding_all rfl) | refine y9 ?_ (by with_unfolding_all rfl) | refine ya ?_ (by with_unfolding_all rfl)) | (simp -dsimp only [↓cw_ops, ↓cw_seq, ↓cw_ret, ↓seqK_normal, ↓getK_same, ↓evK_int, ↓opsW_nil, ↓opsW_d, ↓planW_nil, ↓opW_assign, ↓resK_one, ↓r33_0_w, ↓s33_1_w]))
  exact hK _ h7 (by omega) F
theorem of_ret {B : Nat} {a : Option Addr} {c : Nat} {l : List Int} (hB : B ≤ h.n) (hl : l.length ≤ 100000) (ra : RowAt B h a 1 (l.map fun n => [.int .i64 n])) (hK : ∀ n : Int, K (.int .u8 n) h) : Ret env (.func 62) [.slice a l.length c] h K := by
  refine F62 rfl ?_
  repeat' (first | done | with_reducible (first | refine y1 ?_ (by omega) | refine y2 ?_ (by omega) | refine y3 (fun _ => ?_) (fun _ => ?_) | refine y4 ?_ (by omega) (by omega) | refine y5 ?_ (by omega) | refine y6 ?_ (by with_unfolding_all rfl) | refine y7 ?_ (by with_unfolding_all rfl) | refine y8 ?_ (by with_unfolding_all rfl) | refine y9 ?_ (by with_unfolding_all rfl) | refine ya ?_ (by with_unfolding_all rfl)) | (simp -dsimp only [↓cw_ops, ↓cw_seq, ↓cw_block, ↓seqK_normal, ↓evK_int, ↓opsW_nil, ↓opsW_d, ↓opW_assign, ↓setAll_cons, ↓setAll_nil, ↓s62_32_w, ↓s62_33_w, ↓r62_34_w, ↓s62_35_w, ↓s62_36_w, ↓r62_37_w, ↓s62_38_w, ↓r62_39_w, ↓s62_40_w]))
  refine cw_loopI (fun m fr' h' => h = h' ∧ ∃ k : Nat, k ≤ 8 ∧ m = 8 - k ∧ fr'.get 4 = some (.int .i64 (7 - (k : Int))) ∧ ∃ n : Int, fr'.get 3 = some (.int .i64 n)) 8 ?_ (by omega) ?_
  · exact ⟨rfl, 0, by omega, by omega, by simp [T.get_set], 0, by simp [T.get_set]⟩
  rintro m fr2 h' ⟨rfl, k, hk, rfl, f4, n, f3⟩ hag
  have e4 := getK_of f4
  have e3 := getK_of f3
  have a0 := getK_eq (hag 0 rfl)
  have c0 : fr2.get 0 = some (.slice a l.length c) := (hag 0 rfl).trans (by simp [T.get_set])
  have wk : IntKind.wrap .i64 (7 - (k : Int) - 1) = 7 - ((k + 1 : Nat) : Int) := by rw [wrap_i64 (by omega) (by omega)]; omega
  by_cases hlt : k < 8
  · repeat' (first | done | with_reducible (first | refine y1 ?_ (by omega) | refine y2 ?_ (by omega) | refine y3 (fun _ => ?_) (fun _ => ?_) | refine y4 ?_ (by omega) (by omega) | refine y5 ?_ (by omega) | refine y6 ?_ (by with_unfolding_all rfl) | refine y7 ?_ (by with_unfolding_all rfl) | refine y8 ?_ (by with_unfolding_all rfl) | refine y9 ?_ (by with_unfolding_all rfl) | refine ya ?_ (by with_unfolding_all rfl)) | (simp -dsimp only [↓cw_skip, ↓cw_ops, ↓cw_seq, ↓cw_block, ↓cw_cond, ↓seqK_normal, ↓getK_same, ↓getK_ne, ↓evK_tmp, ↓evK_int, ↓evK_bool, ↓condV_var, ↓opsW_nil, ↓opsW_d, ↓opW_move, ↓opW_assign, ↓opW_bin, ↓bin_mul, ↓bin_geq, ↓s62_18_w, ↓s62_19_w, ↓r62_20_w, ↓s62_21_w, ↓s62_22_w, ↓r62_23_w, ↓s62_24_w, ↓r62_25_w, ↓s62_26_w, ↓s62_27_w, ↓s62_28_w, ↓r62_29_w, ↓s62_30_w, ↓s62_31_w, brK_true, ne_eq, Nat.reduceEqDiff, not_false_eq_true, ↓e4, ↓e3]))
    refine cw_loopI (fun m fr' h' => h = h' ∧ ∃ i : Nat, i ≤ l.length ∧ m = l.length - i ∧ fr'.get 6 = some (.int .i64 i) ∧ ∃ b : Bool, fr'.get 5 = some (.bool b)) l.length ?_ (by omega) ?_
    · exact ⟨rfl, 0, by omega, by omega, by simp [T.get_set], false, by simp [T.get_set]⟩
    rintro m fr3 h' ⟨rfl, i, hi, rfl, f6, b, f5⟩ hag2
    have e6 := getK_of f6
    have e5 := getK_of f5
    have b0 := getK_of ((hag2 0 rfl).trans (by simp only [T.get_set]; simpa using c0))
    have f4' : fr3.get 4 = some (.int .i64 (7 - (k : Int))) := (hag2 4 rfl).trans (by simp only [T.get_set]; simpa using f4)
    have b4 := getK_of f4'
    have f3' : fr3.get 3 = some (.int .i64 (IntKind.wrap .i64 (2 * n))) := (hag2 3 rfl).trans (by simp [T.get_set])
    have b3 := getK_of f3'
    by_cases hil : i < l.length
    · obtain ⟨b1, off, hra, hb, dd⟩ := ra i (by simpa using hil)
      simp only [List.getElem_map] at dd
      have d0 := cellAt_of dd (j := 0) rfl
      simp only [Nat.add_zero] at d0
      subst hra
      cases b with
      | true =>
        repeat' (first | done | with_reducible (first | refine y1 ?_ (by omega) | refine y2 ?_ (by omega) | refine y3 (fun _ => ?_) (fun _ => ?_) | refine y4 ?_ (by omega) (by omega) | refine y5 ?_ (by omega) | refine y6 ?_ (by with_unfolding_all rfl) | refine y7 ?_ (by with_unfolding_all rfl) | refine y8 ?_ (by with_unfolding_all rfl) | refine y9 ?_ (by with_unfolding_all rfl) | refine ya ?_ (by with_unfolding_all rfl)) | (simp -dsimp only [↓cw_skip, ↓cw_ops, ↓cw_seq, ↓cw_block, ↓cw_cond, ↓seqK_normal, ↓blockK_normal, ↓loopK_normal, ↓getK_same, ↓getK_ne, ↓evK_tmp, ↓evK_int, ↓evK_bool, ↓condV_var, ↓gdV_var, ↓opsW_nil, ↓opsW_d, ↓opsW_gd, ↓opW_move, ↓opW_assign, ↓opW_pick, ↓opW_bin, ↓bin_add, ↓bin_lss, ↓lenS_some, ↓len_38, ↓r62_9_w, ↓s62_10_w, ↓r62_11_w, ↓s62_12_w, ↓s62_13_w, ↓s62_14_w, ↓r62_15_w, ↓s62_16_w, ↓s62_17_w, brK_true, brK_false, true_and, ne_eq, Nat.reduceEqDiff, not_false_eq_true, Bool.true_eq_false, ↓e6, ↓e5, ↓b0]))
        exact ⟨l.length - (i + 1), by omega, i + 1, by omega, rfl, by simp [T.get_set, wrap_succ (show i ≤ 4611686018427387904 by omega)], true, by simp [T.get_set]⟩
      | false =>
        by_cases he : l[i] = 7 - (k : Int)
        · repeat' (first | done | with_reducible (first | refine y1 ?_ (by omega) | refine y2 ?_ (by omega) | refine y3 (fun _ => ?_) (fun _ => ?_) | refine y4 ?_ (by omega) (by omega) | refine y5 ?_ (by omega) | refine y6 ?_ (by with_unfolding_all rfl) | refine y7 ?_ (by with_unfolding_all rfl) | refine y8 ?_ (by with_unfolding_all rfl) | refine y9 ?_ (by with_unfolding_all rfl) | refine ya ?_ (by with_unfolding_all rfl)) | (simp -dsimp only [↓cw_skip, ↓cw_ops, ↓cw_seq, ↓cw_block, ↓cw_cond, ↓seqK_normal, ↓blockK_normal, ↓loopK_normal, ↓getK_same, ↓getK_ne, ↓evK_tmp, ↓evK_int, ↓condV_var, ↓gdV_var, ↓opsW_nil, ↓opsW_d, ↓opsW_gd, ↓opW_move, ↓opW_assign, ↓opW_pick, ↓opW_bin, ↓bin_add, ↓bin_eql, ↓bin_lss, ↓ld1_some, ↓idxS_some, ↓lenS_some, ↓ld_3, ↓len_38, ↓ia_38, ↓r62_9_w, ↓s62_10_w, ↓r62_11_w, ↓s62_12_w, ↓s62_13_w, ↓s62_14_w, ↓r62_15_w, ↓s62_16_w, ↓s62_17_w, onV_some', brK_true, brK_false, true_and, ne_eq, Nat.reduceEqDiff, not_false_eq_true, Addr.add_lit, Int.toNat_natCast, Bool.false_eq_true,  ↓e6, ↓e5, ↓b0, ↓b4, d0]))
          exact ⟨l.length - (i + 1), by omega, i + 1, by omega, rfl, by simp [T.get_set, wrap_succ (show i ≤ 4611686018427387904 by omega)], true, by simp [T.get_set]⟩
        · repeat' (first | done | with_reducible (first | refine y1 ?_ (by omega) | refine y2 ?_ (by omega) | refine y3 (fun _ => ?_) (fun _ => ?_) | refine y4 ?_ (by omega) (by omega) | refine y5 ?_ (by omega) | refine y6 ?_ (by with_unfolding_all rfl) | refine y7 ?_ (by with_unfolding_all rfl) | refine y8 ?_ (by with_unfolding_all rfl) | refine y9 ?_ (by with_unfolding_all rfl) | refine ya ?_ (by with_unfolding_all rfl)) | (simp -dsimp only [↓cw_skip, ↓cw_ops, ↓cw_seq, ↓cw_block, ↓cw_cond, ↓seqK_normal, ↓blockK_normal, ↓loopK_normal, ↓getK_same, ↓getK_ne, ↓evK_tmp, ↓evK_int, ↓condV_var, ↓gdV_var, ↓opsW_nil, ↓opsW_d, ↓opsW_gd, ↓opW_move, ↓opW_assign, ↓opW_pick, ↓opW_bin, ↓bin_add, ↓bin_eql, ↓bin_lss, ↓ld1_some, ↓idxS_some, ↓lenS_some, ↓ld_3, ↓len_38, ↓ia_38, ↓r62_9_w, ↓s62_10_w, ↓r62_11_w, ↓s62_12_w, ↓s62_13_w, ↓s62_14_w, ↓r62_15_w, ↓s62_16_w, ↓s62_17_w, onV_some', brK_true, brK_false, true_and, ne_eq, Nat.reduceEqDiff, not_false_eq_true, Addr.add_lit, Int.toNat_natCast, Bool.false_eq_true,  ↓e6, ↓e5, ↓b0, ↓b4, d0]))
          exact ⟨l.length - (i + 1), by omega, i + 1, by omega, rfl, by simp [T.get_set, wrap_succ (show i ≤ 4611686018427387904 by omega)], false, by simp [T.get_set]⟩
    · cases b with
      | true =>
        repeat' (first | done | with_reducible (first | refine y1 ?_ (by omega) | refine y2 ?_ (by omega) | refine y3 (fun _ => ?_) (fun _ => ?_) | refine y4 ?_ (by omega) (by omega) | refine y5 ?_ (by omega) | refine y6 ?_ (by with_unfolding_all rfl) | refine y7 ?_ (by with_unfolding_all rfl) | refine y8 ?_ (by with_unfolding_all rfl) | refine y9 ?_ (by with_unfolding_all rfl) | refine ya ?_ (by with_unfolding_all rfl)) | (simp -dsimp only [↓cw_ops, ↓cw_seq, ↓cw_exit, ↓cw_cond, ↓seqK_normal, ↓seqK_exit, ↓blockK_normal, ↓blockK_same, ↓loopK_normal, ↓loopK_exit, ↓getK_same, ↓getK_ne, ↓evK_tmp, ↓evK_int, ↓condV_var, ↓opsW_nil, ↓opsW_d, ↓opW_move, ↓opW_assign, ↓opW_bin, ↓bin_add, ↓bin_sub, ↓bin_lss, ↓lenS_some, ↓len_38, ↓r62_2_w, ↓s62_3_w, ↓r62_4_w, ↓s62_5_w, ↓s62_6_w, ↓r62_7_w, ↓s62_8_w, ↓s62_14_w, ↓r62_15_w, ↓s62_16_w, ↓s62_17_w, brK_true, brK_false, true_and, ne_eq, Nat.reduceEqDiff, not_false_eq_true, Bool.false_eq_true,  ↓e6, ↓e5, ↓b0, ↓b4, ↓b3, wk]))
        exact ⟨8 - (k + 1), by omega, k + 1, by omega, rfl, by simp [T.get_set], _, by simp [T.get_set]; rfl⟩
      | false =>
        repeat' (first | done | with_reducible (first | refine y1 ?_ (by omega) | refine y2 ?_ (by omega) | refine y3 (fun _ => ?_) (fun _ => ?_) | refine y4 ?_ (by omega) (by omega) | refine y5 ?_ (by omega) | refine y6 ?_ (by with_unfolding_all rfl) | refine y7 ?_ (by with_unfolding_all rfl) | refine y8 ?_ (by with_unfolding_all rfl) | refine y9 ?_ (by with_unfolding_all rfl) | refine ya ?_ (by with_unfolding_all rfl)) | (simp -dsimp only [↓cw_skip, ↓cw_ops, ↓cw_seq, ↓cw_exit, ↓cw_cond, ↓seqK_normal, ↓seqK_exit, ↓blockK_normal, ↓blockK_same, ↓loopK_normal, ↓loopK_exit, ↓getK_same, ↓getK_ne, ↓evK_tmp, ↓evK_int, ↓condV_var, ↓opsW_nil, ↓opsW_d, ↓opW_move, ↓opW_assign, ↓opW_bin, ↓bin_sub, ↓bin_lss, ↓lenS_some, ↓len_38, ↓r62_2_w, ↓s62_3_w, ↓s62_6_w, ↓r62_7_w, ↓s62_8_w, ↓s62_14_w, ↓r62_15_w, ↓s62_16_w, ↓s62_17_w, brK_false, true_and, ne_eq, Nat.reduceEqDiff, not_false_eq_true, Bool.false_eq_true,  ↓e6, ↓e5, ↓b0, ↓b4, wk]))
        exact ⟨8 - (k + 1), by omega, k + 1, by omega, rfl, by simp [T.get_set], IntKind.wrap .i64 (2 * n), by simp only [T.get_set]; simpa using f3'⟩
  · repeat' (first | done | with_reducible (first | refine y1 ?_ (by omega) | refine y2 ?_ (by omega) | refine y3 (fun _ => ?_) (fun _ => ?_) | refine y4 ?_ (by omega) (by omega) | refine y5 ?_ (by omega) | refine y6 ?_ (by with_unfolding_all rfl) | refine y7 ?_ (by with_unfolding_all rfl) | refine y8 ?_ (by with_unfolding_all rfl) | refine y9 ?_ (by with_unfolding_all rfl) | refine ya ?_ (by with_unfolding_all rfl)) | (simp -dsimp only [↓cw_ops, ↓cw_seq, ↓cw_exit, ↓cw_ret, ↓cw_cond, ↓seqK_normal, ↓seqK_exit, ↓blockK_same, ↓loopK_exit, ↓getK_same, ↓getK_ne, ↓evK_tmp, ↓evK_int, ↓condV_var, ↓opsW_nil, ↓opsW_d, ↓opW_move, ↓opW_assign, ↓opW_bin, ↓bin_geq, ↓resK_one, ↓cint_int, ↓cv_3_5, ↓r62_0_w, ↓s62_1_w, ↓s62_28_w, ↓r62_29_w, ↓s62_30_w, ↓s62_31_w, brK_false, ne_eq, Nat.reduceEqDiff, not_false_eq_true, Bool.false_eq_true,  ↓e4, ↓e3]))
    exact hK _
end
end Go.Proofs.Ytdjnedamphifcaa

