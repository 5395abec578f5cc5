/- slices' symMerge, walked. -/
import Derived.Test.YtjcmcoabckkjoaaDoorOD
set_option linter.unusedSimpArgs false
set_option linter.unusedVariables false
namespace Go.Proofs.YtjcmcoabckkjoaaDoor.Or
open Go.Ev
set_option maxRecDepth 100000
set_option maxHeartbeats 400000
structure P5 (fr : Fr) (i N a m b : Nat) : Prop where
  p0 : fr.get 0 = some (datV i N)
  p1 : fr.get 1 = some (.int .i64 (a : Nat))
  p2 : fr.get 2 = some (.int .i64 (m : Nat))
  p3 : fr.get 3 = some (.int .i64 (b : Nat))
  p4 : fr.get 4 = some cmpV
theorem P5.same {fr fr' : Fr} {i N a m b : Nat} (p : P5 fr i N a m b) (h0 : fr'.get 0 = fr.get 0) (h1 : fr'.get 1 = fr.get 1) (h2 : fr'.get 2 = fr.get 2) (h3 : fr'.get 3 = fr.get 3) (h4 : fr'.get 4 = fr.get 4) : P5 fr' i N a m b :=
  ⟨h0.trans p.p0, h1.trans p.p1, h2.trans p.p2, h3.trans p.p3, h4.trans p.p4⟩
theorem half_eq (x : Nat) : ((x : Nat) : Int).fdiv (2 ^ min (1 : Int).toNat IntKind.u64.bits) = ((x / 2 : Nat) : Int) := fdiv_pow x 1 (by decide)
/-- one element, put into a sorted range behind it -/
theorem symA {i N a b : Nat} {f : Nat → Nat} {fr : Fr} {h0 : Heap} {K : Value → Heap → Prop} {Q : Ex → Fr → Heap → Prop} (hQ : ∀ fr h, Q .ret fr h = resK env [] K .ret fr h) (hi : i < h0.n) (hg : h0.b.get i = some (.cells (rowL f N) 27 false)) (hN : N ≤ 1000) (hf : Bits f N) (hab : a + 1 < b) (hb : b ≤ N)
    (p : P5 fr i N a (a + 1) b) (so : SortedN f (a + 1) b) (hK : ∀ g h', Up h0 h' i g N → Sw a b f g → SortedN g a b → K (.tuple #[]) h') : s82_126.wp env 220 none fr h0 Q := by
  have i2 := getK_of p.p2
  have i3 := getK_of p.p3
  repeat' (first | done | with_reducible (first | refine y1 ?_ (by omega) | refine y2 ?_ (by omega) | refine y3 (fun _ => ?_) (fun _ => ?_) | refine y4 ?_ (by omega) (by omega) | refine y5 ?_ (by omega) | refine y6 ?_ (by with_unfolding_all rfl) | refine y7 ?_ (by with_unfolding_all rfl) | refine y8 ?_ (by with_unfolding_all rfl) | refine y9 ?_ (by with_unfolding_all rfl) | refine ya ?_ (by with_unfolding_all rfl)) | ((with_reducible refine And.intro ?_ ?_); (· omega)) | (simp -dsimp only [↓cw_ops, ↓cw_seq, ↓cw_block, ↓seqK_normal, ↓getK_same, ↓getK_ne, ↓evK_tmp, ↓opsW_nil, ↓opsW_d, ↓opW_move, ↓opW_assign, ↓s82_121_w, ↓s82_122_w, ↓r82_123_w, ↓s82_124_w, ↓r82_125_w, ↓s82_126_w, ne_eq, Nat.reduceEqDiff, not_false_eq_true, ↓i2, ↓i3]))
  refine cw_loopI (fun x fr' h' => h' = h0 ∧ ∃ (u v : Nat), a + 1 ≤ u ∧ u ≤ v ∧ v ≤ b ∧ x = v - u ∧ fr'.get 10 = some (.int .i64 (u : Nat)) ∧ fr'.get 11 = some (.int .i64 (v : Nat)) ∧ (u = a + 1 ∨ keyN (f (u - 1)) < keyN (f a)) ∧ (v = b ∨ keyN (f a) ≤ keyN (f v))) (b - (a + 1)) ?_ (by omega) ?_
  · exact ⟨rfl, a + 1, b, by omega, by omega, by omega, rfl, by simp [T.get_set], by simp [T.get_set], .inl rfl, .inl rfl⟩
  rintro x fr1 h' ⟨rfl, u, v, hu, huv, hv, rfl, g10, g11, cu, cv⟩ hag
  have p1 : P5 fr1 i N a (a + 1) b := p.same ((hag 0 rfl).trans (by simp [T.get_set])) ((hag 1 rfl).trans (by simp [T.get_set])) ((hag 2 rfl).trans (by simp [T.get_set])) ((hag 3 rfl).trans (by simp [T.get_set])) ((hag 4 rfl).trans (by simp [T.get_set]))
  have z10 := g10
  have z11 := g11
  have g10 := getK_of g10
  have g11 := getK_of g11
  have i0 := getK_of p1.p0
  have i1 := getK_of p1.p1
  have i4 := getK_of p1.p4
  unfold datV at i0
  unfold cmpV at i4
  by_cases hlt : u < v
  · have c1 : (u : Int) < (v : Int) := by omega
    have w1 : IntKind.i64.wrap ((u : Int) + (v : Int)) = ((u + v : Nat) : Int) := by rw [wrap_i64 (by omega) (by omega)]; omega
    have w2 : IntKind.u64.wrap ((u + v : Nat) : Int) = ((u + v : Nat) : Int) := wrap_u64 (by omega) (by omega)
    have w3 := half_eq (u + v)
    obtain ⟨c, hc⟩ : ∃ c, (u + v) / 2 = c := ⟨_, rfl⟩
    rw [hc] at w3
    have w4 : IntKind.i64.wrap ((c : Nat) : Int) = (c : Int) := wrap_i64 (by omega) (by omega)
    have w5 : IntKind.i64.wrap ((c : Int) + 1) = ((c + 1 : Nat) : Int) := by rw [wrap_i64 (by omega) (by omega)]; omega
    have d1 := cellAt_blk hi hg (rowL_get (f := f) (N := N) (k := c) (by omega))
    have d2 := cellAt_blk hi hg (rowL_get (f := f) (N := N) (k := a) (by omega))
    have z1 : 0 + c * 1 = c := zero_add_one _
    have z2 : 0 + a * 1 = a := zero_add_one _
    repeat' (first | done | with_reducible (first | refine y1 ?_ (by omega) | refine y2 ?_ (by omega) | refine y3 (fun _ => ?_) (fun _ => ?_) | refine y4 ?_ (by omega) (by omega) | refine y5 ?_ (by omega) | refine y6 ?_ (by with_unfolding_all rfl) | refine y7 ?_ (by with_unfolding_all rfl) | refine y8 ?_ (by with_unfolding_all rfl) | refine y9 ?_ (by with_unfolding_all rfl) | refine ya ?_ (by with_unfolding_all rfl)) | ((with_reducible refine And.intro ?_ ?_); (· omega)) | (simp -dsimp only [↓cw_skip, ↓cw_ops, ↓cw_plan, ↓cw_seq, ↓cw_block, ↓cw_cond, ↓seqK_normal, ↓getK_same, ↓getK_ne, ↓evK_tmp, ↓evK_int, ↓condV_var, ↓opsW_nil, ↓opsW_d, ↓planW_d, ↓agK_nil, ↓opW_move, ↓opW_assign, ↓opW_bin, ↓bin_add, ↓bin_shr, ↓bin_lss, ↓ld1_some, ↓idxS_some, ↓evs_nil, ↓evs_cons, ↓opW_callV, ↓cint_int, ↓callV_some, ↓ia_25, ↓ld_27, ↓cv_3_69, ↓cv_69_3, ↓p82_112_w, ↓s82_113_w, ↓r82_114_w, ↓s82_115_w, ↓s82_116_w, ↓s82_117_w, ↓r82_118_w, ↓s82_119_w, ↓s82_120_w, onV_some', brK_true, Nat.le_refl, true_and, ne_eq, Nat.reduceEqDiff, not_false_eq_true, Addr.add_lit, Int.toNat_natCast, ↓g10, ↓g11, ↓i0, ↓i1, ↓i4, c1, w1, w2, w3, w4, z1, z2, d1, d2, List.nil_append, List.append_nil]))
    refine cmp_ret (hf c (by omega)) (hf a (by omega)) ?_
    by_cases hcmp : keyN (f c) < keyN (f a)
    · have c3 : cmpN (f c) (f a) < 0 := cmpN_lt.2 hcmp
      repeat' (first | done | with_reducible (first | refine y1 ?_ (by omega) | refine y2 ?_ (by omega) | refine y3 (fun _ => ?_) (fun _ => ?_) | refine y4 ?_ (by omega) (by omega) | refine y5 ?_ (by omega) | refine y6 ?_ (by with_unfolding_all rfl) | refine y7 ?_ (by with_unfolding_all rfl) | refine y8 ?_ (by with_unfolding_all rfl) | refine y9 ?_ (by with_unfolding_all rfl) | refine ya ?_ (by with_unfolding_all rfl)) | ((with_reducible refine And.intro ?_ ?_); (· omega)) | (simp -dsimp only [↓cw_ops, ↓cw_cond, ↓seqK_normal, ↓blockK_normal, ↓loopK_normal, ↓getK_same, ↓getK_ne, ↓evK_tmp, ↓evK_int, ↓condV_var, ↓opsW_nil, ↓opsW_d, ↓planW_nil, ↓planW_d, ↓agK_nil, ↓opW_move, ↓opW_assign, ↓opW_bin, ↓bin_add, ↓bin_lss, ↓r82_107_w, ↓s82_108_w, ↓s82_111_w, brK_true, Nat.le_refl, true_and, ne_eq, Nat.reduceEqDiff, not_false_eq_true, Addr.add_lit, Int.toNat_natCast, c3]))
      refine ⟨v - (c + 1), by omega, c + 1, v, by omega, by omega, by omega, rfl, by simp only [T.get_set]; rw [w1, w2, w3, w4, w5]; simp, ?_, .inr hcmp, cv⟩
      · simp only [T.get_set]; simpa using z11
    · have c3 : ¬ cmpN (f c) (f a) < 0 := fun h => hcmp (cmpN_lt.1 h)
      repeat' (first | done | with_reducible (first | refine y1 ?_ (by omega) | refine y2 ?_ (by omega) | refine y3 (fun _ => ?_) (fun _ => ?_) | refine y4 ?_ (by omega) (by omega) | refine y5 ?_ (by omega) | refine y6 ?_ (by with_unfolding_all rfl) | refine y7 ?_ (by with_unfolding_all rfl) | refine y8 ?_ (by with_unfolding_all rfl) | refine y9 ?_ (by with_unfolding_all rfl) | refine ya ?_ (by with_unfolding_all rfl)) | ((with_reducible refine And.intro ?_ ?_); (· omega)) | (simp -dsimp only [↓cw_ops, ↓cw_cond, ↓seqK_normal, ↓blockK_normal, ↓loopK_normal, ↓getK_same, ↓getK_ne, ↓evK_tmp, ↓evK_int, ↓condV_var, ↓opsW_nil, ↓opsW_d, ↓planW_nil, ↓planW_d, ↓agK_nil, ↓opW_move, ↓opW_assign, ↓opW_bin, ↓bin_lss, ↓r82_109_w, ↓s82_110_w, ↓s82_111_w, brK_false, Nat.le_refl, true_and, ne_eq, Nat.reduceEqDiff, not_false_eq_true, Addr.add_lit, Int.toNat_natCast, Bool.false_eq_true,  c3]))
      refine ⟨c - u, by omega, u, c, by omega, by omega, by omega, rfl, ?_, by simp only [T.get_set]; rw [w1, w2, w3, w4]; simp, cu, .inr (by omega)⟩
      · simp only [T.get_set]; simpa using z10
  · have e : u = v := by omega
    subst e
    have c1 : ¬ (u : Int) < (u : Int) := by omega
    have so2 := shl_sorted so hu hv (cu.imp_right Nat.le_of_lt) cv
    repeat' (first | done | with_reducible (first | refine y1 ?_ (by omega) | refine y2 ?_ (by omega) | refine y3 (fun _ => ?_) (fun _ => ?_) | refine y4 ?_ (by omega) (by omega) | refine y5 ?_ (by omega) | refine y6 ?_ (by with_unfolding_all rfl) | refine y7 ?_ (by with_unfolding_all rfl) | refine y8 ?_ (by with_unfolding_all rfl) | refine y9 ?_ (by with_unfolding_all rfl) | refine ya ?_ (by with_unfolding_all rfl)) | ((with_reducible refine And.intro ?_ ?_); (· omega)) | (simp -dsimp only [↓cw_ops, ↓cw_seq, ↓cw_block, ↓cw_exit, ↓cw_cond, ↓seqK_normal, ↓seqK_exit, ↓blockK_same, ↓loopK_exit, ↓getK_same, ↓getK_ne, ↓evK_tmp, ↓condV_var, ↓opsW_nil, ↓opsW_d, ↓opW_move, ↓opW_assign, ↓opW_bin, ↓bin_lss, ↓s82_102_w, ↓s82_103_w, ↓r82_104_w, ↓s82_105_w, ↓s82_106_w, ↓s82_117_w, ↓r82_118_w, ↓s82_119_w, ↓s82_120_w, brK_false, ne_eq, Nat.reduceEqDiff, not_false_eq_true, Bool.false_eq_true,  ↓g10, ↓g11, ↓i1, c1]))
    refine cw_loopI (fun x fr' h2 => ∃ (k : Nat), a ≤ k ∧ k + 1 ≤ u ∧ x = u - 1 - k ∧ fr'.get 13 = some (.int .i64 (k : Nat)) ∧ fr'.get 10 = some (.int .i64 (u : Nat)) ∧ Up h' h2 i (shl f a (k + 1)) N ∧ Sw a b f (shl f a (k + 1))) (u - 1 - a) ?_ (by omega) ?_
    · refine ⟨a, by omega, by omega, rfl, by simp [T.get_set], ?_, by rw [shl_start]; exact Up.start hi hg, by rw [shl_start]; exact .refl _⟩
      · simp only [T.get_set]; simpa using z10
    rintro x fr2 h2 ⟨k, hk1, hk2, rfl, g13, g10, up, s⟩ hag2
    have p2 : P5 fr2 i N a (a + 1) b := p1.same ((hag2 0 rfl).trans (by simp [T.get_set])) ((hag2 1 rfl).trans (by simp [T.get_set])) ((hag2 2 rfl).trans (by simp [T.get_set])) ((hag2 3 rfl).trans (by simp [T.get_set])) ((hag2 4 rfl).trans (by simp [T.get_set]))
    have n2 := up.n
    have y10 := g10
    have g10 := getK_of g10
    have g13 := getK_of g13
    have j0 := getK_of p2.p0
    unfold datV at j0
    have w6 : IntKind.i64.wrap ((u : Int) - 1) = ((u - 1 : Nat) : Int) := by rw [wrap_i64 (by omega) (by omega)]; omega
    by_cases hlt : k < u - 1
    · have c2 : (k : Int) < ((u - 1 : Nat) : Int) := by omega
      have w7 : IntKind.i64.wrap ((k : Int) + 1) = ((k + 1 : Nat) : Int) := by rw [wrap_i64 (by omega) (by omega)]; omega
      have d1 := up.cell (k := k) (by omega)
      have d2 := up.cell (k := k + 1) (by omega)
      have z1 : 0 + k * 1 = k := zero_add_one _
      have z2 : 0 + (k + 1) * 1 = k + 1 := zero_add_one _
      repeat' (first | done | with_reducible (first | refine y1 ?_ (by omega) | refine y2 ?_ (by omega) | refine y3 (fun _ => ?_) (fun _ => ?_) | refine y4 ?_ (by omega) (by omega) | refine y5 ?_ (by omega) | refine y6 ?_ (by with_unfolding_all rfl) | refine y7 ?_ (by with_unfolding_all rfl) | refine y8 ?_ (by with_unfolding_all rfl) | refine y9 ?_ (by with_unfolding_all rfl) | refine ya ?_ (by with_unfolding_all rfl)) | ((with_reducible refine And.intro ?_ ?_); (· omega)) | (simp -dsimp only [↓cw_skip, ↓cw_ops, ↓cw_plan, ↓cw_seq, ↓cw_block, ↓cw_cond, ↓seqK_normal, ↓getK_same, ↓getK_ne, ↓evK_tmp, ↓evK_int, ↓condV_var, ↓opsW_nil, ↓opsW_d, ↓planW_d, ↓planW_n, ↓agK_nil, ↓opW_move, ↓opW_bin, ↓bin_add, ↓bin_sub, ↓bin_lss, ↓ld1_some, ↓idxS_some, ↓ia_25, ↓ld_27, ↓st_27, ↓p82_95_w, ↓s82_96_w, ↓s82_97_w, ↓s82_98_w, ↓r82_99_w, ↓s82_100_w, ↓s82_101_w, onV_some', brK_true, Nat.le_refl, true_and, ne_eq, Nat.reduceEqDiff, not_false_eq_true, Addr.add_lit, Int.toNat_natCast, ↓g10, ↓g13, ↓j0, c2, w6, w7, z1, z2, d1, d2]))
      refine up.put (by omega) fun h3 u3 => ?_
      have n3 := u3.n
      repeat' (first | done | with_reducible (first | refine y1 ?_ (by omega) | refine y2 ?_ (by omega) | refine y3 (fun _ => ?_) (fun _ => ?_) | refine y4 ?_ (by omega) (by omega) | refine y5 ?_ (by omega) | refine y6 ?_ (by with_unfolding_all rfl) | refine y7 ?_ (by with_unfolding_all rfl) | refine y8 ?_ (by with_unfolding_all rfl) | refine y9 ?_ (by with_unfolding_all rfl) | refine ya ?_ (by with_unfolding_all rfl)) | ((with_reducible refine And.intro ?_ ?_); (· omega)) | (simp -dsimp only [↓getK_same, ↓getK_ne, ↓evK_tmp, ↓planW_d, ↓planW_n, ↓agK_nil, ↓idxS_some, ↓ia_25, ↓st_27, Nat.le_refl, true_and, ne_eq, Nat.reduceEqDiff, not_false_eq_true, Addr.add_lit, Int.toNat_natCast, w7, z2]))
      refine u3.put (by omega) fun h4 u4 => ?_
      have n4 := u4.n
      rw [put_swap, shl_step hk1] at u4
      repeat' (first | done | with_reducible (first | refine y1 ?_ (by omega) | refine y2 ?_ (by omega) | refine y3 (fun _ => ?_) (fun _ => ?_) | refine y4 ?_ (by omega) (by omega) | refine y5 ?_ (by omega) | refine y6 ?_ (by with_unfolding_all rfl) | refine y7 ?_ (by with_unfolding_all rfl) | refine y8 ?_ (by with_unfolding_all rfl) | refine y9 ?_ (by with_unfolding_all rfl) | refine ya ?_ (by with_unfolding_all rfl)) | ((with_reducible refine And.intro ?_ ?_); (· omega)) | (simp -dsimp only [↓cw_ops, ↓seqK_normal, ↓blockK_normal, ↓loopK_normal, ↓getK_same, ↓getK_ne, ↓evK_tmp, ↓evK_int, ↓opsW_nil, ↓opsW_d, ↓planW_nil, ↓agK_nil, ↓opW_move, ↓opW_assign, ↓opW_bin, ↓bin_add, ↓r82_93_w, ↓s82_94_w, true_and, ne_eq, Nat.reduceEqDiff, not_false_eq_true, Addr.add_lit, Int.toNat_natCast, ↓g13, w6, w7, z1, z2]))
      refine ⟨u - 1 - (k + 1), by omega, k + 1, by omega, by omega, rfl, by simp [T.get_set], ?_, u4, ?_⟩
      · simp only [T.get_set]; simpa using y10
      · rw [show k + 1 + 1 = k + 2 from rfl, ← shl_step hk1]; exact .step s _ _ (by omega) (by omega)
    · have e : k = u - 1 := by omega
      subst e
      have c2 : ¬ ((u - 1 : Nat) : Int) < ((u - 1 : Nat) : Int) := by omega
      rw [show u - 1 + 1 = u by omega] at up s
      repeat' (first | done | with_reducible (first | refine y1 ?_ (by omega) | refine y2 ?_ (by omega) | refine y3 (fun _ => ?_) (fun _ => ?_) | refine y4 ?_ (by omega) (by omega) | refine y5 ?_ (by omega) | refine y6 ?_ (by with_unfolding_all rfl) | refine y7 ?_ (by with_unfolding_all rfl) | refine y8 ?_ (by with_unfolding_all rfl) | refine y9 ?_ (by with_unfolding_all rfl) | refine ya ?_ (by with_unfolding_all rfl)) | ((with_reducible refine And.intro ?_ ?_); (· omega)) | (simp -dsimp only [↓cw_ops, ↓cw_seq, ↓cw_exit, ↓cw_ret, ↓cw_cond, ↓seqK_normal, ↓seqK_exit, ↓blockK_same, ↓loopK_exit, ↓getK_same, ↓getK_ne, ↓evK_tmp, ↓evK_int, ↓condV_var, ↓opsW_nil, ↓opsW_d, ↓opW_move, ↓opW_bin, ↓bin_sub, ↓bin_lss, ↓resK_nil', ↓s82_98_w, ↓r82_99_w, ↓s82_100_w, ↓s82_101_w, brK_false, ne_eq, Nat.reduceEqDiff, not_false_eq_true, Bool.false_eq_true,  ↓g10, ↓g13, c2, w6, hQ]))
      exact hK _ h2 up s so2
end Go.Proofs.YtjcmcoabckkjoaaDoor.Or

namespace Go.Proofs.YtjcmcoabckkjoaaDoor.Or
open Go.Ev
set_option maxRecDepth 100000
set_option maxHeartbeats 400000
/-- one element, put into a sorted range ahead of it -/
theorem symB {i N a m : Nat} {f : Nat → Nat} {fr : Fr} {h0 : Heap} {K : Value → Heap → Prop} {Q : Ex → Fr → Heap → Prop} (hQ : ∀ fr h, Q .ret fr h = resK env [] K .ret fr h) (hi : i < h0.n) (hg : h0.b.get i = some (.cells (rowL f N) 27 false)) (hN : N ≤ 1000) (hf : Bits f N) (ham : a < m) (hm : m < N)
    (p : P5 fr i N a m (m + 1)) (so : SortedN f a m) (hK : ∀ g h', Up h0 h' i g N → Sw a (m + 1) f g → SortedN g a (m + 1) → K (.tuple #[]) h') : s82_88.wp env 220 none fr h0 Q := by
  have i1 := getK_of p.p1
  have i2 := getK_of p.p2
  repeat' (first | done | with_reducible (first | refine y1 ?_ (by omega) | refine y2 ?_ (by omega) | refine y3 (fun _ => ?_) (fun _ => ?_) | refine y4 ?_ (by omega) (by omega) | refine y5 ?_ (by omega) | refine y6 ?_ (by with_unfolding_all rfl) | refine y7 ?_ (by with_unfolding_all rfl) | refine y8 ?_ (by with_unfolding_all rfl) | refine y9 ?_ (by with_unfolding_all rfl) | refine ya ?_ (by with_unfolding_all rfl)) | ((with_reducible refine And.intro ?_ ?_); (· omega)) | (simp -dsimp only [↓cw_ops, ↓cw_seq, ↓cw_block, ↓seqK_normal, ↓getK_same, ↓getK_ne, ↓evK_tmp, ↓opsW_nil, ↓opsW_d, ↓opW_move, ↓opW_assign, ↓s82_83_w, ↓s82_84_w, ↓r82_85_w, ↓s82_86_w, ↓r82_87_w, ↓s82_88_w, ne_eq, Nat.reduceEqDiff, not_false_eq_true, ↓i1, ↓i2]))
  refine cw_loopI (fun x fr' h' => h' = h0 ∧ ∃ (u v : Nat), a ≤ u ∧ u ≤ v ∧ v ≤ m ∧ x = v - u ∧ fr'.get 14 = some (.int .i64 (u : Nat)) ∧ fr'.get 15 = some (.int .i64 (v : Nat)) ∧ (u = a ∨ keyN (f (u - 1)) ≤ keyN (f m)) ∧ (v = m ∨ keyN (f m) < keyN (f v))) (m - a) ?_ (by omega) ?_
  · exact ⟨rfl, a, m, by omega, by omega, by omega, rfl, by simp [T.get_set], by simp [T.get_set], .inl rfl, .inl rfl⟩
  rintro x fr1 h' ⟨rfl, u, v, hu, huv, hv, rfl, g10, g11, cu, cv⟩ hag
  have p1 : P5 fr1 i N a m (m + 1) := p.same ((hag 0 rfl).trans (by simp [T.get_set])) ((hag 1 rfl).trans (by simp [T.get_set])) ((hag 2 rfl).trans (by simp [T.get_set])) ((hag 3 rfl).trans (by simp [T.get_set])) ((hag 4 rfl).trans (by simp [T.get_set]))
  have z10 := g10
  have z11 := g11
  have g10 := getK_of g10
  have g11 := getK_of g11
  have i0 := getK_of p1.p0
  have i2 := getK_of p1.p2
  have i4 := getK_of p1.p4
  unfold datV at i0
  unfold cmpV at i4
  by_cases hlt : u < v
  · have c1 : (u : Int) < (v : Int) := by omega
    have w1 : IntKind.i64.wrap ((u : Int) + (v : Int)) = ((u + v : Nat) : Int) := by rw [wrap_i64 (by omega) (by omega)]; omega
    have w2 : IntKind.u64.wrap ((u + v : Nat) : Int) = ((u + v : Nat) : Int) := wrap_u64 (by omega) (by omega)
    have w3 := half_eq (u + v)
    obtain ⟨c, hc⟩ : ∃ c, (u + v) / 2 = c := ⟨_, rfl⟩
    rw [hc] at w3
    have w4 : IntKind.i64.wrap ((c : Nat) : Int) = (c : Int) := wrap_i64 (by omega) (by omega)
    have w5 : IntKind.i64.wrap ((c : Int) + 1) = ((c + 1 : Nat) : Int) := by rw [wrap_i64 (by omega) (by omega)]; omega
    have d1 := cellAt_blk hi hg (rowL_get (f := f) (N := N) (k := c) (by omega))
    have d2 := cellAt_blk hi hg (rowL_get (f := f) (N := N) (k := m) (by omega))
    have z1 : 0 + c * 1 = c := zero_add_one _
    have z2 : 0 + m * 1 = m := zero_add_one _
    repeat' (first | done | with_reducible (first | refine y1 ?_ (by omega) | refine y2 ?_ (by omega) | refine y3 (fun _ => ?_) (fun _ => ?_) | refine y4 ?_ (by omega) (by omega) | refine y5 ?_ (by omega) | refine y6 ?_ (by with_unfolding_all rfl) | refine y7 ?_ (by with_unfolding_all rfl) | refine y8 ?_ (by with_unfolding_all rfl) | refine y9 ?_ (by with_unfolding_all rfl) | refine ya ?_ (by with_unfolding_all rfl)) | ((with_reducible refine And.intro ?_ ?_); (· omega)) | (simp -dsimp only [↓cw_skip, ↓cw_ops, ↓cw_plan, ↓cw_seq, ↓cw_block, ↓cw_cond, ↓seqK_normal, ↓getK_same, ↓getK_ne, ↓evK_tmp, ↓evK_int, ↓condV_var, ↓opsW_nil, ↓opsW_d, ↓planW_d, ↓agK_nil, ↓opW_move, ↓opW_assign, ↓opW_bin, ↓bin_add, ↓bin_shr, ↓bin_lss, ↓ld1_some, ↓idxS_some, ↓evs_nil, ↓evs_cons, ↓opW_callV, ↓cint_int, ↓callV_some, ↓ia_25, ↓ld_27, ↓cv_3_69, ↓cv_69_3, ↓p82_74_w, ↓s82_75_w, ↓r82_76_w, ↓s82_77_w, ↓s82_78_w, ↓s82_79_w, ↓r82_80_w, ↓s82_81_w, ↓s82_82_w, onV_some', brK_true, Nat.le_refl, true_and, ne_eq, Nat.reduceEqDiff, not_false_eq_true, Addr.add_lit, Int.toNat_natCast, ↓g10, ↓g11, ↓i0, ↓i2, ↓i4, c1, w1, w2, w3, w4, z1, z2, d1, d2, List.nil_append, List.append_nil]))
    refine cmp_ret (hf m (by omega)) (hf c (by omega)) ?_
    by_cases hcmp : keyN (f m) < keyN (f c)
    · have c3 : (!decide (cmpN (f m) (f c) < 0)) = false := by rw [decide_eq_true (cmpN_lt.2 hcmp)]; rfl
      have c4 : cmpN (f m) (f c) < 0 := cmpN_lt.2 hcmp
      repeat' (first | done | with_reducible (first | refine y1 ?_ (by omega) | refine y2 ?_ (by omega) | refine y3 (fun _ => ?_) (fun _ => ?_) | refine y4 ?_ (by omega) (by omega) | refine y5 ?_ (by omega) | refine y6 ?_ (by with_unfolding_all rfl) | refine y7 ?_ (by with_unfolding_all rfl) | refine y8 ?_ (by with_unfolding_all rfl) | refine y9 ?_ (by with_unfolding_all rfl) | refine ya ?_ (by with_unfolding_all rfl)) | ((with_reducible refine And.intro ?_ ?_); (· omega)) | (simp -dsimp only [↓cw_ops, ↓cw_cond, ↓seqK_normal, ↓blockK_normal, ↓loopK_normal, ↓getK_same, ↓getK_ne, ↓evK_tmp, ↓evK_int, ↓condV_var, ↓opsW_nil, ↓opsW_d, ↓planW_nil, ↓planW_d, ↓agK_nil, ↓opW_move, ↓opW_assign, ↓opW_bin, ↓bin_lss, ↓opW_un, ↓un_not, ↓r82_71_w, ↓s82_72_w, ↓s82_73_w, brK_true, brK_false, Nat.le_refl, true_and, ne_eq, Nat.reduceEqDiff, not_false_eq_true, Addr.add_lit, Int.toNat_natCast, Bool.false_eq_true,  c4, Bool.not_true]))
      refine ⟨c - u, by omega, u, c, by omega, by omega, by omega, rfl, ?_, by simp only [T.get_set]; rw [w1, w2, w3, w4]; simp, cu, .inr hcmp⟩
      · simp only [T.get_set]; simpa using z10
    · have c4 : ¬ cmpN (f m) (f c) < 0 := fun h => hcmp (cmpN_lt.1 h)
      repeat' (first | done | with_reducible (first | refine y1 ?_ (by omega) | refine y2 ?_ (by omega) | refine y3 (fun _ => ?_) (fun _ => ?_) | refine y4 ?_ (by omega) (by omega) | refine y5 ?_ (by omega) | refine y6 ?_ (by with_unfolding_all rfl) | refine y7 ?_ (by with_unfolding_all rfl) | refine y8 ?_ (by with_unfolding_all rfl) | refine y9 ?_ (by with_unfolding_all rfl) | refine ya ?_ (by with_unfolding_all rfl)) | ((with_reducible refine And.intro ?_ ?_); (· omega)) | (simp -dsimp only [↓cw_ops, ↓cw_cond, ↓seqK_normal, ↓blockK_normal, ↓loopK_normal, ↓getK_same, ↓getK_ne, ↓evK_tmp, ↓evK_int, ↓condV_var, ↓opsW_nil, ↓opsW_d, ↓planW_nil, ↓planW_d, ↓agK_nil, ↓opW_move, ↓opW_assign, ↓opW_bin, ↓bin_add, ↓bin_lss, ↓opW_un, ↓un_not, ↓r82_69_w, ↓s82_70_w, ↓s82_73_w, brK_true, brK_false, Nat.le_refl, true_and, ne_eq, Nat.reduceEqDiff, not_false_eq_true, Addr.add_lit, Int.toNat_natCast, c4, Bool.not_false]))
      refine ⟨v - (c + 1), by omega, c + 1, v, by omega, by omega, by omega, rfl, by simp only [T.get_set]; rw [w1, w2, w3, w4, w5]; simp, ?_, .inr (by rw [Nat.add_sub_cancel]; omega), cv⟩
      · simp only [T.get_set]; simpa using z11
  · have e : u = v := by omega
    subst e
    have c1 : ¬ (u : Int) < (u : Int) := by omega
    have so2 := shr_sorted so hu hv cu (cv.imp_right Nat.le_of_lt)
    repeat' (first | done | with_reducible (first | refine y1 ?_ (by omega) | refine y2 ?_ (by omega) | refine y3 (fun _ => ?_) (fun _ => ?_) | refine y4 ?_ (by omega) (by omega) | refine y5 ?_ (by omega) | refine y6 ?_ (by with_unfolding_all rfl) | refine y7 ?_ (by with_unfolding_all rfl) | refine y8 ?_ (by with_unfolding_all rfl) | refine y9 ?_ (by with_unfolding_all rfl) | refine ya ?_ (by with_unfolding_all rfl)) | ((with_reducible refine And.intro ?_ ?_); (· omega)) | (simp -dsimp only [↓cw_ops, ↓cw_seq, ↓cw_block, ↓cw_exit, ↓cw_cond, ↓seqK_normal, ↓seqK_exit, ↓blockK_same, ↓loopK_exit, ↓getK_same, ↓getK_ne, ↓evK_tmp, ↓condV_var, ↓opsW_nil, ↓opsW_d, ↓opW_move, ↓opW_assign, ↓opW_bin, ↓bin_lss, ↓s82_64_w, ↓s82_65_w, ↓r82_66_w, ↓s82_67_w, ↓s82_68_w, ↓s82_79_w, ↓r82_80_w, ↓s82_81_w, ↓s82_82_w, brK_false, ne_eq, Nat.reduceEqDiff, not_false_eq_true, Bool.false_eq_true,  ↓g10, ↓g11, ↓i2, c1]))
    refine cw_loopI (fun x fr' h2 => ∃ (k : Nat), u ≤ k ∧ k ≤ m ∧ x = k - u ∧ fr'.get 17 = some (.int .i64 (k : Nat)) ∧ fr'.get 14 = some (.int .i64 (u : Nat)) ∧ Up h' h2 i (shr f k m) N ∧ Sw a (m + 1) f (shr f k m)) (m - u) ?_ (by omega) ?_
    · refine ⟨m, by omega, by omega, rfl, by simp [T.get_set], ?_, by rw [shr_start]; exact Up.start hi hg, by rw [shr_start]; exact .refl _⟩
      · simp only [T.get_set]; simpa using z10
    rintro x fr2 h2 ⟨k, hk1, hk2, rfl, g13, g10, up, s⟩ hag2
    have p2 : P5 fr2 i N a m (m + 1) := p1.same ((hag2 0 rfl).trans (by simp [T.get_set])) ((hag2 1 rfl).trans (by simp [T.get_set])) ((hag2 2 rfl).trans (by simp [T.get_set])) ((hag2 3 rfl).trans (by simp [T.get_set])) ((hag2 4 rfl).trans (by simp [T.get_set]))
    have n2 := up.n
    have y10 := g10
    have g10 := getK_of g10
    have g13 := getK_of g13
    have j0 := getK_of p2.p0
    unfold datV at j0
    by_cases hlt : u < k
    · have c2 : (u : Int) < (k : Int) := by omega
      have w7 : IntKind.i64.wrap ((k : Int) - 1) = ((k - 1 : Nat) : Int) := by rw [wrap_i64 (by omega) (by omega)]; omega
      have d1 := up.cell (k := k) (by omega)
      have d2 := up.cell (k := k - 1) (by omega)
      have z1 : 0 + k * 1 = k := zero_add_one _
      have z2 : 0 + (k - 1) * 1 = k - 1 := zero_add_one _
      repeat' (first | done | with_reducible (first | refine y1 ?_ (by omega) | refine y2 ?_ (by omega) | refine y3 (fun _ => ?_) (fun _ => ?_) | refine y4 ?_ (by omega) (by omega) | refine y5 ?_ (by omega) | refine y6 ?_ (by with_unfolding_all rfl) | refine y7 ?_ (by with_unfolding_all rfl) | refine y8 ?_ (by with_unfolding_all rfl) | refine y9 ?_ (by with_unfolding_all rfl) | refine ya ?_ (by with_unfolding_all rfl)) | ((with_reducible refine And.intro ?_ ?_); (· omega)) | (simp -dsimp only [↓cw_skip, ↓cw_ops, ↓cw_plan, ↓cw_seq, ↓cw_block, ↓cw_cond, ↓seqK_normal, ↓getK_same, ↓getK_ne, ↓evK_tmp, ↓evK_int, ↓condV_var, ↓opsW_nil, ↓opsW_d, ↓planW_d, ↓planW_n, ↓agK_nil, ↓opW_move, ↓opW_bin, ↓bin_sub, ↓bin_gtr, ↓ld1_some, ↓idxS_some, ↓ia_25, ↓ld_27, ↓st_27, ↓p82_57_w, ↓s82_58_w, ↓s82_59_w, ↓s82_60_w, ↓r82_61_w, ↓s82_62_w, ↓s82_63_w, onV_some', brK_true, Nat.le_refl, true_and, ne_eq, Nat.reduceEqDiff, not_false_eq_true, Addr.add_lit, Int.toNat_natCast, ↓g10, ↓g13, ↓j0, c2, w7, z1, z2, d1, d2]))
      refine up.put (by omega) fun h3 u3 => ?_
      have n3 := u3.n
      repeat' (first | done | with_reducible (first | refine y1 ?_ (by omega) | refine y2 ?_ (by omega) | refine y3 (fun _ => ?_) (fun _ => ?_) | refine y4 ?_ (by omega) (by omega) | refine y5 ?_ (by omega) | refine y6 ?_ (by with_unfolding_all rfl) | refine y7 ?_ (by with_unfolding_all rfl) | refine y8 ?_ (by with_unfolding_all rfl) | refine y9 ?_ (by with_unfolding_all rfl) | refine ya ?_ (by with_unfolding_all rfl)) | ((with_reducible refine And.intro ?_ ?_); (· omega)) | (simp -dsimp only [↓getK_same, ↓getK_ne, ↓evK_tmp, ↓planW_d, ↓planW_n, ↓agK_nil, ↓idxS_some, ↓ia_25, ↓st_27, Nat.le_refl, true_and, ne_eq, Nat.reduceEqDiff, not_false_eq_true, Addr.add_lit, Int.toNat_natCast, w7, z2]))
      refine u3.put (by omega) fun h4 u4 => ?_
      have n4 := u4.n
      rw [put_swap, shr_step (by omega) hk2] at u4
      repeat' (first | done | with_reducible (first | refine y1 ?_ (by omega) | refine y2 ?_ (by omega) | refine y3 (fun _ => ?_) (fun _ => ?_) | refine y4 ?_ (by omega) (by omega) | refine y5 ?_ (by omega) | refine y6 ?_ (by with_unfolding_all rfl) | refine y7 ?_ (by with_unfolding_all rfl) | refine y8 ?_ (by with_unfolding_all rfl) | refine y9 ?_ (by with_unfolding_all rfl) | refine ya ?_ (by with_unfolding_all rfl)) | ((with_reducible refine And.intro ?_ ?_); (· omega)) | (simp -dsimp only [↓cw_ops, ↓seqK_normal, ↓blockK_normal, ↓loopK_normal, ↓getK_same, ↓getK_ne, ↓evK_tmp, ↓evK_int, ↓opsW_nil, ↓opsW_d, ↓planW_nil, ↓agK_nil, ↓opW_move, ↓opW_assign, ↓opW_bin, ↓bin_sub, ↓r82_55_w, ↓s82_56_w, true_and, ne_eq, Nat.reduceEqDiff, not_false_eq_true, Addr.add_lit, Int.toNat_natCast, ↓g13, w7, z1, z2]))
      refine ⟨k - 1 - u, by omega, k - 1, by omega, by omega, rfl, by simp [T.get_set], ?_, u4, ?_⟩
      · simp only [T.get_set]; simpa using y10
      · rw [← shr_step (by omega) hk2]; exact .step s _ _ (by omega) (by omega)
    · have e : k = u := by omega
      subst e
      have c2 : ¬ (k : Int) < (k : Int) := by omega
      repeat' (first | done | with_reducible (first | refine y1 ?_ (by omega) | refine y2 ?_ (by omega) | refine y3 (fun _ => ?_) (fun _ => ?_) | refine y4 ?_ (by omega) (by omega) | refine y5 ?_ (by omega) | refine y6 ?_ (by with_unfolding_all rfl) | refine y7 ?_ (by with_unfolding_all rfl) | refine y8 ?_ (by with_unfolding_all rfl) | refine y9 ?_ (by with_unfolding_all rfl) | refine ya ?_ (by with_unfolding_all rfl)) | ((with_reducible refine And.intro ?_ ?_); (· omega)) | (simp -dsimp only [↓cw_ops, ↓cw_seq, ↓cw_exit, ↓cw_ret, ↓cw_cond, ↓seqK_normal, ↓seqK_exit, ↓blockK_same, ↓loopK_exit, ↓getK_same, ↓getK_ne, ↓evK_tmp, ↓condV_var, ↓opsW_nil, ↓opsW_d, ↓opW_move, ↓opW_bin, ↓bin_gtr, ↓resK_nil', ↓s82_60_w, ↓r82_61_w, ↓s82_62_w, ↓s82_63_w, brK_false, ne_eq, Nat.reduceEqDiff, not_false_eq_true, Bool.false_eq_true,  ↓g10, ↓g13, c2, hQ]))
      exact hK _ h2 up s so2
end Go.Proofs.YtjcmcoabckkjoaaDoor.Or

namespace Go.Proofs.YtjcmcoabckkjoaaDoor.Or
open Go.Ev
set_option maxRecDepth 100000
set_option maxHeartbeats 400000
/-- what a merge does -/
def Mrg (i N a m b : Nat) : Prop := ∀ (f : Nat → Nat) (h0 : Heap) (K : Value → Heap → Prop), i < h0.n → h0.b.get i = some (.cells (rowL f N) 27 false) → Bits f N → SortedN f a m → SortedN f m b →
  (∀ g h', Up h0 h' i g N → Sw a b f g → SortedN g a b → K (.tuple #[]) h') → Ret env (.func 82) [datV i N, .int .i64 (a : Nat), .int .i64 (m : Nat), .int .i64 (b : Nat), cmpV] h0 K
/-- the last of it: what stands behind the turn -/
theorem symE {i N a m b mid st : Nat} {f : Nat → Nat} {fr : Fr} {h0 : Heap} {K : Value → Heap → Prop} (hi : i < h0.n) (hg : h0.b.get i = some (.cells (rowL f N) 27 false)) (hN : N ≤ 1000) (hf : Bits f N) (hb : b ≤ N) (hmid : mid < b) (ham : a < mid) (hs1 : a ≤ st) (hs2 : st ≤ mid)
    (en : Nat) (he1 : mid ≤ en) (he2 : en ≤ b) (ih1 : a < st → st < mid → Mrg i N a st mid) (ih2 : mid < en → en < b → Mrg i N mid en b)
    (p : P5 fr i N a m b) (g18 : fr.get 18 = some (.int .i64 (mid : Nat))) (g20 : fr.get 20 = some (.int .i64 (st : Nat))) (g24 : fr.get 24 = some (.int .i64 (en : Nat)))
    (s1 : SortedN f a st) (s2 : SortedN f st mid) (s3 : SortedN f mid en) (s4 : SortedN f en b) (hx : ∀ i j, a ≤ i → i < mid → mid ≤ j → j < b → keyN (f i) ≤ keyN (f j))
    (hK : ∀ g h', Up h0 h' i g N → Sw a b f g → SortedN g a b → K (.tuple #[]) h') : s82_10.wp env 220 none fr h0 (resK env [] K) := by
  have i0 := getK_of p.p0
  have i1 := getK_of p.p1
  have i3 := getK_of p.p3
  have i4 := getK_of p.p4
  have i18 := getK_of g18
  have i20 := getK_of g20
  have i24 := getK_of g24
  -- the second half, of a row whose first one is done
  have last : ∀ (fr' : Fr), fr'.get 0 = fr.get 0 → fr'.get 3 = fr.get 3 → fr'.get 4 = fr.get 4 → fr'.get 18 = fr.get 18 → fr'.get 24 = fr.get 24 → ∀ g h1, Up h0 h1 i g N → Sw a mid f g → SortedN g a mid → s82_4.wp env 220 none fr' h1 (resK env [] K) := by
    intro fr' e0 e3 e4 e18 e24 g h1 u s so
    have j0 := getK_of (e0.trans p.p0)
    have j3 := getK_of (e3.trans p.p3)
    have j4 := getK_of (e4.trans p.p4)
    have j18 := getK_of (e18.trans g18)
    have j24 := getK_of (e24.trans g24)
    have n1 := u.n
    have hgs : ∀ k, mid ≤ k → g k = f k := fun k hk => s.out (.inr hk)
    have t3 : SortedN g mid en := s3.congr fun k q1 q2 => hgs k q1
    have t4 : SortedN g en b := s4.congr fun k q1 q2 => hgs k (by omega)
    have gb := hf.sw (s.mono (Nat.le_refl _) (by omega : mid ≤ b)) hb
    by_cases c1 : mid < en
    · have d1 : (mid : Int) < (en : Int) := by omega
      by_cases c2 : en < b
      · have d2 : (en : Int) < (b : Int) := by omega
        repeat' (first | done | with_reducible (first | refine y1 ?_ (by omega) | refine y2 ?_ (by omega) | refine y3 (fun _ => ?_) (fun _ => ?_) | refine y4 ?_ (by omega) (by omega) | refine y5 ?_ (by omega) | refine y6 ?_ (by with_unfolding_all rfl) | refine y7 ?_ (by with_unfolding_all rfl) | refine y8 ?_ (by with_unfolding_all rfl) | refine y9 ?_ (by with_unfolding_all rfl) | refine ya ?_ (by with_unfolding_all rfl)) | ((with_reducible refine And.intro ?_ ?_); (· omega)) | (simp -dsimp only [↓cw_ops, ↓cw_seq, ↓cw_cond, ↓seqK_normal, ↓getK_same, ↓getK_ne, ↓evK_tmp, ↓condV_var, ↓gdV_var, ↓opsW_nil, ↓opsW_d, ↓opsW_gd, ↓opW_move, ↓opW_pick, ↓opW_bin, ↓bin_lss, ↓evs_nil, ↓evs_cons, ↓opW_call, ↓r82_0_w, ↓s82_1_w, ↓s82_2_w, ↓r82_3_w, ↓s82_4_w, brK_true, ne_eq, Nat.reduceEqDiff, not_false_eq_true, ↓j0, ↓j3, ↓j4, ↓j18, ↓j24, d1, d2]))
        refine ih2 c1 c2 g h1 _ u.lt' u.g gb t3 t4 fun g2 h2 u2 w2 so2 => ?_
        have n2 := u2.n
        repeat' (first | done | with_reducible (first | refine y1 ?_ (by omega) | refine y2 ?_ (by omega) | refine y3 (fun _ => ?_) (fun _ => ?_) | refine y4 ?_ (by omega) (by omega) | refine y5 ?_ (by omega) | refine y6 ?_ (by with_unfolding_all rfl) | refine y7 ?_ (by with_unfolding_all rfl) | refine y8 ?_ (by with_unfolding_all rfl) | refine y9 ?_ (by with_unfolding_all rfl) | refine ya ?_ (by with_unfolding_all rfl)) | ((with_reducible refine And.intro ?_ ?_); (· omega)) | (simp -dsimp only [↓opsW_nil, ↓resK_nil]))
        have hx2 := cross_sw hx s w2
        have so1 : SortedN g2 a mid := so.congr fun k q1 q2 => w2.out (.inl q2)
        exact hK g2 h2 (u.trans u2) ((s.mono (Nat.le_refl _) (by omega)).trans (w2.mono (by omega) (Nat.le_refl _))) (SortedN.glue so1 so2 hx2)
      · have d2 : ¬ (en : Int) < (b : Int) := by omega
        have e : en = b := by omega
        subst e
        have hx2 := cross_sw hx s (.refl (a := mid) (b := en) g)
        repeat' (first | done | with_reducible (first | refine y1 ?_ (by omega) | refine y2 ?_ (by omega) | refine y3 (fun _ => ?_) (fun _ => ?_) | refine y4 ?_ (by omega) (by omega) | refine y5 ?_ (by omega) | refine y6 ?_ (by with_unfolding_all rfl) | refine y7 ?_ (by with_unfolding_all rfl) | refine y8 ?_ (by with_unfolding_all rfl) | refine y9 ?_ (by with_unfolding_all rfl) | refine ya ?_ (by with_unfolding_all rfl)) | ((with_reducible refine And.intro ?_ ?_); (· omega)) | (simp -dsimp only [↓cw_skip, ↓cw_ops, ↓cw_seq, ↓cw_cond, ↓seqK_normal, ↓getK_same, ↓getK_ne, ↓evK_tmp, ↓condV_var, ↓gdV_var, ↓opsW_nil, ↓opsW_d, ↓opsW_gd, ↓opW_move, ↓opW_pick, ↓opW_bin, ↓bin_lss, ↓resK_nil, ↓s82_2_w, ↓r82_3_w, ↓s82_4_w, brK_true, brK_false, ne_eq, Nat.reduceEqDiff, not_false_eq_true, Bool.false_eq_true,  ↓j3, ↓j18, ↓j24, d1, d2]))
        exact hK g h1 u (s.mono (Nat.le_refl _) (by omega)) (SortedN.glue so t3 hx2)
    · have d1 : ¬ (mid : Int) < (en : Int) := by omega
      have e : en = mid := by omega
      subst e
      have hx2 := cross_sw hx s (.refl (a := en) (b := b) g)
      repeat' (first | done | with_reducible (first | refine y1 ?_ (by omega) | refine y2 ?_ (by omega) | refine y3 (fun _ => ?_) (fun _ => ?_) | refine y4 ?_ (by omega) (by omega) | refine y5 ?_ (by omega) | refine y6 ?_ (by with_unfolding_all rfl) | refine y7 ?_ (by with_unfolding_all rfl) | refine y8 ?_ (by with_unfolding_all rfl) | refine y9 ?_ (by with_unfolding_all rfl) | refine ya ?_ (by with_unfolding_all rfl)) | ((with_reducible refine And.intro ?_ ?_); (· omega)) | (simp -dsimp only [↓cw_skip, ↓cw_ops, ↓cw_seq, ↓cw_cond, ↓seqK_normal, ↓getK_same, ↓getK_ne, ↓evK_tmp, ↓evK_bool, ↓condV_var, ↓gdV_var, ↓opsW_nil, ↓opsW_d, ↓opsW_gd, ↓opW_move, ↓opW_pick, ↓opW_bin, ↓bin_lss, ↓resK_nil, ↓s82_2_w, ↓r82_3_w, ↓s82_4_w, brK_false, ne_eq, Nat.reduceEqDiff, not_false_eq_true, Bool.false_eq_true,  ↓j18, ↓j24, d1]))
      exact hK g h1 u (s.mono (Nat.le_refl _) (by omega)) (SortedN.glue so t4 hx2)
  by_cases c1 : a < st
  · have d1 : (a : Int) < (st : Int) := by omega
    by_cases c2 : st < mid
    · have d2 : (st : Int) < (mid : Int) := by omega
      repeat' (first | done | with_reducible (first | refine y1 ?_ (by omega) | refine y2 ?_ (by omega) | refine y3 (fun _ => ?_) (fun _ => ?_) | refine y4 ?_ (by omega) (by omega) | refine y5 ?_ (by omega) | refine y6 ?_ (by with_unfolding_all rfl) | refine y7 ?_ (by with_unfolding_all rfl) | refine y8 ?_ (by with_unfolding_all rfl) | refine y9 ?_ (by with_unfolding_all rfl) | refine ya ?_ (by with_unfolding_all rfl)) | ((with_reducible refine And.intro ?_ ?_); (· omega)) | (simp -dsimp only [↓cw_ops, ↓cw_seq, ↓cw_cond, ↓seqK_normal, ↓getK_same, ↓getK_ne, ↓evK_tmp, ↓condV_var, ↓gdV_var, ↓opsW_nil, ↓opsW_d, ↓opsW_gd, ↓opW_move, ↓opW_pick, ↓opW_bin, ↓bin_lss, ↓evs_nil, ↓evs_cons, ↓opW_call, ↓r82_5_w, ↓s82_6_w, ↓s82_7_w, ↓r82_8_w, ↓s82_9_w, ↓s82_10_w, brK_true, ne_eq, Nat.reduceEqDiff, not_false_eq_true, ↓i0, ↓i1, ↓i4, ↓i18, ↓i20, d1, d2]))
      refine ih1 c1 c2 f h0 _ hi hg hf s1 s2 fun g h1 u s so => ?_
      have n1 := u.n
      repeat' (first | done | with_reducible (first | refine y1 ?_ (by omega) | refine y2 ?_ (by omega) | refine y3 (fun _ => ?_) (fun _ => ?_) | refine y4 ?_ (by omega) (by omega) | refine y5 ?_ (by omega) | refine y6 ?_ (by with_unfolding_all rfl) | refine y7 ?_ (by with_unfolding_all rfl) | refine y8 ?_ (by with_unfolding_all rfl) | refine y9 ?_ (by with_unfolding_all rfl) | refine ya ?_ (by with_unfolding_all rfl)) | ((with_reducible refine And.intro ?_ ?_); (· omega)) | (simp -dsimp only [↓seqK_normal, ↓opsW_nil]))
      exact last _ (by simp [T.get_set]) (by simp [T.get_set]) (by simp [T.get_set]) (by simp [T.get_set]) (by simp [T.get_set]) g h1 u s so
    · have d2 : ¬ (st : Int) < (mid : Int) := by omega
      have e : st = mid := by omega
      subst e
      repeat' (first | done | with_reducible (first | refine y1 ?_ (by omega) | refine y2 ?_ (by omega) | refine y3 (fun _ => ?_) (fun _ => ?_) | refine y4 ?_ (by omega) (by omega) | refine y5 ?_ (by omega) | refine y6 ?_ (by with_unfolding_all rfl) | refine y7 ?_ (by with_unfolding_all rfl) | refine y8 ?_ (by with_unfolding_all rfl) | refine y9 ?_ (by with_unfolding_all rfl) | refine ya ?_ (by with_unfolding_all rfl)) | ((with_reducible refine And.intro ?_ ?_); (· omega)) | (simp -dsimp only [↓cw_skip, ↓cw_ops, ↓cw_seq, ↓cw_cond, ↓seqK_normal, ↓getK_same, ↓getK_ne, ↓evK_tmp, ↓condV_var, ↓gdV_var, ↓opsW_nil, ↓opsW_d, ↓opsW_gd, ↓opW_move, ↓opW_pick, ↓opW_bin, ↓bin_lss, ↓s82_7_w, ↓r82_8_w, ↓s82_9_w, ↓s82_10_w, brK_true, brK_false, ne_eq, Nat.reduceEqDiff, not_false_eq_true, Bool.false_eq_true,  ↓i1, ↓i18, ↓i20, d1, d2]))
      exact last _ (by simp [T.get_set]) (by simp [T.get_set]) (by simp [T.get_set]) (by simp [T.get_set]) (by simp [T.get_set]) f h0 (Up.start hi hg) (.refl _) s1
  · have d1 : ¬ (a : Int) < (st : Int) := by omega
    have e : st = a := by omega
    subst e
    repeat' (first | done | with_reducible (first | refine y1 ?_ (by omega) | refine y2 ?_ (by omega) | refine y3 (fun _ => ?_) (fun _ => ?_) | refine y4 ?_ (by omega) (by omega) | refine y5 ?_ (by omega) | refine y6 ?_ (by with_unfolding_all rfl) | refine y7 ?_ (by with_unfolding_all rfl) | refine y8 ?_ (by with_unfolding_all rfl) | refine y9 ?_ (by with_unfolding_all rfl) | refine ya ?_ (by with_unfolding_all rfl)) | ((with_reducible refine And.intro ?_ ?_); (· omega)) | (simp -dsimp only [↓cw_skip, ↓cw_ops, ↓cw_seq, ↓cw_cond, ↓seqK_normal, ↓getK_same, ↓getK_ne, ↓evK_tmp, ↓evK_bool, ↓condV_var, ↓gdV_var, ↓opsW_nil, ↓opsW_d, ↓opsW_gd, ↓opW_move, ↓opW_pick, ↓opW_bin, ↓bin_lss, ↓s82_7_w, ↓r82_8_w, ↓s82_9_w, ↓s82_10_w, brK_false, ne_eq, Nat.reduceEqDiff, not_false_eq_true, Bool.false_eq_true,  ↓i1, ↓i20, d1]))
    exact last _ (by simp [T.get_set]) (by simp [T.get_set]) (by simp [T.get_set]) (by simp [T.get_set]) (by simp [T.get_set]) f h0 (Up.start hi hg) (.refl _) s2
end Go.Proofs.YtjcmcoabckkjoaaDoor.Or

namespace Go.Proofs.YtjcmcoabckkjoaaDoor.Or
open Go.Ev
set_option maxRecDepth 100000
set_option maxHeartbeats 400000
/-- behind the search -/
theorem symD {i N a m b mid st : Nat} {f : Nat → Nat} {fr : Fr} {h0 : Heap} {K : Value → Heap → Prop} (hi : i < h0.n) (hg : h0.b.get i = some (.cells (rowL f N) 27 false)) (hN : N ≤ 1000) (hf : Bits f N) (hb : b ≤ N) (hab : a + 1 < m ∨ m + 1 < b)
    (ct : Cut f a m b mid st) (ih : ∀ a' m' b', a' < m' → m' < b' → b' ≤ N → b' - a' < b - a → Mrg i N a' m' b')
    (p : P5 fr i N a m b) (g18 : fr.get 18 = some (.int .i64 (mid : Nat))) (g19 : fr.get 19 = some (.int .i64 ((mid + m : Nat) : Int))) (g20 : fr.get 20 = some (.int .i64 (st : Nat)))
    (s1 : SortedN f a m) (s2 : SortedN f m b)
    (hK : ∀ g h', Up h0 h' i g N → Sw a b f g → SortedN g a b → K (.tuple #[]) h') : s82_18.wp env 220 none fr h0 (resK env [] K) := by
  have hv := ct.halves s1 s2
  obtain ⟨midE, am, mb, q0, sm, smid, eb, c1, c2⟩ := ct
  obtain ⟨en, hen⟩ : ∃ en, mid + m - st = en := ⟨_, rfl⟩
  rw [hen] at hv
  have i0 := getK_of p.p0
  have i2 := getK_of p.p2
  have i4 := getK_of p.p4
  have i19 := getK_of g19
  have i20 := getK_of g20
  have w1 : IntKind.i64.wrap (((mid + m : Nat) : Int) - (st : Int)) = (en : Int) := by rw [wrap_i64 (by omega) (by omega)]; omega
  have fin : ∀ (fr' : Fr), P5 fr' i N a m b → fr'.get 18 = fr.get 18 → fr'.get 20 = fr.get 20 → fr'.get 24 = some (.int .i64 (en : Nat)) → ∀ h1, Up h0 h1 i (rot f st m en) N → Sw a b f (rot f st m en) → s82_10.wp env 220 none fr' h1 (resK env [] K) := by
    intro fr' p' e18 e20 e24 h1 u s
    refine symE (i := i) (N := N) (a := a) (m := m) (b := b) (mid := mid) (st := st) u.lt' u.g hN (hf.sw s hb) hb (by omega) (by omega) q0 smid en (by omega) (by omega) (fun x y => ih _ _ _ x y (by omega) (by omega)) (fun x y => ih _ _ _ x y (by omega) (by omega)) p' (e18.trans g18) (e20.trans g20) e24 hv.1 hv.2.1 hv.2.2.1 hv.2.2.2.1 hv.2.2.2.2 fun g h2 u2 t2 so => ?_
    exact hK g h2 (u.trans u2) (s.trans t2) so
  by_cases k1 : st < m
  · have d1 : (st : Int) < (m : Int) := by omega
    by_cases k2 : m < en
    · have d2 : (m : Int) < (en : Int) := by omega
      repeat' (first | done | with_reducible (first | refine y1 ?_ (by omega) | refine y2 ?_ (by omega) | refine y3 (fun _ => ?_) (fun _ => ?_) | refine y4 ?_ (by omega) (by omega) | refine y5 ?_ (by omega) | refine y6 ?_ (by with_unfolding_all rfl) | refine y7 ?_ (by with_unfolding_all rfl) | refine y8 ?_ (by with_unfolding_all rfl) | refine y9 ?_ (by with_unfolding_all rfl) | refine ya ?_ (by with_unfolding_all rfl)) | ((with_reducible refine And.intro ?_ ?_); (· omega)) | (simp -dsimp only [↓cw_ops, ↓cw_seq, ↓cw_cond, ↓seqK_normal, ↓getK_same, ↓getK_ne, ↓evK_tmp, ↓condV_var, ↓gdV_var, ↓opsW_nil, ↓opsW_d, ↓opsW_gd, ↓opW_move, ↓opW_assign, ↓opW_pick, ↓opW_bin, ↓bin_sub, ↓bin_lss, ↓evs_nil, ↓evs_cons, ↓opW_call, ↓r82_11_w, ↓s82_12_w, ↓s82_13_w, ↓r82_14_w, ↓s82_15_w, ↓s82_16_w, ↓r82_17_w, ↓s82_18_w, brK_true, ne_eq, Nat.reduceEqDiff, not_false_eq_true, ↓i0, ↓i2, ↓i4, ↓i19, ↓i20, w1, d1, d2]))
      refine rotate_ret hi hg hN k1 k2 (by omega) fun h1 u s => ?_
      have n1 := u.n
      repeat' (first | done | with_reducible (first | refine y1 ?_ (by omega) | refine y2 ?_ (by omega) | refine y3 (fun _ => ?_) (fun _ => ?_) | refine y4 ?_ (by omega) (by omega) | refine y5 ?_ (by omega) | refine y6 ?_ (by with_unfolding_all rfl) | refine y7 ?_ (by with_unfolding_all rfl) | refine y8 ?_ (by with_unfolding_all rfl) | refine y9 ?_ (by with_unfolding_all rfl) | refine ya ?_ (by with_unfolding_all rfl)) | ((with_reducible refine And.intro ?_ ?_); (· omega)) | (simp -dsimp only [↓seqK_normal, ↓opsW_nil, w1]))
      exact fin _ (p.same (by simp [T.get_set]) (by simp [T.get_set]) (by simp [T.get_set]) (by simp [T.get_set]) (by simp [T.get_set])) (by simp [T.get_set]) (by simp [T.get_set]) (by simp [T.get_set]) h1 u (s.mono (by omega) (by omega))
    · have d2 : ¬ (m : Int) < (en : Int) := by omega
      have e := rot_id (f := f) (a := st) (m := m) (b := en) (.inr (by omega)) (by omega) (by omega)
      repeat' (first | done | with_reducible (first | refine y1 ?_ (by omega) | refine y2 ?_ (by omega) | refine y3 (fun _ => ?_) (fun _ => ?_) | refine y4 ?_ (by omega) (by omega) | refine y5 ?_ (by omega) | refine y6 ?_ (by with_unfolding_all rfl) | refine y7 ?_ (by with_unfolding_all rfl) | refine y8 ?_ (by with_unfolding_all rfl) | refine y9 ?_ (by with_unfolding_all rfl) | refine ya ?_ (by with_unfolding_all rfl)) | ((with_reducible refine And.intro ?_ ?_); (· omega)) | (simp -dsimp only [↓cw_skip, ↓cw_ops, ↓cw_seq, ↓cw_cond, ↓seqK_normal, ↓getK_same, ↓getK_ne, ↓evK_tmp, ↓condV_var, ↓gdV_var, ↓opsW_nil, ↓opsW_d, ↓opsW_gd, ↓opW_move, ↓opW_assign, ↓opW_pick, ↓opW_bin, ↓bin_sub, ↓bin_lss, ↓s82_13_w, ↓r82_14_w, ↓s82_15_w, ↓s82_16_w, ↓r82_17_w, ↓s82_18_w, brK_true, brK_false, ne_eq, Nat.reduceEqDiff, not_false_eq_true, Bool.false_eq_true,  ↓i2, ↓i19, ↓i20, w1, d1, d2]))
      exact fin _ (p.same (by simp [T.get_set]) (by simp [T.get_set]) (by simp [T.get_set]) (by simp [T.get_set]) (by simp [T.get_set])) (by simp [T.get_set]) (by simp [T.get_set]) (by simp [T.get_set]) h0 (by rw [e]; exact Up.start hi hg) (by rw [e]; exact .refl _)
  · have d1 : ¬ (st : Int) < (m : Int) := by omega
    have e := rot_id (f := f) (a := st) (m := m) (b := en) (.inl (by omega)) (by omega) (by omega)
    repeat' (first | done | with_reducible (first | refine y1 ?_ (by omega) | refine y2 ?_ (by omega) | refine y3 (fun _ => ?_) (fun _ => ?_) | refine y4 ?_ (by omega) (by omega) | refine y5 ?_ (by omega) | refine y6 ?_ (by with_unfolding_all rfl) | refine y7 ?_ (by with_unfolding_all rfl) | refine y8 ?_ (by with_unfolding_all rfl) | refine y9 ?_ (by with_unfolding_all rfl) | refine ya ?_ (by with_unfolding_all rfl)) | ((with_reducible refine And.intro ?_ ?_); (· omega)) | (simp -dsimp only [↓cw_skip, ↓cw_ops, ↓cw_seq, ↓cw_cond, ↓seqK_normal, ↓getK_same, ↓getK_ne, ↓evK_tmp, ↓evK_bool, ↓condV_var, ↓gdV_var, ↓opsW_nil, ↓opsW_d, ↓opsW_gd, ↓opW_move, ↓opW_assign, ↓opW_pick, ↓opW_bin, ↓bin_sub, ↓bin_lss, ↓s82_13_w, ↓r82_14_w, ↓s82_15_w, ↓s82_16_w, ↓r82_17_w, ↓s82_18_w, brK_false, ne_eq, Nat.reduceEqDiff, not_false_eq_true, Bool.false_eq_true,  ↓i2, ↓i19, ↓i20, w1, d1]))
    exact fin _ (p.same (by simp [T.get_set]) (by simp [T.get_set]) (by simp [T.get_set]) (by simp [T.get_set]) (by simp [T.get_set])) (by simp [T.get_set]) (by simp [T.get_set]) (by simp [T.get_set]) h0 (by rw [e]; exact Up.start hi hg) (by rw [e]; exact .refl _)
theorem TT_iff {f : Nat → Nat} {n c : Nat} : TT f n c ↔ ¬ keyN (f (n - 1 - c)) < keyN (f c) := by unfold TT; omega
/-- the search, and what stands behind it -/
theorem symC {i N a m b mid u0 v0 : Nat} {f : Nat → Nat} {fr : Fr} {h0 : Heap} {K : Value → Heap → Prop} (hi : i < h0.n) (hg : h0.b.get i = some (.cells (rowL f N) 27 false)) (hN : N ≤ 1000) (hf : Bits f N) (hb : b ≤ N) (ham : a < m) (hmb : m < b) (hab : a + 1 < m ∨ m + 1 < b)
    (hmid : mid = (a + b) / 2) (hu0 : u0 = if mid < m then mid + m - b else a) (hv0 : v0 = if mid < m then mid else m) (ih : ∀ a' m' b', a' < m' → m' < b' → b' ≤ N → b' - a' < b - a → Mrg i N a' m' b')
    (p : P5 fr i N a m b) (g18 : fr.get 18 = some (.int .i64 (mid : Nat))) (g19 : fr.get 19 = some (.int .i64 ((mid + m : Nat) : Int))) (g20 : fr.get 20 = some (.int .i64 (u0 : Nat))) (g21 : fr.get 21 = some (.int .i64 (v0 : Nat)))
    (s1 : SortedN f a m) (s2 : SortedN f m b)
    (hK : ∀ g h', Up h0 h' i g N → Sw a b f g → SortedN g a b → K (.tuple #[]) h') : s82_36.wp env 220 none fr h0 (resK env [] K) := by
  have i19 := getK_of g19
  have bd : a ≤ u0 ∧ u0 ≤ v0 ∧ v0 ≤ mid ∧ v0 ≤ m ∧ mid + m ≤ b + u0 := by split at hu0 <;> split at hv0 <;> omega
  have w0 : IntKind.i64.wrap (((mid + m : Nat) : Int) - 1) = ((mid + m - 1 : Nat) : Int) := by rw [wrap_i64 (by omega) (by omega)]; omega
  repeat' (first | done | with_reducible (first | refine y1 ?_ (by omega) | refine y2 ?_ (by omega) | refine y3 (fun _ => ?_) (fun _ => ?_) | refine y4 ?_ (by omega) (by omega) | refine y5 ?_ (by omega) | refine y6 ?_ (by with_unfolding_all rfl) | refine y7 ?_ (by with_unfolding_all rfl) | refine y8 ?_ (by with_unfolding_all rfl) | refine y9 ?_ (by with_unfolding_all rfl) | refine ya ?_ (by with_unfolding_all rfl)) | ((with_reducible refine And.intro ?_ ?_); (· omega)) | (simp -dsimp only [↓cw_ops, ↓cw_seq, ↓cw_block, ↓seqK_normal, ↓getK_same, ↓evK_tmp, ↓evK_int, ↓opsW_nil, ↓opsW_d, ↓opW_move, ↓opW_assign, ↓opW_bin, ↓bin_sub, ↓s82_33_w, ↓s82_34_w, ↓r82_35_w, ↓s82_36_w, ↓i19, w0]))
  refine cw_loopI (fun x fr' h' => h' = h0 ∧ ∃ (u v : Nat), u0 ≤ u ∧ u ≤ v ∧ v ≤ v0 ∧ x = v - u ∧ fr'.get 20 = some (.int .i64 (u : Nat)) ∧ fr'.get 21 = some (.int .i64 (v : Nat)) ∧ (u = u0 ∨ TT f (mid + m) (u - 1)) ∧ (v = v0 ∨ ¬ TT f (mid + m) v)) (v0 - u0) ?_ (by omega) ?_
  · exact ⟨rfl, u0, v0, by omega, by omega, by omega, rfl, by simp only [T.get_set]; simpa using g20, by simp only [T.get_set]; simpa using g21, .inl rfl, .inl rfl⟩
  rintro x fr1 h' ⟨rfl, u, v, hu, huv, hv, rfl, y20, y21, cu, cv⟩ hag
  have p1 : P5 fr1 i N a m b := p.same ((hag 0 rfl).trans (by simp [T.get_set])) ((hag 1 rfl).trans (by simp [T.get_set])) ((hag 2 rfl).trans (by simp [T.get_set])) ((hag 3 rfl).trans (by simp [T.get_set])) ((hag 4 rfl).trans (by simp [T.get_set]))
  have e18 : fr1.get 18 = some (.int .i64 (mid : Nat)) := ((hag 18 rfl).trans (by simp [T.get_set])).trans g18
  have e19 : fr1.get 19 = some (.int .i64 ((mid + m : Nat) : Int)) := ((hag 19 rfl).trans (by simp [T.get_set])).trans g19
  have e22 : fr1.get 22 = some (.int .i64 ((mid + m - 1 : Nat) : Int)) := (hag 22 rfl).trans (by simp [T.get_set])
  have z20 := y20
  have z21 := y21
  have g20 := getK_of y20
  have g21 := getK_of y21
  have i0 := getK_of p1.p0
  have i4 := getK_of p1.p4
  have i22 := getK_of e22
  unfold datV at i0
  unfold cmpV at i4
  by_cases hlt : u < v
  · have c1 : (u : Int) < (v : Int) := by omega
    have w1 : IntKind.i64.wrap ((u : Int) + (v : Int)) = ((u + v : Nat) : Int) := by rw [wrap_i64 (by omega) (by omega)]; omega
    have w2 : IntKind.u64.wrap ((u + v : Nat) : Int) = ((u + v : Nat) : Int) := wrap_u64 (by omega) (by omega)
    have w3 := half_eq (u + v)
    obtain ⟨c, hc⟩ : ∃ c, (u + v) / 2 = c := ⟨_, rfl⟩
    rw [hc] at w3
    have w4 : IntKind.i64.wrap ((c : Nat) : Int) = (c : Int) := wrap_i64 (by omega) (by omega)
    have w5 : IntKind.i64.wrap ((c : Int) + 1) = ((c + 1 : Nat) : Int) := by rw [wrap_i64 (by omega) (by omega)]; omega
    have w6 : IntKind.i64.wrap (((mid + m - 1 : Nat) : Int) - (c : Int)) = ((mid + m - 1 - c : Nat) : Int) := by rw [wrap_i64 (by omega) (by omega)]; omega
    have d1 := cellAt_blk hi hg (rowL_get (f := f) (N := N) (k := c) (by omega))
    have d2 := cellAt_blk hi hg (rowL_get (f := f) (N := N) (k := mid + m - 1 - c) (by omega))
    have z1 : 0 + c * 1 = c := zero_add_one _
    have z2 : 0 + (mid + m - 1 - c) * 1 = mid + m - 1 - c := zero_add_one _
    have b1 : ((mid + m - 1 - c : Nat) : Int) < (N : Int) := by omega
    have b2 : (0 : Int) ≤ ((mid + m - 1 - c : Nat) : Int) := by omega
    repeat' (first | done | with_reducible (first | refine y1 ?_ (by omega) | refine y2 ?_ (by omega) | refine y3 (fun _ => ?_) (fun _ => ?_) | refine y4 ?_ (by omega) (by omega) | refine y5 ?_ (by omega) | refine y6 ?_ (by with_unfolding_all rfl) | refine y7 ?_ (by with_unfolding_all rfl) | refine y8 ?_ (by with_unfolding_all rfl) | refine y9 ?_ (by with_unfolding_all rfl) | refine ya ?_ (by with_unfolding_all rfl)) | ((with_reducible refine And.intro ?_ ?_); (· omega)) | (simp -dsimp only [↓cw_skip, ↓cw_ops, ↓cw_plan, ↓cw_seq, ↓cw_block, ↓cw_cond, ↓seqK_normal, ↓getK_same, ↓getK_ne, ↓evK_tmp, ↓evK_int, ↓condV_var, ↓opsW_nil, ↓opsW_d, ↓planW_d, ↓agK_nil, ↓opW_move, ↓opW_assign, ↓opW_bin, ↓bin_add, ↓bin_sub, ↓bin_shr, ↓bin_lss, ↓ld1_some, ↓idxS_some, ↓evs_nil, ↓evs_cons, ↓opW_callV, ↓cint_int, ↓callV_some, ↓ia_25, ↓ld_27, ↓cv_3_69, ↓cv_69_3, ↓p82_24_w, ↓s82_25_w, ↓r82_26_w, ↓s82_27_w, ↓s82_28_w, ↓s82_29_w, ↓r82_30_w, ↓s82_31_w, ↓s82_32_w, onV_some', brK_true, Nat.le_refl, true_and, ne_eq, Nat.reduceEqDiff, not_false_eq_true, Addr.add_lit, Int.toNat_natCast, ↓g20, ↓g21, ↓i0, ↓i4, ↓i22, c1, w1, w2, w3, w4, w6, z1, z2, d1, d2, List.nil_append, List.append_nil]))
    refine cmp_ret (hf _ (by omega)) (hf c (by omega)) ?_
    by_cases hcmp : keyN (f (mid + m - 1 - c)) < keyN (f c)
    · have c4 : cmpN (f (mid + m - 1 - c)) (f c) < 0 := cmpN_lt.2 hcmp
      repeat' (first | done | with_reducible (first | refine y1 ?_ (by omega) | refine y2 ?_ (by omega) | refine y3 (fun _ => ?_) (fun _ => ?_) | refine y4 ?_ (by omega) (by omega) | refine y5 ?_ (by omega) | refine y6 ?_ (by with_unfolding_all rfl) | refine y7 ?_ (by with_unfolding_all rfl) | refine y8 ?_ (by with_unfolding_all rfl) | refine y9 ?_ (by with_unfolding_all rfl) | refine ya ?_ (by with_unfolding_all rfl)) | ((with_reducible refine And.intro ?_ ?_); (· omega)) | (simp -dsimp only [↓cw_ops, ↓cw_cond, ↓seqK_normal, ↓blockK_normal, ↓loopK_normal, ↓getK_same, ↓getK_ne, ↓evK_tmp, ↓evK_int, ↓condV_var, ↓opsW_nil, ↓opsW_d, ↓planW_nil, ↓planW_d, ↓agK_nil, ↓opW_move, ↓opW_assign, ↓opW_bin, ↓bin_lss, ↓opW_un, ↓un_not, ↓r82_21_w, ↓s82_22_w, ↓s82_23_w, brK_true, brK_false, Nat.le_refl, true_and, ne_eq, Nat.reduceEqDiff, not_false_eq_true, Addr.add_lit, Bool.false_eq_true,  c4, Bool.not_true]))
      refine ⟨c - u, by omega, u, c, by omega, by omega, by omega, rfl, ?_, by simp only [T.get_set]; rw [w1, w2, w3, w4]; simp, cu, .inr (by rw [TT_iff]; exact fun h => h hcmp)⟩
      · simp only [T.get_set]; simpa using z20
    · have c4 : ¬ cmpN (f (mid + m - 1 - c)) (f c) < 0 := fun h => hcmp (cmpN_lt.1 h)
      repeat' (first | done | with_reducible (first | refine y1 ?_ (by omega) | refine y2 ?_ (by omega) | refine y3 (fun _ => ?_) (fun _ => ?_) | refine y4 ?_ (by omega) (by omega) | refine y5 ?_ (by omega) | refine y6 ?_ (by with_unfolding_all rfl) | refine y7 ?_ (by with_unfolding_all rfl) | refine y8 ?_ (by with_unfolding_all rfl) | refine y9 ?_ (by with_unfolding_all rfl) | refine ya ?_ (by with_unfolding_all rfl)) | ((with_reducible refine And.intro ?_ ?_); (· omega)) | (simp -dsimp only [↓cw_ops, ↓cw_cond, ↓seqK_normal, ↓blockK_normal, ↓loopK_normal, ↓getK_same, ↓getK_ne, ↓evK_tmp, ↓evK_int, ↓condV_var, ↓opsW_nil, ↓opsW_d, ↓planW_nil, ↓planW_d, ↓agK_nil, ↓opW_move, ↓opW_assign, ↓opW_bin, ↓bin_add, ↓bin_lss, ↓opW_un, ↓un_not, ↓r82_19_w, ↓s82_20_w, ↓s82_23_w, brK_true, brK_false, Nat.le_refl, true_and, ne_eq, Nat.reduceEqDiff, not_false_eq_true, Addr.add_lit, c4, Bool.not_false]))
      refine ⟨v - (c + 1), by omega, c + 1, v, by omega, by omega, by omega, rfl, by simp only [T.get_set]; rw [w1, w2, w3, w4, w5]; simp, ?_, .inr (by rw [Nat.add_sub_cancel, TT_iff]; exact hcmp), cv⟩
      · simp only [T.get_set]; simpa using z21
  · have e : u = v := by omega
    subst e
    have c1 : ¬ (u : Int) < (u : Int) := by omega
    have ct : Cut f a m b mid u := by
      refine ⟨hmid, ham, hmb, by omega, by omega, by omega, by omega, ?_, ?_⟩
      · rcases cu with cu | cu
        · left; rw [cu, hu0]; split <;> rfl
        · exact .inr cu
      · rcases cv with cv | cv
        · left; rw [cv, hv0]; split <;> rfl
        · exact .inr cv
    repeat' (first | done | with_reducible (first | refine y1 ?_ (by omega) | refine y2 ?_ (by omega) | refine y3 (fun _ => ?_) (fun _ => ?_) | refine y4 ?_ (by omega) (by omega) | refine y5 ?_ (by omega) | refine y6 ?_ (by with_unfolding_all rfl) | refine y7 ?_ (by with_unfolding_all rfl) | refine y8 ?_ (by with_unfolding_all rfl) | refine y9 ?_ (by with_unfolding_all rfl) | refine ya ?_ (by with_unfolding_all rfl)) | ((with_reducible refine And.intro ?_ ?_); (· omega)) | (simp -dsimp only [↓cw_ops, ↓cw_seq, ↓cw_exit, ↓cw_cond, ↓seqK_normal, ↓seqK_exit, ↓blockK_same, ↓loopK_exit, ↓getK_same, ↓getK_ne, ↓evK_tmp, ↓condV_var, ↓opsW_nil, ↓opsW_d, ↓opW_move, ↓opW_bin, ↓bin_lss, ↓s82_29_w, ↓r82_30_w, ↓s82_31_w, ↓s82_32_w, brK_false, ne_eq, Nat.reduceEqDiff, not_false_eq_true, Bool.false_eq_true,  ↓g20, ↓g21, c1]))
    refine symD hi hg hN hf hb hab ct ih (p1.same (by simp [T.get_set]) (by simp [T.get_set]) (by simp [T.get_set]) (by simp [T.get_set]) (by simp [T.get_set])) ?_ ?_ ?_ s1 s2 hK
    · simp only [T.get_set]; simpa using e18
    · simp only [T.get_set]; simpa using e19
    · simp only [T.get_set]; simpa using z20
/-- two sorted ranges, merged -/
theorem merge_all {i N : Nat} (hN : N ≤ 1000) : ∀ (z a m b : Nat), b - a ≤ z → a < m → m < b → b ≤ N → Mrg i N a m b := by
  intro z
  induction z with
  | zero => intro a m b hz h1 h2 _; omega
  | succ z ihz =>
    intro a m b hz ham hmb hb f h0 K hi hg hf s1 s2 hK
    refine F82 rfl ?_
    unfold datV cmpV
    have p : P5 (setAll [.slice (some ⟨i, 0, none⟩) N UNK, .int .i64 (a : Nat), .int .i64 (m : Nat), .int .i64 (b : Nat), .func (.func 45) ⟨[]⟩ ⟨[]⟩] 0 .leaf) i N a m b :=
      ⟨by simp [setAll, T.get_set, datV], by simp [setAll, T.get_set], by simp [setAll, T.get_set], by simp [setAll, T.get_set], by simp [setAll, T.get_set, cmpV]⟩
    generalize setAll [.slice (some ⟨i, 0, none⟩) N UNK, .int .i64 (a : Nat), .int .i64 (m : Nat), .int .i64 (b : Nat), .func (.func 45) ⟨[]⟩ ⟨[]⟩] 0 .leaf = fr at p ⊢
    have i1 := getK_of p.p1
    have i2 := getK_of p.p2
    have i3 := getK_of p.p3
    have w1 : IntKind.i64.wrap ((m : Int) - (a : Int)) = ((m - a : Nat) : Int) := by rw [wrap_i64 (by omega) (by omega)]; omega
    have w2 : IntKind.i64.wrap ((b : Int) - (m : Int)) = ((b - m : Nat) : Int) := by rw [wrap_i64 (by omega) (by omega)]; omega
    by_cases k1 : m = a + 1
    · subst k1
      have c1 : ((a + 1 - a : Nat) : Int) = 1 := by omega
      repeat' (first | done | with_reducible (first | refine y1 ?_ (by omega) | refine y2 ?_ (by omega) | refine y3 (fun _ => ?_) (fun _ => ?_) | refine y4 ?_ (by omega) (by omega) | refine y5 ?_ (by omega) | refine y6 ?_ (by with_unfolding_all rfl) | refine y7 ?_ (by with_unfolding_all rfl) | refine y8 ?_ (by with_unfolding_all rfl) | refine y9 ?_ (by with_unfolding_all rfl) | refine ya ?_ (by with_unfolding_all rfl)) | ((with_reducible refine And.intro ?_ ?_); (· omega)) | (simp -dsimp only [↓cw_ops, ↓cw_seq, ↓cw_cond, ↓seqK_normal, ↓getK_same, ↓getK_ne, ↓evK_tmp, ↓evK_int, ↓condV_var, ↓opsW_nil, ↓opsW_d, ↓opW_move, ↓opW_bin, ↓bin_sub, ↓bin_eql, ↓s82_127_w, ↓r82_128_w, ↓s82_129_w, ↓s82_130_w, brK_true, ne_eq, Nat.reduceEqDiff, not_false_eq_true, ↓i1, ↓i2, w1, c1]))
      exact symA (K := K) (fun _ _ => rfl) hi hg hN hf hmb hb (p.same (by simp [T.get_set]) (by simp [T.get_set]) (by simp [T.get_set]) (by simp [T.get_set]) (by simp [T.get_set])) s2 hK
    have c1 : ¬ ((m - a : Nat) : Int) = 1 := by omega
    by_cases k2 : b = m + 1
    · subst k2
      have c2 : ((m + 1 - m : Nat) : Int) = 1 := by omega
      repeat' (first | done | with_reducible (first | refine y1 ?_ (by omega) | refine y2 ?_ (by omega) | refine y3 (fun _ => ?_) (fun _ => ?_) | refine y4 ?_ (by omega) (by omega) | refine y5 ?_ (by omega) | refine y6 ?_ (by with_unfolding_all rfl) | refine y7 ?_ (by with_unfolding_all rfl) | refine y8 ?_ (by with_unfolding_all rfl) | refine y9 ?_ (by with_unfolding_all rfl) | refine ya ?_ (by with_unfolding_all rfl)) | ((with_reducible refine And.intro ?_ ?_); (· omega)) | (simp -dsimp only [↓cw_skip, ↓cw_ops, ↓cw_seq, ↓cw_cond, ↓seqK_normal, ↓getK_same, ↓getK_ne, ↓evK_tmp, ↓evK_int, ↓condV_var, ↓opsW_nil, ↓opsW_d, ↓opW_move, ↓opW_bin, ↓bin_sub, ↓bin_eql, ↓s82_89_w, ↓r82_90_w, ↓s82_91_w, ↓s82_92_w, ↓s82_127_w, ↓r82_128_w, ↓s82_129_w, ↓s82_130_w, brK_true, brK_false, ne_eq, Nat.reduceEqDiff, not_false_eq_true, Bool.false_eq_true,  ↓i1, ↓i2, ↓i3, w1, w2, c1, c2]))
      exact symB (K := K) (fun _ _ => rfl) hi hg hN hf ham (by omega) (p.same (by simp [T.get_set]) (by simp [T.get_set]) (by simp [T.get_set]) (by simp [T.get_set]) (by simp [T.get_set])) s1 hK
    have c2 : ¬ ((b - m : Nat) : Int) = 1 := by omega
    obtain ⟨mid, hmid⟩ : ∃ mid, (a + b) / 2 = mid := ⟨_, rfl⟩
    have w3 : IntKind.i64.wrap ((a : Int) + (b : Int)) = ((a + b : Nat) : Int) := by rw [wrap_i64 (by omega) (by omega)]; omega
    have w4 : IntKind.u64.wrap ((a + b : Nat) : Int) = ((a + b : Nat) : Int) := wrap_u64 (by omega) (by omega)
    have w5 := half_eq (a + b)
    rw [hmid] at w5
    have w6 : IntKind.i64.wrap ((mid : Nat) : Int) = (mid : Int) := wrap_i64 (by omega) (by omega)
    have w7 : IntKind.i64.wrap ((mid : Int) + (m : Int)) = ((mid + m : Nat) : Int) := by rw [wrap_i64 (by omega) (by omega)]; omega
    have ih : ∀ a' m' b', a' < m' → m' < b' → b' ≤ N → b' - a' < b - a → Mrg i N a' m' b' := fun a' m' b' q1 q2 q3 q4 => ihz a' m' b' (by omega) q1 q2 q3
    by_cases k3 : mid < m
    · have c3 : (mid : Int) < (m : Int) := by omega
      have w8 : IntKind.i64.wrap (((mid + m : Nat) : Int) - (b : Int)) = ((mid + m - b : Nat) : Int) := by rw [wrap_i64 (by omega) (by omega)]; omega
      repeat' (first | done | with_reducible (first | refine y1 ?_ (by omega) | refine y2 ?_ (by omega) | refine y3 (fun _ => ?_) (fun _ => ?_) | refine y4 ?_ (by omega) (by omega) | refine y5 ?_ (by omega) | refine y6 ?_ (by with_unfolding_all rfl) | refine y7 ?_ (by with_unfolding_all rfl) | refine y8 ?_ (by with_unfolding_all rfl) | refine y9 ?_ (by with_unfolding_all rfl) | refine ya ?_ (by with_unfolding_all rfl)) | ((with_reducible refine And.intro ?_ ?_); (· omega)) | (simp -dsimp only [↓cw_skip, ↓cw_ops, ↓cw_seq, ↓cw_cond, ↓seqK_normal, ↓getK_same, ↓getK_ne, ↓evK_tmp, ↓evK_int, ↓condV_var, ↓opsW_nil, ↓opsW_d, ↓opW_move, ↓opW_assign, ↓opW_bin, ↓bin_add, ↓bin_sub, ↓bin_shr, ↓bin_eql, ↓bin_gtr, ↓cint_int, ↓cv_3_69, ↓cv_69_3, ↓r82_37_w, ↓s82_38_w, ↓r82_39_w, ↓s82_40_w, ↓s82_45_w, ↓r82_46_w, ↓s82_47_w, ↓s82_48_w, ↓r82_49_w, ↓s82_50_w, ↓r82_51_w, ↓s82_52_w, ↓r82_53_w, ↓s82_54_w, ↓s82_89_w, ↓r82_90_w, ↓s82_91_w, ↓s82_92_w, ↓s82_127_w, ↓r82_128_w, ↓s82_129_w, ↓s82_130_w, brK_true, brK_false, ne_eq, Nat.reduceEqDiff, not_false_eq_true, Bool.false_eq_true,  ↓i1, ↓i2, ↓i3, w1, w2, c1, c2, w3, w4, w5, w6, w7, c3, w8]))
      refine symC (u0 := mid + m - b) (v0 := mid) hi hg hN hf hb ham hmb (by omega) hmid.symm (by rw [if_pos k3]) (by rw [if_pos k3]) ih (p.same (by simp [T.get_set]) (by simp [T.get_set]) (by simp [T.get_set]) (by simp [T.get_set]) (by simp [T.get_set])) ?_ ?_ ?_ ?_ s1 s2 hK
      all_goals simp [T.get_set]
    · have c3 : ¬ (mid : Int) < (m : Int) := by omega
      repeat' (first | done | with_reducible (first | refine y1 ?_ (by omega) | refine y2 ?_ (by omega) | refine y3 (fun _ => ?_) (fun _ => ?_) | refine y4 ?_ (by omega) (by omega) | refine y5 ?_ (by omega) | refine y6 ?_ (by with_unfolding_all rfl) | refine y7 ?_ (by with_unfolding_all rfl) | refine y8 ?_ (by with_unfolding_all rfl) | refine y9 ?_ (by with_unfolding_all rfl) | refine ya ?_ (by with_unfolding_all rfl)) | ((with_reducible refine And.intro ?_ ?_); (· omega)) | (simp -dsimp only [↓cw_skip, ↓cw_ops, ↓cw_seq, ↓cw_cond, ↓seqK_normal, ↓getK_same, ↓getK_ne, ↓evK_tmp, ↓evK_int, ↓condV_var, ↓opsW_nil, ↓opsW_d, ↓opW_move, ↓opW_assign, ↓opW_bin, ↓bin_add, ↓bin_sub, ↓bin_shr, ↓bin_eql, ↓bin_gtr, ↓cint_int, ↓cv_3_69, ↓cv_69_3, ↓r82_41_w, ↓s82_42_w, ↓r82_43_w, ↓s82_44_w, ↓s82_45_w, ↓r82_46_w, ↓s82_47_w, ↓s82_48_w, ↓r82_49_w, ↓s82_50_w, ↓r82_51_w, ↓s82_52_w, ↓r82_53_w, ↓s82_54_w, ↓s82_89_w, ↓r82_90_w, ↓s82_91_w, ↓s82_92_w, ↓s82_127_w, ↓r82_128_w, ↓s82_129_w, ↓s82_130_w, brK_false, ne_eq, Nat.reduceEqDiff, not_false_eq_true, Bool.false_eq_true,  ↓i1, ↓i2, ↓i3, w1, w2, c1, c2, w3, w4, w5, w6, w7, c3]))
      refine symC (u0 := a) (v0 := m) hi hg hN hf hb ham hmb (by omega) hmid.symm (by rw [if_neg k3]) (by rw [if_neg k3]) ih (p.same (by simp [T.get_set]) (by simp [T.get_set]) (by simp [T.get_set]) (by simp [T.get_set]) (by simp [T.get_set])) ?_ ?_ ?_ ?_ s1 s2 hK
      all_goals simp [T.get_set]
theorem merge_ret {i N a m b : Nat} {f : Nat → Nat} {h0 : Heap} {K : Value → Heap → Prop} (hi : i < h0.n) (hg : h0.b.get i = some (.cells (rowL f N) 27 false)) (hN : N ≤ 1000) (hf : Bits f N) (ham : a < m) (hmb : m < b) (hb : b ≤ N) (s1 : SortedN f a m) (s2 : SortedN f m b)
    (hK : ∀ g h', Up h0 h' i g N → Sw a b f g → SortedN g a b → K (.tuple #[]) h') : Ret env (.func 82) [datV i N, .int .i64 (a : Nat), .int .i64 (m : Nat), .int .i64 (b : Nat), cmpV] h0 K :=
  merge_all hN (b - a) a m b (Nat.le_refl _) ham hmb hb f h0 K hi hg hf s1 s2 hK
end Go.Proofs.YtjcmcoabckkjoaaDoor.Or

