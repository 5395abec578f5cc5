/- slices' stable sort, walked; share.Sort. -/
import Derived.Test.YtjcmcoabckkjoaaDoorOF
set_option linter.unusedSimpArgs false
set_option linter.unusedVariables false
namespace Go.Proofs.YtjcmcoabckkjoaaDoor.Or
open Go.Ev
set_option maxRecDepth 100000
set_option maxHeartbeats 400000
/-! runs -/
theorem dvd_step {d x a : Nat} (hx : d ∣ x) (ha : d ∣ a) (h : x < a) : x + d ≤ a := by
  obtain ⟨k, rfl⟩ := hx
  obtain ⟨l, rfl⟩ := ha
  have hkl : k < l := Nat.lt_of_mul_lt_mul_left h
  have := Nat.mul_le_mul_left d (show k + 1 ≤ l from hkl)
  rwa [Nat.mul_add, Nat.mul_one] at this
def Runs (f : Nat → Nat) (d n : Nat) : Prop := ∀ x, d ∣ x → SortedN f x (min (x + d) n)
/-- runs of d up to a, then what is told of e -/
structure Half (f : Nat → Nat) (bs n a : Nat) : Prop where
  dv : 2 * bs ∣ a
  an : a ≤ n
  low : ∀ x, 2 * bs ∣ x → x < a → SortedN f x (x + 2 * bs)
  high : ∀ x, bs ∣ x → a ≤ x → SortedN f x (min (x + bs) n)
theorem Half.start {f : Nat → Nat} {bs n : Nat} (h : Runs f bs n) : Half f bs n 0 := ⟨Nat.dvd_zero _, Nat.zero_le _, fun x _ h => by omega, fun x hx _ => h x hx⟩
theorem Half.one {f : Nat → Nat} {bs n a : Nat} (h : Half f bs n a) (hn : a + bs ≤ n) : SortedN f a (a + bs) := by
  have := h.high a (Nat.dvd_trans ⟨2, by rw [Nat.mul_comm]⟩ h.dv) (Nat.le_refl _)
  rwa [Nat.min_eq_left hn] at this
theorem Half.two {f : Nat → Nat} {bs n a b : Nat} (h : Half f bs n a) (hb : b ≤ a + 2 * bs) (hn : b ≤ n) : SortedN f (a + bs) b := by
  have := h.high (a + bs) (Nat.dvd_add (Nat.dvd_trans ⟨2, by rw [Nat.mul_comm]⟩ h.dv) (Nat.dvd_refl _)) (by omega)
  exact this.sub (Nat.le_refl _) (by omega)
theorem Half.next {f g : Nat → Nat} {bs n a : Nat} (h : Half f bs n a) (hn : a + 2 * bs ≤ n) (s : Sw a (a + 2 * bs) f g) (so : SortedN g a (a + 2 * bs)) : Half g bs n (a + 2 * bs) := by
  refine ⟨Nat.dvd_add h.dv (Nat.dvd_refl _), hn, fun x hx hl => ?_, fun x hx hl => ?_⟩
  · by_cases hxa : x < a
    · exact (h.low x hx hxa).congr fun k k1 k2 => s.out (.inl (by have := dvd_step hx h.dv hxa; omega))
    · by_cases hxe : x = a
      · subst hxe; exact so
      · have := dvd_step h.dv hx (by omega); omega
  · exact (h.high x hx (by omega)).congr fun k k1 k2 => s.out (.inr (by omega))
theorem Half.done {f g : Nat → Nat} {bs n a : Nat} (h : Half f bs n a) (hn : n < a + 2 * bs) (s : Sw a n f g) (so : SortedN g a n) : Runs g (2 * bs) n := by
  intro x hx
  by_cases hxa : x < a
  · have h1 := dvd_step hx h.dv hxa
    have := h.an
    rw [Nat.min_eq_left (by omega)]
    exact (h.low x hx hxa).congr fun k k1 k2 => s.out (.inl (by omega))
  · by_cases hxe : x = a
    · subst hxe; exact so.sub (Nat.le_refl _) (Nat.min_le_right _ _)
    · have h1 := dvd_step h.dv hx (by omega)
      exact fun i j q1 q2 q3 => by omega
structure First (f : Nat → Nat) (n a : Nat) : Prop where
  dv : 20 ∣ a
  an : a ≤ n
  low : ∀ x, 20 ∣ x → x < a → SortedN f x (x + 20)
theorem First.next {f g : Nat → Nat} {n a : Nat} (h : First f n a) (hn : a + 20 ≤ n) (s : Sw a (a + 20) f g) (so : SortedN g a (a + 20)) : First g n (a + 20) := by
  refine ⟨Nat.dvd_add h.dv (Nat.dvd_refl _), hn, fun x hx hl => ?_⟩
  by_cases hxa : x < a
  · exact (h.low x hx hxa).congr fun k k1 k2 => s.out (.inl (by have := dvd_step hx h.dv hxa; omega))
  · by_cases hxe : x = a
    · subst hxe; exact so
    · have := dvd_step h.dv hx (by omega); omega
theorem First.done {f g : Nat → Nat} {n a : Nat} (h : First f n a) (hn : n < a + 20) (s : Sw a n f g) (so : SortedN g a n) : Runs g 20 n := by
  intro x hx
  by_cases hxa : x < a
  · have h1 := dvd_step hx h.dv hxa
    have := h.an
    rw [Nat.min_eq_left (by omega)]
    exact (h.low x hx hxa).congr fun k k1 k2 => s.out (.inl (by omega))
  · by_cases hxe : x = a
    · subst hxe; exact so.sub (Nat.le_refl _) (Nat.min_le_right _ _)
    · have h1 := dvd_step h.dv hx (by omega)
      exact fun i j q1 q2 q3 => by omega
structure P3 (fr : Fr) (i N : Nat) : Prop where
  p0 : fr.get 0 = some (datV i N)
  p1 : fr.get 1 = some (.int .i64 (N : Nat))
  p2 : fr.get 2 = some cmpV
theorem P3.same {fr fr' : Fr} {i N : Nat} (p : P3 fr i N) (h0 : fr'.get 0 = fr.get 0) (h1 : fr'.get 1 = fr.get 1) (h2 : fr'.get 2 = fr.get 2) : P3 fr' i N := ⟨h0.trans p.p0, h1.trans p.p1, h2.trans p.p2⟩
theorem Sw.full {a b N : Nat} {f g : Nat → Nat} (s : Sw a b f g) (hb : b ≤ N) : Sw 0 N f g := s.mono (Nat.zero_le _) hb
/-- runs, merged, until there is one -/
theorem stable2 {i N : Nat} {f g0 : Nat → Nat} {fr : Fr} {h0 hh : Heap} {K : Value → Heap → Prop} (hN : N ≤ 1000) (hf : Bits f N) (p : P3 fr i N) (y0 : fr.get 6 = some (.int .i64 20)) (u0 : Up h0 hh i g0 N) (w0 : Sw 0 N f g0) (r0 : Runs g0 20 N)
    (hK : ∀ g h', Up h0 h' i g N → Sw 0 N f g → SortedN g 0 N → K (.tuple #[]) h') : s64_31.wp env 63 none fr hh (resK env [] K) := by
  repeat' (first | done | with_reducible (first | refine y1 ?_ (by omega) | refine y2 ?_ (by omega) | refine y3 (fun _ => ?_) (fun _ => ?_) | refine y4 ?_ (by omega) (by omega) | refine y5 ?_ (by omega) | refine y6 ?_ (by with_unfolding_all rfl) | refine y7 ?_ (by with_unfolding_all rfl) | refine y8 ?_ (by with_unfolding_all rfl) | refine y9 ?_ (by with_unfolding_all rfl) | refine ya ?_ (by with_unfolding_all rfl)) | ((with_reducible refine And.intro ?_ ?_); (· omega)) | (simp -dsimp only [↓cw_block, ↓s64_30_w, ↓s64_31_w]))
  refine cw_loopI (fun x fr' h' => ∃ (bs : Nat) (g : Nat → Nat), 0 < bs ∧ bs ≤ 2000 ∧ x = N - bs ∧ fr'.get 6 = some (.int .i64 (bs : Nat)) ∧ Up h0 h' i g N ∧ Sw 0 N f g ∧ Runs g bs N) (N - 20) ?_ (by omega) ?_
  · exact ⟨20, g0, by omega, by omega, rfl, y0, u0, w0, r0⟩
  rintro x fr1 h1 ⟨bs, g, hb0, hb1, rfl, y6, u, s, rn⟩ hag
  have p1 : P3 fr1 i N := p.same ((hag 0 rfl).trans (by simp [])) ((hag 1 rfl).trans (by simp [])) ((hag 2 rfl).trans (by simp []))
  have g6 := getK_of y6
  have i1 := getK_of p1.p1
  have n1 := u.n
  by_cases hlt : bs < N
  · have c1 : (bs : Int) < (N : Int) := by omega
    have w1 : IntKind.i64.wrap (2 * (bs : Int)) = ((2 * bs : Nat) : Int) := by rw [wrap_i64 (by omega) (by omega)]; omega
    have w2 : IntKind.i64.wrap ((bs : Int) * 2) = ((2 * bs : Nat) : Int) := by rw [wrap_i64 (by omega) (by omega)]; omega
    repeat' (first | done | with_reducible (first | refine y1 ?_ (by omega) | refine y2 ?_ (by omega) | refine y3 (fun _ => ?_) (fun _ => ?_) | refine y4 ?_ (by omega) (by omega) | refine y5 ?_ (by omega) | refine y6 ?_ (by with_unfolding_all rfl) | refine y7 ?_ (by with_unfolding_all rfl) | refine y8 ?_ (by with_unfolding_all rfl) | refine y9 ?_ (by with_unfolding_all rfl) | refine ya ?_ (by with_unfolding_all rfl)) | ((with_reducible refine And.intro ?_ ?_); (· omega)) | (simp -dsimp only [↓cw_skip, ↓cw_ops, ↓cw_seq, ↓cw_block, ↓cw_cond, ↓seqK_normal, ↓getK_same, ↓getK_ne, ↓evK_tmp, ↓evK_int, ↓condV_var, ↓opsW_nil, ↓opsW_d, ↓opW_move, ↓opW_assign, ↓opW_bin, ↓bin_mul, ↓bin_lss, ↓s64_21_w, ↓s64_22_w, ↓r64_23_w, ↓s64_24_w, ↓s64_25_w, ↓s64_26_w, ↓r64_27_w, ↓s64_28_w, ↓s64_29_w, brK_true, ne_eq, Nat.reduceEqDiff, not_false_eq_true, ↓g6, ↓i1, c1, w1]))
    refine cw_loopI (fun x fr' h' => ∃ (a : Nat) (e : Nat → Nat), x = N - a ∧ fr'.get 6 = some (.int .i64 (bs : Nat)) ∧ fr'.get 7 = some (.int .i64 (a : Nat)) ∧ fr'.get 8 = some (.int .i64 ((a + 2 * bs : Nat) : Int)) ∧ Up h0 h' i e N ∧ Sw 0 N f e ∧ Half e bs N a) N ?_ (by omega) ?_
    · refine ⟨0, g, rfl, ?_, by simp [T.get_set], by simp [T.get_set], u, s, Half.start rn⟩
      simp only [T.get_set]; simpa using y6
    rintro x fr2 h2 ⟨a, e, rfl, y6, y7, y8, u2, s2, hf2⟩ hag2
    have p2 : P3 fr2 i N := p1.same ((hag2 0 rfl).trans (by simp [T.get_set])) ((hag2 1 rfl).trans (by simp [T.get_set])) ((hag2 2 rfl).trans (by simp [T.get_set]))
    have g6 := getK_of y6
    have g7 := getK_of y7
    have g8 := getK_of y8
    have j0 := getK_of p2.p0
    have j1 := getK_of p2.p1
    have j2 := getK_of p2.p2
    have n2 := u2.n
    have han := hf2.an
    have eb := hf.sw s2 (Nat.le_refl N)
    have w3 : IntKind.i64.wrap ((a : Int) + (bs : Int)) = ((a + bs : Nat) : Int) := by rw [wrap_i64 (by omega) (by omega)]; omega
    by_cases hab : a + 2 * bs ≤ N
    · have c2 : ((a + 2 * bs : Nat) : Int) ≤ (N : Int) := by omega
      have w4 : IntKind.i64.wrap (((a + 2 * bs : Nat) : Int) + ((2 * bs : Nat) : Int)) = ((a + 2 * bs + 2 * bs : Nat) : Int) := by rw [wrap_i64 (by omega) (by omega)]; omega
      repeat' (first | done | with_reducible (first | refine y1 ?_ (by omega) | refine y2 ?_ (by omega) | refine y3 (fun _ => ?_) (fun _ => ?_) | refine y4 ?_ (by omega) (by omega) | refine y5 ?_ (by omega) | refine y6 ?_ (by with_unfolding_all rfl) | refine y7 ?_ (by with_unfolding_all rfl) | refine y8 ?_ (by with_unfolding_all rfl) | refine y9 ?_ (by with_unfolding_all rfl) | refine ya ?_ (by with_unfolding_all rfl)) | ((with_reducible refine And.intro ?_ ?_); (· omega)) | (simp -dsimp only [↓cw_skip, ↓cw_ops, ↓cw_seq, ↓cw_block, ↓cw_cond, ↓seqK_normal, ↓getK_same, ↓getK_ne, ↓evK_tmp, ↓condV_var, ↓opsW_nil, ↓opsW_d, ↓opW_move, ↓opW_bin, ↓bin_add, ↓bin_leq, ↓evs_nil, ↓evs_cons, ↓opW_call, ↓r64_14_w, ↓s64_15_w, ↓s64_16_w, ↓s64_17_w, ↓r64_18_w, ↓s64_19_w, ↓s64_20_w, brK_true, ne_eq, Nat.reduceEqDiff, not_false_eq_true, ↓g6, ↓g7, ↓g8, ↓j0, ↓j1, ↓j2, c2, w3]))
      refine merge_ret u2.lt' u2.g hN eb (by omega) (by omega) hab (hf2.one (by omega)) (hf2.two (Nat.le_refl _) hab) fun e2 h3 u3 s3 so => ?_
      have n3 := u3.n
      repeat' (first | done | with_reducible (first | refine y1 ?_ (by omega) | refine y2 ?_ (by omega) | refine y3 (fun _ => ?_) (fun _ => ?_) | refine y4 ?_ (by omega) (by omega) | refine y5 ?_ (by omega) | refine y6 ?_ (by with_unfolding_all rfl) | refine y7 ?_ (by with_unfolding_all rfl) | refine y8 ?_ (by with_unfolding_all rfl) | refine y9 ?_ (by with_unfolding_all rfl) | refine ya ?_ (by with_unfolding_all rfl)) | ((with_reducible refine And.intro ?_ ?_); (· omega)) | (simp -dsimp only [↓cw_ops, ↓cw_seq, ↓seqK_normal, ↓blockK_normal, ↓loopK_normal, ↓getK_same, ↓getK_ne, ↓evK_tmp, ↓evK_int, ↓opsW_nil, ↓opsW_d, ↓opW_move, ↓opW_assign, ↓opW_bin, ↓bin_add, ↓bin_mul, ↓r64_10_w, ↓s64_11_w, ↓r64_12_w, ↓s64_13_w, ne_eq, Nat.reduceEqDiff, not_false_eq_true, ↓g6, ↓g8, w1, w4]))
      refine ⟨N - (a + 2 * bs), by omega, a + 2 * bs, e2, rfl, ?_, by simp [T.get_set], by simp [T.get_set], u2.trans u3, s2.trans (s3.full hab), hf2.next hab s3 so⟩
      simp only [T.get_set]; simpa using y6
    · have c2 : ¬ ((a + 2 * bs : Nat) : Int) ≤ (N : Int) := by omega
      by_cases hm : a + bs < N
      · have c3 : ((a + bs : Nat) : Int) < (N : Int) := by omega
        repeat' (first | done | with_reducible (first | refine y1 ?_ (by omega) | refine y2 ?_ (by omega) | refine y3 (fun _ => ?_) (fun _ => ?_) | refine y4 ?_ (by omega) (by omega) | refine y5 ?_ (by omega) | refine y6 ?_ (by with_unfolding_all rfl) | refine y7 ?_ (by with_unfolding_all rfl) | refine y8 ?_ (by with_unfolding_all rfl) | refine y9 ?_ (by with_unfolding_all rfl) | refine ya ?_ (by with_unfolding_all rfl)) | ((with_reducible refine And.intro ?_ ?_); (· omega)) | (simp -dsimp only [↓cw_ops, ↓cw_seq, ↓cw_exit, ↓cw_cond, ↓seqK_normal, ↓seqK_exit, ↓blockK_same, ↓loopK_exit, ↓getK_same, ↓getK_ne, ↓evK_tmp, ↓condV_var, ↓opsW_nil, ↓opsW_d, ↓opW_move, ↓opW_assign, ↓opW_bin, ↓bin_add, ↓bin_lss, ↓bin_leq, ↓evs_nil, ↓evs_cons, ↓opW_call, ↓r64_2_w, ↓s64_3_w, ↓s64_4_w, ↓r64_5_w, ↓s64_6_w, ↓r64_7_w, ↓s64_8_w, ↓s64_9_w, ↓s64_17_w, ↓r64_18_w, ↓s64_19_w, ↓s64_20_w, brK_true, brK_false, ne_eq, Nat.reduceEqDiff, not_false_eq_true, Bool.false_eq_true,  ↓g6, ↓g7, ↓g8, ↓j0, ↓j1, ↓j2, c2, w3, c3]))
        refine merge_ret u2.lt' u2.g hN eb (by omega) hm (Nat.le_refl N) (hf2.one (by omega)) (hf2.two (by omega) (Nat.le_refl N)) fun e2 h3 u3 s3 so => ?_
        have n3 := u3.n
        repeat' (first | done | with_reducible (first | refine y1 ?_ (by omega) | refine y2 ?_ (by omega) | refine y3 (fun _ => ?_) (fun _ => ?_) | refine y4 ?_ (by omega) (by omega) | refine y5 ?_ (by omega) | refine y6 ?_ (by with_unfolding_all rfl) | refine y7 ?_ (by with_unfolding_all rfl) | refine y8 ?_ (by with_unfolding_all rfl) | refine y9 ?_ (by with_unfolding_all rfl) | refine ya ?_ (by with_unfolding_all rfl)) | ((with_reducible refine And.intro ?_ ?_); (· omega)) | (simp -dsimp only [↓cw_ops, ↓seqK_normal, ↓blockK_normal, ↓loopK_normal, ↓getK_same, ↓getK_ne, ↓evK_tmp, ↓evK_int, ↓opsW_nil, ↓opsW_d, ↓opW_move, ↓opW_assign, ↓opW_bin, ↓bin_mul, ↓r64_0_w, ↓s64_1_w, ne_eq, Nat.reduceEqDiff, not_false_eq_true, ↓g6, w2]))
        exact ⟨N - 2 * bs, by omega, 2 * bs, e2, by omega, by omega, rfl, by simp [T.get_set], u2.trans u3, s2.trans (s3.full (Nat.le_refl _)), hf2.done (by omega) s3 so⟩
      · have c3 : ¬ ((a + bs : Nat) : Int) < (N : Int) := by omega
        have so : SortedN e a N := by
          have := hf2.high a (Nat.dvd_trans ⟨2, by rw [Nat.mul_comm]⟩ hf2.dv) (Nat.le_refl _)
          rwa [Nat.min_eq_right (by omega)] at this
        repeat' (first | done | with_reducible (first | refine y1 ?_ (by omega) | refine y2 ?_ (by omega) | refine y3 (fun _ => ?_) (fun _ => ?_) | refine y4 ?_ (by omega) (by omega) | refine y5 ?_ (by omega) | refine y6 ?_ (by with_unfolding_all rfl) | refine y7 ?_ (by with_unfolding_all rfl) | refine y8 ?_ (by with_unfolding_all rfl) | refine y9 ?_ (by with_unfolding_all rfl) | refine ya ?_ (by with_unfolding_all rfl)) | ((with_reducible refine And.intro ?_ ?_); (· omega)) | (simp -dsimp only [↓cw_skip, ↓cw_ops, ↓cw_seq, ↓cw_exit, ↓cw_cond, ↓seqK_normal, ↓seqK_exit, ↓blockK_normal, ↓blockK_same, ↓loopK_normal, ↓loopK_exit, ↓getK_same, ↓getK_ne, ↓evK_tmp, ↓evK_int, ↓condV_var, ↓opsW_nil, ↓opsW_d, ↓opW_move, ↓opW_assign, ↓opW_bin, ↓bin_add, ↓bin_mul, ↓bin_lss, ↓bin_leq, ↓r64_0_w, ↓s64_1_w, ↓s64_4_w, ↓r64_5_w, ↓s64_6_w, ↓r64_7_w, ↓s64_8_w, ↓s64_9_w, ↓s64_17_w, ↓r64_18_w, ↓s64_19_w, ↓s64_20_w, brK_false, ne_eq, Nat.reduceEqDiff, not_false_eq_true, Bool.false_eq_true,  ↓g6, ↓g7, ↓g8, ↓j1, c2, w3, c3, w2]))
        exact ⟨N - 2 * bs, by omega, 2 * bs, e, by omega, by omega, rfl, by simp [T.get_set], u2, s2, hf2.done (by omega) (.refl _) so⟩
  · have c1 : ¬ (bs : Int) < (N : Int) := by omega
    have so : SortedN g 0 N := by
      have := rn 0 (Nat.dvd_zero _)
      rwa [Nat.min_eq_right (by omega)] at this
    repeat' (first | done | with_reducible (first | refine y1 ?_ (by omega) | refine y2 ?_ (by omega) | refine y3 (fun _ => ?_) (fun _ => ?_) | refine y4 ?_ (by omega) (by omega) | refine y5 ?_ (by omega) | refine y6 ?_ (by with_unfolding_all rfl) | refine y7 ?_ (by with_unfolding_all rfl) | refine y8 ?_ (by with_unfolding_all rfl) | refine y9 ?_ (by with_unfolding_all rfl) | refine ya ?_ (by with_unfolding_all rfl)) | ((with_reducible refine And.intro ?_ ?_); (· omega)) | (simp -dsimp only [↓cw_ops, ↓cw_seq, ↓cw_exit, ↓cw_cond, ↓seqK_normal, ↓seqK_exit, ↓blockK_same, ↓loopK_exit, ↓getK_same, ↓getK_ne, ↓evK_tmp, ↓condV_var, ↓opsW_nil, ↓opsW_d, ↓opW_move, ↓opW_bin, ↓bin_lss, ↓resK_nil, ↓s64_26_w, ↓r64_27_w, ↓s64_28_w, ↓s64_29_w, brK_false, ne_eq, Nat.reduceEqDiff, not_false_eq_true, Bool.false_eq_true,  ↓g6, ↓i1, c1]))
    exact hK g h1 u s so
/-- a row, sorted: all together -/
theorem stable_ret {i N : Nat} {f : Nat → Nat} {h0 : Heap} {K : Value → Heap → Prop} (hi : i < h0.n) (hg : h0.b.get i = some (.cells (rowL f N) 27 false)) (hN : N ≤ 1000) (hf : Bits f N)
    (hK : ∀ g h', Up h0 h' i g N → Sw 0 N f g → SortedN g 0 N → K (.tuple #[]) h') : Ret env (.func 64) [datV i N, .int .i64 (N : Nat), cmpV] h0 K := by
  refine F64 rfl ?_
  unfold datV cmpV
  repeat' (first | done | with_reducible (first | refine y1 ?_ (by omega) | refine y2 ?_ (by omega) | refine y3 (fun _ => ?_) (fun _ => ?_) | refine y4 ?_ (by omega) (by omega) | refine y5 ?_ (by omega) | refine y6 ?_ (by with_unfolding_all rfl) | refine y7 ?_ (by with_unfolding_all rfl) | refine y8 ?_ (by with_unfolding_all rfl) | refine y9 ?_ (by with_unfolding_all rfl) | refine ya ?_ (by with_unfolding_all rfl)) | ((with_reducible refine And.intro ?_ ?_); (· omega)) | (simp -dsimp only [↓cw_ops, ↓cw_seq, ↓cw_block, ↓seqK_normal, ↓getK_same, ↓getK_ne, ↓evK_tmp, ↓evK_int, ↓opsW_nil, ↓opsW_d, ↓opW_move, ↓opW_assign, ↓setAll_cons, ↓setAll_nil, ↓s64_45_w, ↓s64_46_w, ↓r64_47_w, ↓s64_48_w, ↓r64_49_w, ↓s64_50_w, ne_eq, Nat.reduceEqDiff, Nat.reduceAdd, not_false_eq_true]))
  refine cw_loopI (fun x fr' h' => ∃ (a : Nat) (g : Nat → Nat), x = N - a ∧ fr'.get 6 = some (.int .i64 20) ∧ fr'.get 7 = some (.int .i64 (a : Nat)) ∧ fr'.get 8 = some (.int .i64 ((a + 20 : Nat) : Int)) ∧ Up h0 h' i g N ∧ Sw 0 N f g ∧ First g N a) N ?_ (by omega) ?_
  · exact ⟨0, f, rfl, by simp [T.get_set], by simp [T.get_set], by simp [T.get_set], Up.start hi hg, .refl _, ⟨by omega, by omega, fun x _ h => by omega⟩⟩
  rintro x fr1 h1 ⟨a, g, rfl, y6, y7, y8, u, s, fi⟩ hag
  have p1 : P3 fr1 i N := ⟨(hag 0 rfl).trans (by simp [T.get_set, datV]), (hag 1 rfl).trans (by simp [T.get_set]), (hag 2 rfl).trans (by simp [T.get_set, cmpV])⟩
  have g6 := getK_of y6
  have g7 := getK_of y7
  have g8 := getK_of y8
  have i0 := getK_of p1.p0
  have i1 := getK_of p1.p1
  have i2 := getK_of p1.p2
  have n1 := u.n
  have gb := hf.sw s (Nat.le_refl N)
  have han := fi.an
  by_cases hlt : a + 20 ≤ N
  · have c1 : ((a + 20 : Nat) : Int) ≤ (N : Int) := by omega
    have w1 : IntKind.i64.wrap (((a + 20 : Nat) : Int) + 20) = ((a + 20 + 20 : Nat) : Int) := by rw [wrap_i64 (by omega) (by omega)]; omega
    repeat' (first | done | with_reducible (first | refine y1 ?_ (by omega) | refine y2 ?_ (by omega) | refine y3 (fun _ => ?_) (fun _ => ?_) | refine y4 ?_ (by omega) (by omega) | refine y5 ?_ (by omega) | refine y6 ?_ (by with_unfolding_all rfl) | refine y7 ?_ (by with_unfolding_all rfl) | refine y8 ?_ (by with_unfolding_all rfl) | refine y9 ?_ (by with_unfolding_all rfl) | refine ya ?_ (by with_unfolding_all rfl)) | ((with_reducible refine And.intro ?_ ?_); (· omega)) | (simp -dsimp only [↓cw_skip, ↓cw_ops, ↓cw_seq, ↓cw_block, ↓cw_cond, ↓seqK_normal, ↓getK_same, ↓getK_ne, ↓evK_tmp, ↓condV_var, ↓opsW_nil, ↓opsW_d, ↓opW_move, ↓opW_bin, ↓bin_leq, ↓evs_nil, ↓evs_cons, ↓opW_call, ↓r64_38_w, ↓s64_39_w, ↓s64_40_w, ↓s64_41_w, ↓r64_42_w, ↓s64_43_w, ↓s64_44_w, brK_true, ne_eq, Nat.reduceEqDiff, not_false_eq_true, ↓g7, ↓g8, ↓i0, ↓i1, ↓i2, c1]))
    refine insert_ret u.lt' u.g hN gb hlt (by omega) fun g2 h2 u2 s2 so => ?_
    have n2 := u2.n
    repeat' (first | done | with_reducible (first | refine y1 ?_ (by omega) | refine y2 ?_ (by omega) | refine y3 (fun _ => ?_) (fun _ => ?_) | refine y4 ?_ (by omega) (by omega) | refine y5 ?_ (by omega) | refine y6 ?_ (by with_unfolding_all rfl) | refine y7 ?_ (by with_unfolding_all rfl) | refine y8 ?_ (by with_unfolding_all rfl) | refine y9 ?_ (by with_unfolding_all rfl) | refine ya ?_ (by with_unfolding_all rfl)) | ((with_reducible refine And.intro ?_ ?_); (· omega)) | (simp -dsimp only [↓cw_ops, ↓cw_seq, ↓seqK_normal, ↓blockK_normal, ↓loopK_normal, ↓getK_same, ↓getK_ne, ↓evK_tmp, ↓opsW_nil, ↓opsW_d, ↓opW_move, ↓opW_assign, ↓opW_bin, ↓bin_add, ↓r64_34_w, ↓s64_35_w, ↓r64_36_w, ↓s64_37_w, ne_eq, Nat.reduceEqDiff, not_false_eq_true, ↓g6, ↓g8, w1]))
    refine ⟨N - (a + 20), by omega, a + 20, g2, rfl, ?_, by simp [T.get_set], by simp [T.get_set], u.trans u2, s.trans (s2.mono (by omega) hlt), fi.next hlt s2 so⟩
    simp only [T.get_set]; simpa using y6
  · have c1 : ¬ ((a + 20 : Nat) : Int) ≤ (N : Int) := by omega
    repeat' (first | done | with_reducible (first | refine y1 ?_ (by omega) | refine y2 ?_ (by omega) | refine y3 (fun _ => ?_) (fun _ => ?_) | refine y4 ?_ (by omega) (by omega) | refine y5 ?_ (by omega) | refine y6 ?_ (by with_unfolding_all rfl) | refine y7 ?_ (by with_unfolding_all rfl) | refine y8 ?_ (by with_unfolding_all rfl) | refine y9 ?_ (by with_unfolding_all rfl) | refine ya ?_ (by with_unfolding_all rfl)) | ((with_reducible refine And.intro ?_ ?_); (· omega)) | (simp -dsimp only [↓cw_ops, ↓cw_seq, ↓cw_exit, ↓cw_cond, ↓seqK_normal, ↓seqK_exit, ↓blockK_same, ↓loopK_exit, ↓getK_same, ↓getK_ne, ↓evK_tmp, ↓condV_var, ↓opsW_nil, ↓opsW_d, ↓opW_move, ↓opW_bin, ↓bin_leq, ↓evs_nil, ↓evs_cons, ↓opW_call, ↓r64_32_w, ↓s64_33_w, ↓s64_41_w, ↓r64_42_w, ↓s64_43_w, ↓s64_44_w, brK_false, ne_eq, Nat.reduceEqDiff, not_false_eq_true, Bool.false_eq_true,  ↓g7, ↓g8, ↓i0, ↓i1, ↓i2, c1]))
    refine insert_ret u.lt' u.g hN gb (Nat.le_refl N) han fun g2 h2 u2 s2 so => ?_
    have n2 := u2.n
    have rn := fi.done (by omega) s2 so
    have u := u.trans u2
    have s := s.trans (s2.mono (by omega) (Nat.le_refl _))
    repeat' (first | done | with_reducible (first | refine y1 ?_ (by omega) | refine y2 ?_ (by omega) | refine y3 (fun _ => ?_) (fun _ => ?_) | refine y4 ?_ (by omega) (by omega) | refine y5 ?_ (by omega) | refine y6 ?_ (by with_unfolding_all rfl) | refine y7 ?_ (by with_unfolding_all rfl) | refine y8 ?_ (by with_unfolding_all rfl) | refine y9 ?_ (by with_unfolding_all rfl) | refine ya ?_ (by with_unfolding_all rfl)) | ((with_reducible refine And.intro ?_ ?_); (· omega)) | (simp -dsimp only [↓seqK_normal, ↓opsW_nil]))
    refine stable2 hN hf (p1.same (by simp [T.get_set]) (by simp [T.get_set]) (by simp [T.get_set])) ?_ u s rn hK
    simp only [T.get_set]; simpa using y6
end Go.Proofs.YtjcmcoabckkjoaaDoor.Or

namespace Go.Proofs.YtjcmcoabckkjoaaDoor.Or
open Go.Ev
set_option maxRecDepth 100000
set_option maxHeartbeats 400000
/-- a row that is read -/
def Rd (h : Heap) (v : Value) (f : Nat → Nat) (N : Nat) : Prop := ∃ a c, v = .slice a N c ∧ ∀ k, k < N → ∃ i, a = some ⟨i, 0, none⟩ ∧ i < h.n ∧ cellAt h ⟨i, k, none⟩ = some (.float .f64 (f k))
theorem Rd.ext {h h' : Heap} {v : Value} {f : Nat → Nat} {N : Nat} (r : Rd h v f N) (x : ExtB h.n h h') : Rd h' v f N := by
  obtain ⟨a, c, e, q⟩ := r
  refine ⟨a, c, e, fun k hk => ?_⟩
  obtain ⟨i, e1, e2, e3⟩ := q k hk
  exact ⟨i, e1, by have := x.n; omega, cellAt_ext x e2 e3⟩
theorem Rd.congr {h : Heap} {v : Value} {f g : Nat → Nat} {N : Nat} (r : Rd h v f N) (e : ∀ k, k < N → f k = g k) : Rd h v g N := by
  obtain ⟨a, c, e0, q⟩ := r
  refine ⟨a, c, e0, fun k hk => ?_⟩
  obtain ⟨i, e1, e2, e3⟩ := q k hk
  exact ⟨i, e1, e2, by rw [← e k hk]; exact e3⟩
theorem rd_own {B : Nat} {h : Heap} {v : Value} {f : Nat → Nat} {N : Nat} (o : OwnS B h 27 v N (rowL f N)) : Rd h v f N := by
  generalize hc : rowL f N = cs at o
  cases o with
  | nil => exact ⟨_, _, rfl, fun k hk => by omega⟩
  | emp i hi => exact ⟨_, _, rfl, fun k hk => by omega⟩
  | row i n cs h1 h2 h3 => exact ⟨_, _, rfl, fun k hk => ⟨i, rfl, h2, cellAt_blk h2 h3 (by rw [← hc]; exact rowL_get hk)⟩⟩
theorem rowL_one (f : Nat → Nat) (N : Nat) : (rowL f N).all oneCell = true := by
  simp [rowL, List.all_eq_true, oneCell]
theorem Rd.cells {h : Heap} {a : Option Addr} {c : Nat} {f : Nat → Nat} {N : Nat} (r : Rd h (.slice a N c) f N) (h0 : N ≠ 0) : firstCells h 1 N (.slice a N c) = some (rowL f N) := by
  obtain ⟨a', c', e, q⟩ := r
  cases e
  obtain ⟨i, rfl, hi, _⟩ := q 0 (by omega)
  simp only [firstCells, Nat.mul_one]
  have := cellsAt_pts (h := h) (b := i) (off := 0) (rowL f N) (by intro e; have := rowL_len f N; rw [e] at this; simp at this; omega) fun j v hv => by
    have hj : j < N := by have := (List.getElem?_eq_some_iff.1 hv).1; rwa [rowL_len] at this
    rw [rowL_get hj] at hv
    cases hv
    obtain ⟨i', e', _, e3⟩ := q j hj
    cases e'
    rw [Nat.zero_add]; exact e3
  rwa [rowL_len] at this
theorem clone_ret {v : Value} {f : Nat → Nat} {N : Nat} {h : Heap} {K : Value → Heap → Prop} (r : Rd h v f N) (hN : N ≤ 1000) (hK : ∀ v' h', OwnS h.n h' 27 v' N (rowL f N) → ExtB h.n h h' → K v' h') : Ret env (.func 43) [v] h K := by
  refine F43 rfl ?_
  obtain ⟨a, c, rfl, q⟩ := id r
  cases a with
  | none =>
    have hN0 : N = 0 := by
      rcases Nat.eq_zero_or_pos N with h0 | h0
      · exact h0
      · obtain ⟨i, e, _⟩ := q 0 h0; cases e
    subst hN0
    repeat' (first | done | with_reducible (first | refine y1 ?_ (by omega) | refine y2 ?_ (by omega) | refine y3 (fun _ => ?_) (fun _ => ?_) | refine y4 ?_ (by omega) (by omega) | refine y5 ?_ (by omega) | refine y6 ?_ (by with_unfolding_all rfl) | refine y7 ?_ (by with_unfolding_all rfl) | refine y8 ?_ (by with_unfolding_all rfl) | refine y9 ?_ (by with_unfolding_all rfl) | refine ya ?_ (by with_unfolding_all rfl)) | ((with_reducible refine And.intro ?_ ?_); (· omega)) | (simp -dsimp only [↓cw_ops, ↓cw_seq, ↓cw_ret, ↓cw_cond, ↓seqK_normal, ↓seqK_ret, ↓getK_same, ↓getK_ne, ↓evK_tmp, ↓evK_nilslice, ↓condV_var, ↓opsW_nil, ↓opsW_d, ↓opW_move, ↓opW_assign, ↓opW_bin, ↓resK_one, ↓setAll_cons, ↓setAll_nil, ↓eqN_25, ↓r43_2_w, ↓s43_3_w, ↓s43_4_w, ↓r43_5_w, ↓s43_6_w, ↓s43_7_w, ↓r43_8_w, ↓s43_9_w, brK_true, ne_eq, Nat.reduceEqDiff, not_false_eq_true, eqN_25, Option.isNone_none]))
    exact hK _ h .nil (ExtB.refl _ _)
  | some a =>
    repeat' (first | done | with_reducible (first | refine y1 ?_ (by omega) | refine y2 ?_ (by omega) | refine y3 (fun _ => ?_) (fun _ => ?_) | refine y4 ?_ (by omega) (by omega) | refine y5 ?_ (by omega) | refine y6 ?_ (by with_unfolding_all rfl) | refine y7 ?_ (by with_unfolding_all rfl) | refine y8 ?_ (by with_unfolding_all rfl) | refine y9 ?_ (by with_unfolding_all rfl) | refine ya ?_ (by with_unfolding_all rfl)) | ((with_reducible refine And.intro ?_ ?_); (· omega)) | (simp -dsimp only [↓cw_skip, ↓cw_ops, ↓cw_seq, ↓cw_cond, ↓seqK_normal, ↓getK_same, ↓getK_ne, ↓evK_tmp, ↓evK_nilslice, ↓condV_var, ↓opsW_nil, ↓opsW_d, ↓opW_move, ↓opW_assign, ↓opW_bin, ↓setAll_cons, ↓setAll_nil, ↓evp_nil, ↓eqN_25, ↓bsl_25_0, ↓r43_0_w, ↓s43_1_w, ↓s43_4_w, ↓r43_5_w, ↓s43_6_w, ↓s43_7_w, ↓r43_8_w, ↓s43_9_w, brK_false, ne_eq, Nat.reduceEqDiff, not_false_eq_true, Bool.false_eq_true,  eqN_25, Option.isNone_some]))
    have X1 : ExtB h.n h (newBlk h (.cells [] 27 true)) := ExtB.new _ (Nat.le_refl _)
    have hn1 : (newBlk h (.cells [] 27 true)).n = h.n + 1 := rfl
    refine bs_of (l := []) rfl ?_
    generalize newBlk h (.cells [] 27 true) = h1 at X1 hn1 ⊢
    repeat' (first | done | with_reducible (first | refine y1 ?_ (by omega) | refine y2 ?_ (by omega) | refine y3 (fun _ => ?_) (fun _ => ?_) | refine y4 ?_ (by omega) (by omega) | refine y5 ?_ (by omega) | refine y6 ?_ (by with_unfolding_all rfl) | refine y7 ?_ (by with_unfolding_all rfl) | refine y8 ?_ (by with_unfolding_all rfl) | refine y9 ?_ (by with_unfolding_all rfl) | refine ya ?_ (by with_unfolding_all rfl)) | ((with_reducible refine And.intro ?_ ?_); (· omega)) | (simp -dsimp only [↓getK_same, ↓getK_ne, ↓evK_tmp, ↓opsW_d, ↓opW_move, ↓setAll_cons, ↓setAll_nil, ↓ap_25_25, ne_eq, Nat.reduceEqDiff, not_false_eq_true]))
    refine app_ownG (OwnS.emp (B := h.n) h.n (by omega)) (by omega) rfl rfl (by omega) (fun h0 => ((r.ext X1).cells h0)) (by rw [rowL_len, Nat.mul_one]) (rowL_one f N) (by decide) fun v' h' o X2 => ?_
    rw [Nat.zero_add, List.nil_append] at o
    have n2 := X2.n
    repeat' (first | done | with_reducible (first | refine y1 ?_ (by omega) | refine y2 ?_ (by omega) | refine y3 (fun _ => ?_) (fun _ => ?_) | refine y4 ?_ (by omega) (by omega) | refine y5 ?_ (by omega) | refine y6 ?_ (by with_unfolding_all rfl) | refine y7 ?_ (by with_unfolding_all rfl) | refine y8 ?_ (by with_unfolding_all rfl) | refine y9 ?_ (by with_unfolding_all rfl) | refine ya ?_ (by with_unfolding_all rfl)) | ((with_reducible refine And.intro ?_ ?_); (· omega)) | (simp -dsimp only [↓cw_ret, ↓seqK_normal, ↓getK_same, ↓evK_tmp, ↓opsW_nil, ↓opsW_d, ↓opW_assign, ↓resK_one]))
    exact hK v' h' o (X1.trans X2)
end Go.Proofs.YtjcmcoabckkjoaaDoor.Or

namespace Go.Proofs.YtjcmcoabckkjoaaDoor.Or
open Go.Ev
set_option maxRecDepth 100000
set_option maxHeartbeats 400000
theorem und25 : und env 25 = some (.slice 27) := by kernel_rfl
theorem zero27 : Go.Ev.zero env 27 = some (.float .f64 0) := by kernel_rfl
theorem insert_none {v : Value} {h : Heap} {K : Value → Heap → Prop} (hK : K (.tuple #[]) h) : Ret env (.func 81) [v, .int .i64 0, .int .i64 0, cmpV] h K := by
  refine F81 rfl ?_
  unfold cmpV
  have w1 : IntKind.i64.wrap (0 + 1) = 1 := by decide
  repeat' (first | done | with_reducible (first | refine y1 ?_ (by omega) | refine y2 ?_ (by omega) | refine y3 (fun _ => ?_) (fun _ => ?_) | refine y4 ?_ (by omega) (by omega) | refine y5 ?_ (by omega) | refine y6 ?_ (by with_unfolding_all rfl) | refine y7 ?_ (by with_unfolding_all rfl) | refine y8 ?_ (by with_unfolding_all rfl) | refine y9 ?_ (by with_unfolding_all rfl) | refine ya ?_ (by with_unfolding_all rfl)) | ((with_reducible refine And.intro ?_ ?_); (· omega)) | (simp -dsimp only [↓cw_ops, ↓cw_seq, ↓cw_block, ↓seqK_normal, ↓getK_same, ↓getK_ne, ↓evK_tmp, ↓evK_int, ↓opsW_nil, ↓opsW_d, ↓opW_move, ↓opW_assign, ↓opW_bin, ↓bin_add, ↓setAll_cons, ↓setAll_nil, ↓s81_20_w, ↓s81_21_w, ↓r81_22_w, ↓s81_23_w, ne_eq, Nat.reduceEqDiff, Nat.reduceAdd, not_false_eq_true, w1]))
  refine cw_loopI (fun x fr' h' => h' = h ∧ fr'.get 8 = some (.int .i64 1)) 0 ?_ (by omega) ?_
  · exact ⟨rfl, by simp [T.get_set]⟩
  rintro x fr1 h' ⟨rfl, y8⟩ hag
  have g8 := getK_of y8
  have a2 := getK_eq (hag 2 rfl)
  repeat' (first | done | with_reducible (first | refine y1 ?_ (by omega) | refine y2 ?_ (by omega) | refine y3 (fun _ => ?_) (fun _ => ?_) | refine y4 ?_ (by omega) (by omega) | refine y5 ?_ (by omega) | refine y6 ?_ (by with_unfolding_all rfl) | refine y7 ?_ (by with_unfolding_all rfl) | refine y8 ?_ (by with_unfolding_all rfl) | refine y9 ?_ (by with_unfolding_all rfl) | refine ya ?_ (by with_unfolding_all rfl)) | ((with_reducible refine And.intro ?_ ?_); (· omega)) | (simp -dsimp only [↓cw_ops, ↓cw_seq, ↓cw_exit, ↓cw_cond, ↓seqK_normal, ↓seqK_exit, ↓blockK_same, ↓loopK_exit, ↓getK_same, ↓getK_ne, ↓evK_tmp, ↓condV_var, ↓opsW_nil, ↓opsW_d, ↓opW_move, ↓opW_bin, ↓bin_lss, ↓resK_nil, ↓s81_16_w, ↓r81_17_w, ↓s81_18_w, ↓s81_19_w, brK_false, ne_eq, Nat.reduceEqDiff, not_false_eq_true, Bool.false_eq_true,  ↓g8, ↓a2]))
  exact hK
theorem stable_none {v : Value} {h : Heap} {K : Value → Heap → Prop} (hK : K (.tuple #[]) h) : Ret env (.func 64) [v, .int .i64 0, cmpV] h K := by
  refine F64 rfl ?_
  unfold cmpV
  repeat' (first | done | with_reducible (first | refine y1 ?_ (by omega) | refine y2 ?_ (by omega) | refine y3 (fun _ => ?_) (fun _ => ?_) | refine y4 ?_ (by omega) (by omega) | refine y5 ?_ (by omega) | refine y6 ?_ (by with_unfolding_all rfl) | refine y7 ?_ (by with_unfolding_all rfl) | refine y8 ?_ (by with_unfolding_all rfl) | refine y9 ?_ (by with_unfolding_all rfl) | refine ya ?_ (by with_unfolding_all rfl)) | ((with_reducible refine And.intro ?_ ?_); (· omega)) | (simp -dsimp only [↓cw_ops, ↓cw_seq, ↓cw_block, ↓seqK_normal, ↓getK_same, ↓getK_ne, ↓evK_tmp, ↓evK_int, ↓opsW_nil, ↓opsW_d, ↓opW_move, ↓opW_assign, ↓setAll_cons, ↓setAll_nil, ↓s64_45_w, ↓s64_46_w, ↓r64_47_w, ↓s64_48_w, ↓r64_49_w, ↓s64_50_w, ne_eq, Nat.reduceEqDiff, Nat.reduceAdd, not_false_eq_true]))
  refine cw_loopI (fun x fr' h' => h' = h ∧ fr'.get 6 = some (.int .i64 20) ∧ fr'.get 7 = some (.int .i64 0) ∧ fr'.get 8 = some (.int .i64 20)) 0 ?_ (by omega) ?_
  · exact ⟨rfl, by simp [T.get_set], by simp [T.get_set], by simp [T.get_set]⟩
  rintro x fr1 h' ⟨rfl, y6, y7, y8⟩ hag
  have g6 := getK_of y6
  have g7 := getK_of y7
  have g8 := getK_of y8
  have a0 := getK_eq (hag 0 rfl)
  have a1 := getK_eq (hag 1 rfl)
  have a2 := getK_eq (hag 2 rfl)
  repeat' (first | done | with_reducible (first | refine y1 ?_ (by omega) | refine y2 ?_ (by omega) | refine y3 (fun _ => ?_) (fun _ => ?_) | refine y4 ?_ (by omega) (by omega) | refine y5 ?_ (by omega) | refine y6 ?_ (by with_unfolding_all rfl) | refine y7 ?_ (by with_unfolding_all rfl) | refine y8 ?_ (by with_unfolding_all rfl) | refine y9 ?_ (by with_unfolding_all rfl) | refine ya ?_ (by with_unfolding_all rfl)) | ((with_reducible refine And.intro ?_ ?_); (· omega)) | (simp -dsimp only [↓cw_ops, ↓cw_seq, ↓cw_exit, ↓cw_cond, ↓seqK_normal, ↓seqK_exit, ↓blockK_same, ↓loopK_exit, ↓getK_same, ↓getK_ne, ↓evK_tmp, ↓condV_var, ↓opsW_nil, ↓opsW_d, ↓opW_move, ↓opW_bin, ↓bin_leq, ↓evs_nil, ↓evs_cons, ↓opW_call, ↓r64_32_w, ↓s64_33_w, ↓s64_41_w, ↓r64_42_w, ↓s64_43_w, ↓s64_44_w, brK_false, ne_eq, Nat.reduceEqDiff, not_false_eq_true, Nat.one_ne_zero, Bool.false_eq_true,  ↓g7, ↓g8, ↓a0, ↓a1, ↓a2]))
  refine insert_none ?_
  repeat' (first | done | with_reducible (first | refine y1 ?_ (by omega) | refine y2 ?_ (by omega) | refine y3 (fun _ => ?_) (fun _ => ?_) | refine y4 ?_ (by omega) (by omega) | refine y5 ?_ (by omega) | refine y6 ?_ (by with_unfolding_all rfl) | refine y7 ?_ (by with_unfolding_all rfl) | refine y8 ?_ (by with_unfolding_all rfl) | refine y9 ?_ (by with_unfolding_all rfl) | refine ya ?_ (by with_unfolding_all rfl)) | ((with_reducible refine And.intro ?_ ?_); (· omega)) | (simp -dsimp only [↓cw_block, ↓seqK_normal, ↓opsW_nil, ↓s64_30_w, ↓s64_31_w]))
  refine cw_loopI (fun x fr2 h2 => h2 = h' ∧ fr2.get 6 = some (.int .i64 20)) 0 ?_ (by omega) ?_
  · refine ⟨rfl, ?_⟩
    simp only [T.get_set]; simpa using y6
  rintro x fr2 h2 ⟨rfl, y6⟩ hag2
  have g6 := getK_of y6
  have b1 := getK_eq (hag2 1 rfl)
  repeat' (first | done | with_reducible (first | refine y1 ?_ (by omega) | refine y2 ?_ (by omega) | refine y3 (fun _ => ?_) (fun _ => ?_) | refine y4 ?_ (by omega) (by omega) | refine y5 ?_ (by omega) | refine y6 ?_ (by with_unfolding_all rfl) | refine y7 ?_ (by with_unfolding_all rfl) | refine y8 ?_ (by with_unfolding_all rfl) | refine y9 ?_ (by with_unfolding_all rfl) | refine ya ?_ (by with_unfolding_all rfl)) | ((with_reducible refine And.intro ?_ ?_); (· omega)) | (simp -dsimp only [↓cw_ops, ↓cw_seq, ↓cw_exit, ↓cw_cond, ↓seqK_normal, ↓seqK_exit, ↓blockK_same, ↓loopK_exit, ↓getK_same, ↓getK_ne, ↓evK_tmp, ↓condV_var, ↓opsW_nil, ↓opsW_d, ↓opW_move, ↓opW_bin, ↓bin_lss, ↓resK_nil, ↓s64_26_w, ↓r64_27_w, ↓s64_28_w, ↓s64_29_w, brK_false, ne_eq, Nat.reduceEqDiff, not_false_eq_true, Bool.false_eq_true,  ↓g6, ↓b1, ↓a1]))
  exact hK
theorem slice_fromU {E : Env} {t : TypeId} {sz : Nat} {a : Option Addr} {n : Nat} {k : IntKind} {i : Nat} {j : Int} {K : Value → Prop} (hs : slzOf E t = some sz) (hz : sz ≠ 0) (hj : j = i) (h0 : 0 < i) (h1 : i ≤ n)
    (q : ∀ v, (i < n ∧ v = .slice (a.map (·.add (i * sz))) (n - i) UNK) ∨ (i = n ∧ v = .slice a 0 UNK2) → K v) : sliceVK E t (.slice a n UNK) (some (.int k j)) none none K := by
  subst hj
  unfold slzOf at hs
  split at hs
  · rename_i e hu
    have f1 : Nat.beq UNK UNK2 = false := rfl
    have f2 : Nat.beq UNK UNK = true := Nat.beq_refl _
    have hb : bound (.int k (i : Int)) n = some i := bnd_of h1
    have hab : abounds n n (some (.int k (i : Int))) none none = some (i, n, n) := by
      simp only [abounds, aboundsM, aboundsL, hb]
    obtain ⟨s, rfl⟩ := Nat.exists_eq_succ_of_ne_zero hz
    have hi0 : Nat.beq i 0 = false := by
      cases hh : Nat.beq i 0 with
      | false => rfl
      | true => have := Nat.eq_of_beq_eq_true hh; omega
    simp only [sliceVK, asliceS, hu, f1, f2, cond_false, cond_true, hab, hs, hi0]
    cases hin : Nat.beq i n with
    | true =>
      have e := Nat.eq_of_beq_eq_true hin
      simp only [cond_true, onV_some']
      exact q _ (.inr ⟨e, rfl⟩)
    | false =>
      have e : i ≠ n := fun e => by subst e; rw [Nat.beq_refl] at hin; cases hin
      simp only [cond_false, onV_some']
      exact q _ (.inl ⟨by omega, rfl⟩)
  · cases hs
theorem sortStable_ret {v : Value} {f : Nat → Nat} {N B : Nat} {h : Heap} {K : Value → Heap → Prop} (o : OwnS B h 27 v N (rowL f N)) (hN : N ≤ 1000) (hf : Bits f N)
    (hK : ∀ g h', OwnS B h' 27 v N (rowL g N) → ExtB B h h' → h'.n = h.n → Sw 0 N f g → SortedN g 0 N → K (.tuple #[]) h') : Ret env (.func 44) [v, cmpV] h K := by
  refine F44 rfl ?_
  by_cases h0 : N = 0
  · subst h0
    obtain ⟨a, c, rfl, _⟩ := rd_own o
    unfold cmpV
    repeat' (first | done | with_reducible (first | refine y1 ?_ (by omega) | refine y2 ?_ (by omega) | refine y3 (fun _ => ?_) (fun _ => ?_) | refine y4 ?_ (by omega) (by omega) | refine y5 ?_ (by omega) | refine y6 ?_ (by with_unfolding_all rfl) | refine y7 ?_ (by with_unfolding_all rfl) | refine y8 ?_ (by with_unfolding_all rfl) | refine y9 ?_ (by with_unfolding_all rfl) | refine ya ?_ (by with_unfolding_all rfl)) | ((with_reducible refine And.intro ?_ ?_); (· omega)) | (simp -dsimp only [↓cw_ops, ↓getK_same, ↓getK_ne, ↓evK_tmp, ↓opsW_d, ↓opW_move, ↓evs_nil, ↓evs_cons, ↓opW_call, ↓lenS_some, ↓setAll_cons, ↓setAll_nil, ↓len_25, ↓r44_0_w, ↓s44_1_w, ne_eq, Nat.reduceEqDiff, Nat.reduceAdd, not_false_eq_true, Nat.one_ne_zero]))
    refine stable_none ?_
    repeat' (first | done | with_reducible (first | refine y1 ?_ (by omega) | refine y2 ?_ (by omega) | refine y3 (fun _ => ?_) (fun _ => ?_) | refine y4 ?_ (by omega) (by omega) | refine y5 ?_ (by omega) | refine y6 ?_ (by with_unfolding_all rfl) | refine y7 ?_ (by with_unfolding_all rfl) | refine y8 ?_ (by with_unfolding_all rfl) | refine y9 ?_ (by with_unfolding_all rfl) | refine ya ?_ (by with_unfolding_all rfl)) | ((with_reducible refine And.intro ?_ ?_); (· omega)) | (simp -dsimp only [↓opsW_nil, ↓resK_nil]))
    exact hK f h o (ExtB.refl _ _) rfl (.refl _) (fun i j _ _ h => by omega)
  · generalize hc : rowL f N = cs at o
    cases o with
    | nil => exact absurd rfl h0
    | emp i hi => exact absurd rfl h0
    | row i n cs h1 h2 h3 =>
      rw [← hc] at h3
      unfold cmpV
      repeat' (first | done | with_reducible (first | refine y1 ?_ (by omega) | refine y2 ?_ (by omega) | refine y3 (fun _ => ?_) (fun _ => ?_) | refine y4 ?_ (by omega) (by omega) | refine y5 ?_ (by omega) | refine y6 ?_ (by with_unfolding_all rfl) | refine y7 ?_ (by with_unfolding_all rfl) | refine y8 ?_ (by with_unfolding_all rfl) | refine y9 ?_ (by with_unfolding_all rfl) | refine ya ?_ (by with_unfolding_all rfl)) | ((with_reducible refine And.intro ?_ ?_); (· omega)) | (simp -dsimp only [↓cw_ops, ↓getK_same, ↓getK_ne, ↓evK_tmp, ↓opsW_d, ↓opW_move, ↓evs_nil, ↓evs_cons, ↓opW_call, ↓lenS_some, ↓setAll_cons, ↓setAll_nil, ↓len_25, ↓r44_0_w, ↓s44_1_w, ne_eq, Nat.reduceEqDiff, Nat.reduceAdd, not_false_eq_true, Nat.one_ne_zero]))
      refine stable_ret h2 h3 hN hf fun g h' u s so => ?_
      have n1 := u.n
      repeat' (first | done | with_reducible (first | refine y1 ?_ (by omega) | refine y2 ?_ (by omega) | refine y3 (fun _ => ?_) (fun _ => ?_) | refine y4 ?_ (by omega) (by omega) | refine y5 ?_ (by omega) | refine y6 ?_ (by with_unfolding_all rfl) | refine y7 ?_ (by with_unfolding_all rfl) | refine y8 ?_ (by with_unfolding_all rfl) | refine y9 ?_ (by with_unfolding_all rfl) | refine ya ?_ (by with_unfolding_all rfl)) | ((with_reducible refine And.intro ?_ ?_); (· omega)) | (simp -dsimp only [↓opsW_nil, ↓resK_nil]))
      exact hK g h' (.row i N _ h1 u.lt' u.g) ⟨by omega, fun j hj => u.o j (by omega)⟩ n1 s so
theorem sort_ret {v : Value} {f : Nat → Nat} {N : Nat} {h : Heap} {K : Value → Heap → Prop} (r : Rd h v f N) (hN : N ≤ 1000) (hf : Bits f N)
    (hK : ∀ g v' h', OwnS h.n h' 27 v' N (rowL g N) → ExtB h.n h h' → Sw 0 N f g → SortedN g 0 N → K v' h') : Ret env (.func 24) [v] h K := by
  refine F24 rfl ?_
  repeat' (first | done | with_reducible (first | refine y1 ?_ (by omega) | refine y2 ?_ (by omega) | refine y3 (fun _ => ?_) (fun _ => ?_) | refine y4 ?_ (by omega) (by omega) | refine y5 ?_ (by omega) | refine y6 ?_ (by with_unfolding_all rfl) | refine y7 ?_ (by with_unfolding_all rfl) | refine y8 ?_ (by with_unfolding_all rfl) | refine y9 ?_ (by with_unfolding_all rfl) | refine ya ?_ (by with_unfolding_all rfl)) | ((with_reducible refine And.intro ?_ ?_); (· omega)) | (simp -dsimp only [↓cw_ops, ↓cw_seq, ↓seqK_normal, ↓getK_same, ↓getK_ne, ↓evK_tmp, ↓evK_nilslice, ↓opsW_nil, ↓opsW_d, ↓opW_move, ↓opW_assign, ↓evs_nil, ↓evs_cons, ↓opW_call, ↓setAll_cons, ↓setAll_nil, ↓r24_4_w, ↓s24_5_w, ↓r24_6_w, ↓s24_7_w, ne_eq, Nat.reduceEqDiff, not_false_eq_true]))
  refine clone_ret r hN fun v' h1 o X1 => ?_
  have n1 := X1.n
  repeat' (first | done | with_reducible (first | refine y1 ?_ (by omega) | refine y2 ?_ (by omega) | refine y3 (fun _ => ?_) (fun _ => ?_) | refine y4 ?_ (by omega) (by omega) | refine y5 ?_ (by omega) | refine y6 ?_ (by with_unfolding_all rfl) | refine y7 ?_ (by with_unfolding_all rfl) | refine y8 ?_ (by with_unfolding_all rfl) | refine y9 ?_ (by with_unfolding_all rfl) | refine ya ?_ (by with_unfolding_all rfl)) | ((with_reducible refine And.intro ?_ ?_); (· omega)) | (simp -dsimp only [↓cw_ops, ↓cw_seq, ↓seqK_normal, ↓getK_same, ↓evK_tmp, ↓evK_func, ↓opsW_nil, ↓opsW_d, ↓opW_move, ↓opW_assign, ↓evs_nil, ↓evs_cons, ↓opW_call, ↓r24_2_w, ↓s24_3_w]))
  refine sortStable_ret (B := h.n) o hN hf fun g h2 o2 X2 n2 s so => ?_
  repeat' (first | done | with_reducible (first | refine y1 ?_ (by omega) | refine y2 ?_ (by omega) | refine y3 (fun _ => ?_) (fun _ => ?_) | refine y4 ?_ (by omega) (by omega) | refine y5 ?_ (by omega) | refine y6 ?_ (by with_unfolding_all rfl) | refine y7 ?_ (by with_unfolding_all rfl) | refine y8 ?_ (by with_unfolding_all rfl) | refine y9 ?_ (by with_unfolding_all rfl) | refine ya ?_ (by with_unfolding_all rfl)) | ((with_reducible refine And.intro ?_ ?_); (· omega)) | (simp -dsimp only [↓cw_ops, ↓cw_seq, ↓cw_ret, ↓seqK_normal, ↓getK_same, ↓getK_ne, ↓evK_tmp, ↓opsW_nil, ↓opsW_d, ↓opW_move, ↓opW_assign, ↓resK_one, ↓r24_0_w, ↓s24_1_w, ne_eq, Nat.reduceEqDiff, not_false_eq_true]))
  exact hK g v' h2 o2 (X1.trans X2) s so
end Go.Proofs.YtjcmcoabckkjoaaDoor.Or

