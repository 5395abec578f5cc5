/- The reference's Numbers and Median; both orders alike. -/
import Derived.Test.YtjcmcoabckkjoaaDoorOT
set_option linter.unusedSimpArgs false
set_option linter.unusedVariables false
namespace Go.Proofs.YtjcmcoabckkjoaaDoor.Or
open Go.Ev
set_option maxRecDepth 100000
set_option maxHeartbeats 400000
def flt (ns : List Nat) : List Nat := ns.filter fun n => !isNan n
theorem bitsL_len (f : Nat → Nat) (N : Nat) : (bitsL f N).length = N := by simp [bitsL]
theorem bitsL_get {f : Nat → Nat} {N k : Nat} (hk : k < (bitsL f N).length) : (bitsL f N)[k] = f k := by simp [bitsL]
theorem SortedN.list {f : Nat → Nat} {N : Nat} (h : SortedN f 0 N) : SortL (bitsL f N) := by
  unfold SortL
  rw [List.pairwise_iff_getElem]
  intro i j hi hj hij
  rw [bitsL_get, bitsL_get]
  rw [bitsL_len] at hj
  exact h i j (Nat.zero_le _) hij hj
/-- two orders of the same numbers: place by place alike -/
theorem keys_eq {a b : List Nat} (hp : a.Perm b) (ha : SortL a) (hb : SortL b) : a.map keyN = b.map keyN :=
  (hp.map keyN).eq_of_pairwise (le := (· ≤ ·)) (fun x y _ _ h1 h2 => Nat.le_antisymm h1 h2) (List.pairwise_map.2 ha) (List.pairwise_map.2 hb)
theorem uniq {f g : Nat → Nat} {N M : Nat} {ns : List Nat} (hp : ns.Perm (bitsL f N)) (hs : SortL ns) (s : Sw 0 N f g) (so : SortedN g 0 N) (nf : NanFrom g N M) (hf : Bits f N) : ns.map keyN = (bitsL g N).map keyN ∧ flt ns = bitsL g M := by
  have hg : (bitsL g N).Perm (bitsL f N) := s.perm (Nat.le_refl N)
  have hk := keys_eq (hp.trans hg.symm) hs so.list
  have hl : ns.length = N := by have := hp.length_eq; rwa [bitsL_len] at this
  have gb := hf.sw s (Nat.le_refl N)
  have hb : ∀ k (hk : k < ns.length), ns[k] < 18446744073709551616 := fun k hk => by
    have hm := hp.mem_iff.1 (List.getElem_mem hk)
    obtain ⟨t, ht, e⟩ := List.mem_map.1 hm
    rw [← e]; exact hf t (List.mem_range.1 ht)
  have hkk : ∀ k (hk : k < ns.length), keyN ns[k] = keyN (g k) := fun k h => by
    have := congrArg (·[k]?) hk
    simp only [List.getElem?_map] at this
    rw [List.getElem?_eq_getElem h, List.getElem?_eq_getElem (by rw [bitsL_len]; omega), bitsL_get] at this
    simpa using this
  have hM := nf.le
  refine ⟨hk, ?_⟩
  have h1 : ns.take M = bitsL g M := by
    apply List.ext_getElem
    · rw [List.length_take, bitsL_len]; omega
    · intro k k1 k2
      rw [bitsL_len] at k2
      rw [List.getElem_take, bitsL_get]
      rcases (keyN_inj (hb k (by omega)) (gb k (by omega))).1 (hkk k (by omega)) with ⟨_, h⟩ | h
      · rw [nf.no k k2] at h; cases h
      · exact h
  have h2 : flt (ns.take M) = ns.take M := by
    unfold flt
    rw [List.filter_eq_self]
    intro x hx
    rw [h1] at hx
    obtain ⟨t, ht, rfl⟩ := List.mem_map.1 hx
    rw [nf.no t (List.mem_range.1 ht)]; rfl
  have h3 : flt (ns.drop M) = [] := by
    unfold flt
    rw [List.filter_eq_nil_iff]
    intro x hx
    obtain ⟨j, hj, rfl⟩ := List.getElem_of_mem hx
    rw [List.length_drop] at hj
    rw [List.getElem_drop]
    have e := hkk (M + j) (by omega)
    have e2 := (keyN_nan (gb (M + j) (by omega))).2 (nf.is (M + j) (by omega) (by omega))
    have e3 := (keyN_nan (hb (M + j) (by omega))).1 (e.trans e2)
    rw [e3]; simp
  calc flt ns = flt (ns.take M ++ ns.drop M) := by rw [List.take_append_drop]
    _ = bitsL g M := by
      unfold flt at h2 h3 ⊢
      rw [List.filter_append, h2, h3, h1, List.append_nil]
theorem flt_nan {l : List Nat} {x : Nat} (h : isNan x = true) : flt (l ++ [x]) = flt l := by unfold flt; rw [List.filter_append]; simp [h]
theorem flt_num {l : List Nat} {x : Nat} (h : isNan x = false) : flt (l ++ [x]) = flt l ++ [x] := by unfold flt; rw [List.filter_append]; simp [h]
theorem rowN_snoc (l : List Nat) (x : Nat) : rowN (l ++ [x]) = rowN l ++ [Value.float .f64 x] := by simp [rowN]
def nth0 (ns : List Nat) : Nat → Nat := fun k => ns.getD k 0
theorem rowN_rowL (ns : List Nat) : rowN ns = rowL (nth0 ns) ns.length := by
  apply List.ext_getElem?
  intro k
  by_cases hk : k < ns.length
  · rw [rowN_get hk, rowL_get hk]; simp [nth0, hk]
  · rw [List.getElem?_eq_none (by rw [rowN_len]; omega), List.getElem?_eq_none (by rw [rowL_len]; omega)]
theorem rd_list {B : Nat} {h : Heap} {v : Value} {ns : List Nat} (o : OwnS B h 27 v ns.length (rowN ns)) : Rd h v (nth0 ns) ns.length := by
  rw [rowN_rowL] at o; exact rd_own o
theorem nth0_bits (g : Nat → Nat) {M k : Nat} (hk : k < M) : nth0 (bitsL g M) k = g k := by simp [nth0, bitsL, hk]
theorem rnumbers_ret {v : Value} {f : Nat → Nat} {N : Nat} {h : Heap} {K : Value → Heap → Prop} (r : Rd h v f N) (hN : N ≤ 900) (hf : Bits f N)
    (hK : ∀ ns v' h', OwnS h.n h' 27 v' (flt ns).length (rowN (flt ns)) → ExtB h.n h h' → ns.Perm (bitsL f N) → SortL ns → K v' h') : Ret env (.func 20) [v] h K := by
  refine F20 rfl ?_
  repeat' (first | done | with_reducible (first | refine y1 ?_ (by omega) | refine y2 ?_ (by omega) | refine y3 (fun _ => ?_) (fun _ => ?_) | refine y4 ?_ (by omega) (by omega) | refine y5 ?_ (by omega) | refine y6 ?_ (by with_unfolding_all rfl) | refine y7 ?_ (by with_unfolding_all rfl) | refine y8 ?_ (by with_unfolding_all rfl) | refine y9 ?_ (by with_unfolding_all rfl) | refine ya ?_ (by with_unfolding_all rfl)) | ((with_reducible refine And.intro ?_ ?_); (· omega)) | (simp -dsimp only [↓cw_ops, ↓cw_seq, ↓seqK_normal, ↓getK_same, ↓getK_ne, ↓evK_tmp, ↓evK_nilslice, ↓opsW_nil, ↓opsW_d, ↓opW_move, ↓opW_assign, ↓evs_nil, ↓evs_cons, ↓opW_call, ↓setAll_cons, ↓setAll_nil, ↓r20_19_w, ↓s20_20_w, ↓r20_21_w, ↓s20_22_w, ↓r20_23_w, ↓s20_24_w, ne_eq, Nat.reduceEqDiff, not_false_eq_true]))
  refine rsort_ret r hN hf fun ns v1 h1 o X1 hp hs => ?_
  have n1 := X1.n
  have hl : ns.length = N := by have := hp.length_eq; rwa [bitsL_len] at this
  have hb : ∀ k (hk : k < ns.length), ns[k] < 18446744073709551616 := fun k hk => by
    have hm := hp.mem_iff.1 (List.getElem_mem hk)
    obtain ⟨t, ht, e⟩ := List.mem_map.1 hm
    rw [← e]; exact hf t (List.mem_range.1 ht)
  have hsub := OwnS.sub o
  obtain ⟨oa, oc, rfl, oq⟩ := id hsub
  repeat' (first | done | with_reducible (first | refine y1 ?_ (by omega) | refine y2 ?_ (by omega) | refine y3 (fun _ => ?_) (fun _ => ?_) | refine y4 ?_ (by omega) (by omega) | refine y5 ?_ (by omega) | refine y6 ?_ (by with_unfolding_all rfl) | refine y7 ?_ (by with_unfolding_all rfl) | refine y8 ?_ (by with_unfolding_all rfl) | refine y9 ?_ (by with_unfolding_all rfl) | refine ya ?_ (by with_unfolding_all rfl)) | ((with_reducible refine And.intro ?_ ?_); (· omega)) | (simp -dsimp only [↓cw_ops, ↓cw_seq, ↓cw_block, ↓seqK_normal, ↓getK_same, ↓evK_tmp, ↓evK_int, ↓opsW_nil, ↓opsW_d, ↓opW_assign, ↓setAll_cons, ↓setAll_nil, ↓s20_14_w, ↓s20_15_w, ↓r20_16_w, ↓s20_17_w, ↓s20_18_w]))
  refine cw_loopI (fun x fr' h' => ∃ (k : Nat) (out : Value), k ≤ ns.length ∧ x = ns.length - k ∧ fr'.get 5 = some (.int .i64 (k : Nat)) ∧ fr'.get 3 = some out ∧ OwnS h1.n h' 27 out (flt (ns.take k)).length (rowN (flt (ns.take k))) ∧ ExtB h1.n h1 h') ns.length ?_ (by omega) ?_
  · exact ⟨0, _, by omega, by omega, by simp [T.get_set], by simp [T.get_set], .nil, ExtB.refl _ _⟩
  rintro x fr1 h2 ⟨k, out, hk, rfl, y5, y3, o2, X2⟩ hag
  have n2 := X2.n
  have g5 := getK_of y5
  have g3 := getK_of y3
  have a4 := getK_eq (hag 4 rfl)
  by_cases hlt : k < ns.length
  · have c1 : (k : Int) < (ns.length : Int) := by omega
    obtain ⟨j, off, rfl, hj, d1⟩ := oq k hlt
    have d2 := cellAt_ext X2 hj d1
    have z1 : off + k * 1 = off + k := by omega
    have w1 : IntKind.i64.wrap ((k : Int) + 1) = ((k + 1 : Nat) : Int) := by rw [wrap_i64 (by omega) (by omega)]; omega
    have tk : ns.take (k + 1) = ns.take k ++ [ns[k]] := by rw [List.take_succ_eq_append_getElem hlt]
    repeat' (first | done | with_reducible (first | refine y1 ?_ (by omega) | refine y2 ?_ (by omega) | refine y3 (fun _ => ?_) (fun _ => ?_) | refine y4 ?_ (by omega) (by omega) | refine y5 ?_ (by omega) | refine y6 ?_ (by with_unfolding_all rfl) | refine y7 ?_ (by with_unfolding_all rfl) | refine y8 ?_ (by with_unfolding_all rfl) | refine y9 ?_ (by with_unfolding_all rfl) | refine ya ?_ (by with_unfolding_all rfl)) | ((with_reducible refine And.intro ?_ ?_); (· omega)) | (simp -dsimp only [↓cw_skip, ↓cw_ops, ↓cw_seq, ↓cw_block, ↓cw_cond, ↓seqK_normal, ↓getK_same, ↓getK_ne, ↓evK_tmp, ↓condV_var, ↓opsW_nil, ↓opsW_d, ↓opW_move, ↓opW_bin, ↓bin_lss, ↓ld1_some, ↓idxS_some, ↓evs_nil, ↓evs_cons, ↓opW_call, ↓lenS_some, ↓len_25, ↓ia_25, ↓ld_27, ↓r20_7_w, ↓s20_8_w, ↓s20_9_w, ↓s20_10_w, ↓r20_11_w, ↓s20_12_w, ↓s20_13_w, onV_some', brK_true, and_true, ne_eq, Nat.reduceEqDiff, not_false_eq_true, Addr.add_lit, Int.toNat_natCast, ↓g5, ↓a4, c1, z1, d2]))
    refine nan_fl (hb k hlt) ?_
    cases hn : isNan ns[k] with
    | true =>
      have fk : flt (ns.take (k + 1)) = flt (ns.take k) := by rw [tk, flt_nan hn]
      repeat' (first | done | with_reducible (first | refine y1 ?_ (by omega) | refine y2 ?_ (by omega) | refine y3 (fun _ => ?_) (fun _ => ?_) | refine y4 ?_ (by omega) (by omega) | refine y5 ?_ (by omega) | refine y6 ?_ (by with_unfolding_all rfl) | refine y7 ?_ (by with_unfolding_all rfl) | refine y8 ?_ (by with_unfolding_all rfl) | refine y9 ?_ (by with_unfolding_all rfl) | refine ya ?_ (by with_unfolding_all rfl)) | ((with_reducible refine And.intro ?_ ?_); (· omega)) | (simp -dsimp only [↓cw_skip, ↓cw_ops, ↓cw_cond, ↓seqK_normal, ↓blockK_normal, ↓loopK_normal, ↓getK_same, ↓getK_ne, ↓evK_tmp, ↓evK_int, ↓condV_var, ↓opsW_nil, ↓opsW_d, ↓opW_move, ↓opW_assign, ↓opW_bin, ↓bin_add, ↓opW_un, ↓un_not, ↓r20_2_w, ↓s20_3_w, ↓s20_6_w, brK_false, ne_eq, Nat.reduceEqDiff, not_false_eq_true, Addr.add_lit, Int.toNat_natCast, Bool.false_eq_true,  ↓g5, Bool.not_true, w1]))
      refine ⟨ns.length - (k + 1), by omega, k + 1, out, by omega, rfl, by simp [T.get_set], ?_, by rw [fk]; exact o2, X2⟩
      simp only [T.get_set]; simpa using y3
    | false =>
      have fk : flt (ns.take (k + 1)) = flt (ns.take k) ++ [ns[k]] := by rw [tk, flt_num hn]
      have fl : (flt (ns.take k)).length ≤ k := by
        have := List.length_filter_le (fun n => !isNan n) (ns.take k)
        rw [List.length_take] at this
        unfold flt; omega
      repeat' (first | done | with_reducible (first | refine y1 ?_ (by omega) | refine y2 ?_ (by omega) | refine y3 (fun _ => ?_) (fun _ => ?_) | refine y4 ?_ (by omega) (by omega) | refine y5 ?_ (by omega) | refine y6 ?_ (by with_unfolding_all rfl) | refine y7 ?_ (by with_unfolding_all rfl) | refine y8 ?_ (by with_unfolding_all rfl) | refine y9 ?_ (by with_unfolding_all rfl) | refine ya ?_ (by with_unfolding_all rfl)) | ((with_reducible refine And.intro ?_ ?_); (· omega)) | (simp -dsimp only [↓cw_ops, ↓cw_cond, ↓seqK_normal, ↓getK_same, ↓getK_ne, ↓evK_tmp, ↓condV_var, ↓opsW_nil, ↓opsW_d, ↓opW_move, ↓ld1_some, ↓idxS_some, ↓evp_nil, ↓evp_cons, ↓opW_un, ↓un_not, ↓ia_25, ↓ld_27, ↓bsl_25_1, ↓ap_25_25, ↓r20_4_w, ↓s20_5_w, ↓s20_6_w, onV_some', brK_true, ne_eq, Nat.reduceEqDiff, not_false_eq_true, Addr.add_lit, Int.toNat_natCast, ↓g5, ↓g3, ↓a4, Bool.not_false, z1, d2]))
      refine app_one o2 (by omega) (by rw [rowN_len, Nat.mul_one]) (by omega) rfl rfl (by decide) rfl fun v3 h3 o3 X3 => ?_
      have n3 := X3.n
      repeat' (first | done | with_reducible (first | refine y1 ?_ (by omega) | refine y2 ?_ (by omega) | refine y3 (fun _ => ?_) (fun _ => ?_) | refine y4 ?_ (by omega) (by omega) | refine y5 ?_ (by omega) | refine y6 ?_ (by with_unfolding_all rfl) | refine y7 ?_ (by with_unfolding_all rfl) | refine y8 ?_ (by with_unfolding_all rfl) | refine y9 ?_ (by with_unfolding_all rfl) | refine ya ?_ (by with_unfolding_all rfl)) | ((with_reducible refine And.intro ?_ ?_); (· omega)) | (simp -dsimp only [↓cw_ops, ↓seqK_normal, ↓blockK_normal, ↓loopK_normal, ↓getK_same, ↓getK_ne, ↓evK_tmp, ↓evK_int, ↓opsW_nil, ↓opsW_d, ↓opW_move, ↓opW_assign, ↓opW_bin, ↓bin_add, ↓r20_2_w, ↓s20_3_w, ne_eq, Nat.reduceEqDiff, not_false_eq_true, Addr.add_lit, Int.toNat_natCast, ↓g5, w1]))
      refine ⟨ns.length - (k + 1), by omega, k + 1, v3, by omega, rfl, ?_, by simp [T.get_set], ?_, X2.trans X3⟩
      · simp only [T.get_set]; simp
      · rw [fk, List.length_append, rowN_snoc]; exact o3
  · have e : k = ns.length := by omega
    subst e
    have c1 : ¬ (ns.length : Int) < (ns.length : Int) := by omega
    rw [List.take_length] at o2
    repeat' (first | done | with_reducible (first | refine y1 ?_ (by omega) | refine y2 ?_ (by omega) | refine y3 (fun _ => ?_) (fun _ => ?_) | refine y4 ?_ (by omega) (by omega) | refine y5 ?_ (by omega) | refine y6 ?_ (by with_unfolding_all rfl) | refine y7 ?_ (by with_unfolding_all rfl) | refine y8 ?_ (by with_unfolding_all rfl) | refine y9 ?_ (by with_unfolding_all rfl) | refine ya ?_ (by with_unfolding_all rfl)) | ((with_reducible refine And.intro ?_ ?_); (· omega)) | (simp -dsimp only [↓cw_ops, ↓cw_seq, ↓cw_exit, ↓cw_ret, ↓cw_cond, ↓seqK_normal, ↓seqK_exit, ↓blockK_same, ↓loopK_exit, ↓getK_same, ↓getK_ne, ↓evK_tmp, ↓condV_var, ↓opsW_nil, ↓opsW_d, ↓opW_move, ↓opW_assign, ↓opW_bin, ↓bin_lss, ↓lenS_some, ↓resK_one, ↓len_25, ↓r20_0_w, ↓s20_1_w, ↓s20_10_w, ↓r20_11_w, ↓s20_12_w, ↓s20_13_w, brK_false, ne_eq, Nat.reduceEqDiff, not_false_eq_true, Bool.false_eq_true,  ↓g5, ↓g3, ↓a4, c1]))
    exact hK ns out h2 (own_mono o2 n1) (X1.trans (X2.mono n1)) hp hs
end Go.Proofs.YtjcmcoabckkjoaaDoor.Or

namespace Go.Proofs.YtjcmcoabckkjoaaDoor.Or
open Go.Ev
set_option maxRecDepth 100000
set_option maxHeartbeats 400000
theorem flt_len {f : Nat → Nat} {N : Nat} {ns : List Nat} (hp : ns.Perm (bitsL f N)) : (flt ns).length ≤ N := by
  have h1 := List.length_filter_le (fun n => !isNan n) ns
  have h2 := hp.length_eq
  rw [bitsL_len] at h2
  unfold flt; omega
theorem flt_bits {f : Nat → Nat} {N : Nat} {ns : List Nat} (hp : ns.Perm (bitsL f N)) (hf : Bits f N) : Bits (nth0 (flt ns)) (flt ns).length := fun k hk => by
  have e : nth0 (flt ns) k = (flt ns)[k] := by simp [nth0, hk]
  rw [e]
  have hm : (flt ns)[k] ∈ ns := (List.mem_filter.1 (List.getElem_mem hk)).1
  obtain ⟨t, ht, e⟩ := List.mem_map.1 (hp.mem_iff.1 hm)
  rw [← e]; exact hf t (List.mem_range.1 ht)
theorem rmedian_ret {v : Value} {f : Nat → Nat} {N : Nat} {h : Heap} {K : Value → Heap → Prop} (r : Rd h v f N) (hN : N ≤ 900) (hf : Bits f N)
    (hK : ∀ ns h', ExtB h.n h h' → ns.Perm (bitsL f N) → SortL ns → K (medV (nth0 (flt ns)) (flt ns).length) h') : Ret env (.func 27) [v] h K := by
  refine F27 rfl ?_
  repeat' (first | done | with_reducible (first | refine y1 ?_ (by omega) | refine y2 ?_ (by omega) | refine y3 (fun _ => ?_) (fun _ => ?_) | refine y4 ?_ (by omega) (by omega) | refine y5 ?_ (by omega) | refine y6 ?_ (by with_unfolding_all rfl) | refine y7 ?_ (by with_unfolding_all rfl) | refine y8 ?_ (by with_unfolding_all rfl) | refine y9 ?_ (by with_unfolding_all rfl) | refine ya ?_ (by with_unfolding_all rfl)) | ((with_reducible refine And.intro ?_ ?_); (· omega)) | (simp -dsimp only [↓cw_ops, ↓cw_seq, ↓seqK_normal, ↓getK_same, ↓getK_ne, ↓evK_tmp, ↓evK_float, ↓opsW_nil, ↓opsW_d, ↓opW_move, ↓opW_assign, ↓evs_nil, ↓evs_cons, ↓opW_call, ↓setAll_cons, ↓setAll_nil, ↓r27_14_w, ↓s27_15_w, ↓r27_16_w, ↓s27_17_w, ne_eq, Nat.reduceEqDiff, not_false_eq_true]))
  refine rnumbers_ret r hN hf fun ns v1 h1 o X1 hp hs => ?_
  have n1 := X1.n
  have hl := flt_len hp
  have gb := flt_bits hp hf
  have r1 := rd_list o
  have hq := hK ns h1 X1 hp hs
  generalize flt ns = l at *
  generalize hM : l.length = M at *
  generalize nth0 l = g at *
  obtain ⟨a, c, rfl, q⟩ := r1
  have w1 : IntKind.i64.wrap (Int.tdiv (M : Int) 2) = ((M / 2 : Nat) : Int) := by rw [show Int.tdiv (M : Int) 2 = ((M / 2 : Nat) : Int) from rfl, wrap_i64 (by omega) (by omega)]
  have h20 : (¬ (2 : Int) = 0) = True := eq_true (by omega)
  have w2 : Int.tmod (M : Int) 2 = ((M % 2 : Nat) : Int) := rfl
  unfold medV at hq
  by_cases h0 : M = 0
  · subst h0
    rw [if_pos rfl] at hq
    repeat' (first | done | with_reducible (first | refine y1 ?_ (by omega) | refine y2 ?_ (by omega) | refine y3 (fun _ => ?_) (fun _ => ?_) | refine y4 ?_ (by omega) (by omega) | refine y5 ?_ (by omega) | refine y6 ?_ (by with_unfolding_all rfl) | refine y7 ?_ (by with_unfolding_all rfl) | refine y8 ?_ (by with_unfolding_all rfl) | refine y9 ?_ (by with_unfolding_all rfl) | refine ya ?_ (by with_unfolding_all rfl)) | ((with_reducible refine And.intro ?_ ?_); (· omega)) | (simp -dsimp only [↓cw_ops, ↓cw_seq, ↓cw_cond, ↓seqK_normal, ↓getK_same, ↓evK_tmp, ↓evK_int, ↓condV_var, ↓opsW_nil, ↓opsW_d, ↓opW_move, ↓opW_assign, ↓opW_bin, ↓bin_eql, ↓evs_nil, ↓evs_cons, ↓opW_call, ↓lenS_some, ↓len_25, ↓r27_8_w, ↓s27_9_w, ↓s27_10_w, ↓r27_11_w, ↓s27_12_w, ↓s27_13_w, brK_true]))
    refine from_u ?_
    rw [show (9221120237041090561 : Int).toNat = 9221120237041090561 from rfl]
    repeat' (first | done | with_reducible (first | refine y1 ?_ (by omega) | refine y2 ?_ (by omega) | refine y3 (fun _ => ?_) (fun _ => ?_) | refine y4 ?_ (by omega) (by omega) | refine y5 ?_ (by omega) | refine y6 ?_ (by with_unfolding_all rfl) | refine y7 ?_ (by with_unfolding_all rfl) | refine y8 ?_ (by with_unfolding_all rfl) | refine y9 ?_ (by with_unfolding_all rfl) | refine ya ?_ (by with_unfolding_all rfl)) | ((with_reducible refine And.intro ?_ ?_); (· omega)) | (simp -dsimp only [↓cw_ret, ↓seqK_normal, ↓seqK_ret, ↓getK_same, ↓evK_tmp, ↓opsW_nil, ↓opsW_d, ↓opW_assign, ↓resK_one]))
    exact hq
  · rw [if_neg h0] at hq
    have c0 : ¬ (M : Int) = 0 := by omega
    obtain ⟨i, rfl, hi, d2⟩ := q (M / 2) (by omega)
    have z2 : 0 + (M / 2) * 1 = M / 2 := zero_add_one _
    have b2 : ((M / 2 : Nat) : Int) < (M : Int) := by omega
    by_cases h2 : M % 2 = 1
    · rw [if_pos h2] at hq
      have c1 : ((M % 2 : Nat) : Int) = 1 := by omega
      repeat' (first | done | with_reducible (first | refine y1 ?_ (by omega) | refine y2 ?_ (by omega) | refine y3 (fun _ => ?_) (fun _ => ?_) | refine y4 ?_ (by omega) (by omega) | refine y5 ?_ (by omega) | refine y6 ?_ (by with_unfolding_all rfl) | refine y7 ?_ (by with_unfolding_all rfl) | refine y8 ?_ (by with_unfolding_all rfl) | refine y9 ?_ (by with_unfolding_all rfl) | refine ya ?_ (by with_unfolding_all rfl)) | ((with_reducible refine And.intro ?_ ?_); (· omega)) | (simp -dsimp only [↓cw_skip, ↓cw_ops, ↓cw_seq, ↓cw_ret, ↓cw_cond, ↓seqK_normal, ↓seqK_ret, ↓getK_same, ↓getK_ne, ↓evK_tmp, ↓evK_int, ↓condV_var, ↓opsW_nil, ↓opsW_d, ↓opW_move, ↓opW_assign, ↓opW_bin, ↓bin_quo, ↓bin_rem, ↓bin_eql, ↓ld1_some, ↓idxS_some, ↓lenS_some, ↓resK_one, ↓len_25, ↓ia_25, ↓ld_27, ↓r27_2_w, ↓s27_3_w, ↓s27_4_w, ↓r27_5_w, ↓s27_6_w, ↓s27_7_w, ↓s27_10_w, ↓r27_11_w, ↓s27_12_w, ↓s27_13_w, onV_some', brK_true, brK_false, true_and, ne_eq, Nat.reduceEqDiff, not_false_eq_true, Addr.add_lit, Int.toNat_natCast, Bool.false_eq_true,  c0, w2, c1, w1, h20, z2, d2]))
      exact hq
    · rw [if_neg h2] at hq
      have c1 : ¬ ((M % 2 : Nat) : Int) = 1 := by omega
      obtain ⟨i', e', _, d1⟩ := q (M / 2 - 1) (by omega)
      cases e'
      have z1 : 0 + (M / 2 - 1) * 1 = M / 2 - 1 := zero_add_one _
      have w3 : IntKind.i64.wrap (((M / 2 : Nat) : Int) - 1) = ((M / 2 - 1 : Nat) : Int) := by rw [wrap_i64 (by omega) (by omega)]; omega
      have b1 : ((M / 2 - 1 : Nat) : Int) < (M : Int) := by omega
      have b3 : (0 : Int) ≤ ((M / 2 - 1 : Nat) : Int) := by omega
      have f1 : isF (.float .f64 (g (M / 2 - 1))) = true := rfl
      have f2 : isF (.float .f64 (g (M / 2))) = true := rfl
      have f3 : isF (fA .add (.float .f64 (g (M / 2 - 1))) (.float .f64 (g (M / 2)))) = true := (fA_FB (op := .add) rfl (.inr ⟨_, gb _ (by omega), rfl⟩) (.inr ⟨_, gb _ (by omega), rfl⟩)).isF
      repeat' (first | done | with_reducible (first | refine y1 ?_ (by omega) | refine y2 ?_ (by omega) | refine y3 (fun _ => ?_) (fun _ => ?_) | refine y4 ?_ (by omega) (by omega) | refine y5 ?_ (by omega) | refine y6 ?_ (by with_unfolding_all rfl) | refine y7 ?_ (by with_unfolding_all rfl) | refine y8 ?_ (by with_unfolding_all rfl) | refine y9 ?_ (by with_unfolding_all rfl) | refine ya ?_ (by with_unfolding_all rfl)) | ((with_reducible refine And.intro ?_ ?_); (· omega)) | (simp -dsimp only [↓cw_skip, ↓cw_ops, ↓cw_plan, ↓cw_seq, ↓cw_ret, ↓cw_cond, ↓seqK_normal, ↓getK_same, ↓getK_ne, ↓evK_tmp, ↓evK_int, ↓evK_float, ↓condV_var, ↓opsW_nil, ↓opsW_d, ↓planW_nil, ↓planW_d, ↓agK_nil, ↓opW_move, ↓opW_assign, ↓opW_bin, ↓bin_sub, ↓bin_quo, ↓bin_rem, ↓bin_eql, ↓ld1_some, ↓idxS_some, ↓lenS_some, ↓resK_one, ↓bin_addF, ↓bin_quoF, ↓isF_float, ↓isF_add, ↓len_25, ↓ia_25, ↓ld_27, ↓p27_0_w, ↓s27_1_w, ↓s27_4_w, ↓r27_5_w, ↓s27_6_w, ↓s27_7_w, ↓s27_10_w, ↓r27_11_w, ↓s27_12_w, ↓s27_13_w, onV_some', brK_false, Nat.le_refl, true_and, ne_eq, Nat.reduceEqDiff, not_false_eq_true, Addr.add_lit, Int.toNat_natCast, Bool.false_eq_true,  c0, w2, c1, w1, w3, h20, z1, z2, d1, d2]))
      exact hq
theorem sameAll_ret {v w : Value} {f g : Nat → Nat} {N : Nat} {h : Heap} {K : Value → Heap → Prop} (r : Rd h v f N) (r2 : Rd h w g N) (hN : N ≤ 1000) (hf : Bits f N) (hg : Bits g N) (he : ∀ k, k < N → keyN (f k) = keyN (g k)) (hK : K (.bool true) h) : Ret env (.func 23) [v, w] h K := by
  refine F23 rfl ?_
  obtain ⟨a, c, rfl, q⟩ := r
  obtain ⟨a2, c2, rfl, q2⟩ := r2
  repeat' (first | done | with_reducible (first | refine y1 ?_ (by omega) | refine y2 ?_ (by omega) | refine y3 (fun _ => ?_) (fun _ => ?_) | refine y4 ?_ (by omega) (by omega) | refine y5 ?_ (by omega) | refine y6 ?_ (by with_unfolding_all rfl) | refine y7 ?_ (by with_unfolding_all rfl) | refine y8 ?_ (by with_unfolding_all rfl) | refine y9 ?_ (by with_unfolding_all rfl) | refine ya ?_ (by with_unfolding_all rfl)) | ((with_reducible refine And.intro ?_ ?_); (· omega)) | (simp -dsimp only [↓cw_skip, ↓cw_ops, ↓cw_seq, ↓cw_block, ↓cw_cond, ↓seqK_normal, ↓getK_same, ↓getK_ne, ↓evK_tmp, ↓evK_int, ↓evK_bool, ↓condV_var, ↓opsW_nil, ↓opsW_d, ↓opW_move, ↓opW_assign, ↓opW_bin, ↓bin_neq, ↓lenS_some, ↓setAll_cons, ↓setAll_nil, ↓len_25, ↓s23_14_w, ↓s23_15_w, ↓r23_16_w, ↓s23_17_w, ↓s23_18_w, ↓s23_21_w, ↓r23_22_w, ↓s23_23_w, ↓s23_24_w, ↓r23_25_w, ↓s23_26_w, brK_true, brK_false, ne_eq, Nat.reduceEqDiff, Nat.reduceAdd, not_false_eq_true, Nat.one_ne_zero, Bool.false_eq_true]))
  refine cw_loopI (fun x fr' h' => h' = h ∧ ∃ k : Nat, k ≤ N ∧ x = N - k ∧ fr'.get 5 = some (.int .i64 (k : Nat))) N ?_ (by omega) ?_
  · exact ⟨rfl, 0, by omega, by omega, by simp [T.get_set]⟩
  rintro x fr1 h' ⟨rfl, k, hk, rfl, y5⟩ hag
  have g5 := getK_of y5
  have a0 := getK_eq (hag 0 rfl)
  have a1 := getK_eq (hag 1 rfl)
  by_cases hlt : k < N
  · have c1 : (k : Int) < (N : Int) := by omega
    obtain ⟨i, rfl, hi, d1⟩ := q k hlt
    obtain ⟨j, rfl, hj, d2⟩ := q2 k hlt
    have z1 : 0 + k * 1 = k := zero_add_one _
    have w1 : IntKind.i64.wrap ((k : Int) + 1) = ((k + 1 : Nat) : Int) := by rw [wrap_i64 (by omega) (by omega)]; omega
    repeat' (first | done | with_reducible (first | refine y1 ?_ (by omega) | refine y2 ?_ (by omega) | refine y3 (fun _ => ?_) (fun _ => ?_) | refine y4 ?_ (by omega) (by omega) | refine y5 ?_ (by omega) | refine y6 ?_ (by with_unfolding_all rfl) | refine y7 ?_ (by with_unfolding_all rfl) | refine y8 ?_ (by with_unfolding_all rfl) | refine y9 ?_ (by with_unfolding_all rfl) | refine ya ?_ (by with_unfolding_all rfl)) | ((with_reducible refine And.intro ?_ ?_); (· omega)) | (simp -dsimp only [↓cw_skip, ↓cw_ops, ↓cw_plan, ↓cw_seq, ↓cw_block, ↓cw_cond, ↓seqK_normal, ↓getK_same, ↓getK_ne, ↓evK_tmp, ↓condV_var, ↓opsW_nil, ↓opsW_d, ↓planW_d, ↓agK_nil, ↓opW_move, ↓opW_bin, ↓bin_lss, ↓ld1_some, ↓idxS_some, ↓evs_nil, ↓evs_cons, ↓opW_call, ↓lenS_some, ↓len_25, ↓ia_25, ↓ld_27, ↓p23_7_w, ↓s23_8_w, ↓s23_9_w, ↓s23_10_w, ↓r23_11_w, ↓s23_12_w, ↓s23_13_w, onV_some', brK_true, Nat.le_refl, true_and, and_true, ne_eq, Nat.reduceEqDiff, not_false_eq_true, Nat.one_ne_zero, Addr.add_lit, Int.toNat_natCast, ↓g5, ↓a0, ↓a1, c1, z1, d1, d2]))
    refine rsame_ret (hf k hlt) (hg k hlt) ?_
    rw [decide_eq_true (he k hlt)]
    repeat' (first | done | with_reducible (first | refine y1 ?_ (by omega) | refine y2 ?_ (by omega) | refine y3 (fun _ => ?_) (fun _ => ?_) | refine y4 ?_ (by omega) (by omega) | refine y5 ?_ (by omega) | refine y6 ?_ (by with_unfolding_all rfl) | refine y7 ?_ (by with_unfolding_all rfl) | refine y8 ?_ (by with_unfolding_all rfl) | refine y9 ?_ (by with_unfolding_all rfl) | refine ya ?_ (by with_unfolding_all rfl)) | ((with_reducible refine And.intro ?_ ?_); (· omega)) | (simp -dsimp only [↓cw_skip, ↓cw_ops, ↓cw_cond, ↓seqK_normal, ↓blockK_normal, ↓loopK_normal, ↓getK_same, ↓getK_ne, ↓evK_tmp, ↓evK_int, ↓condV_var, ↓opsW_nil, ↓opsW_d, ↓planW_nil, ↓planW_d, ↓agK_nil, ↓opW_move, ↓opW_assign, ↓opW_bin, ↓bin_add, ↓opW_un, ↓un_not, ↓r23_2_w, ↓s23_3_w, ↓s23_6_w, brK_false, Nat.le_refl, true_and, ne_eq, Nat.reduceEqDiff, not_false_eq_true, Addr.add_lit, Int.toNat_natCast, Bool.false_eq_true,  ↓g5, Bool.not_true, w1]))
    exact ⟨N - (k + 1), by omega, k + 1, by omega, rfl, by simp [T.get_set]⟩
  · have c1 : ¬ (k : Int) < (N : Int) := by omega
    repeat' (first | done | with_reducible (first | refine y1 ?_ (by omega) | refine y2 ?_ (by omega) | refine y3 (fun _ => ?_) (fun _ => ?_) | refine y4 ?_ (by omega) (by omega) | refine y5 ?_ (by omega) | refine y6 ?_ (by with_unfolding_all rfl) | refine y7 ?_ (by with_unfolding_all rfl) | refine y8 ?_ (by with_unfolding_all rfl) | refine y9 ?_ (by with_unfolding_all rfl) | refine ya ?_ (by with_unfolding_all rfl)) | ((with_reducible refine And.intro ?_ ?_); (· omega)) | (simp -dsimp only [↓cw_ops, ↓cw_seq, ↓cw_exit, ↓cw_ret, ↓cw_cond, ↓seqK_normal, ↓seqK_exit, ↓blockK_same, ↓loopK_exit, ↓getK_same, ↓getK_ne, ↓evK_tmp, ↓evK_bool, ↓condV_var, ↓opsW_nil, ↓opsW_d, ↓opW_move, ↓opW_assign, ↓opW_bin, ↓bin_lss, ↓lenS_some, ↓resK_one, ↓len_25, ↓r23_0_w, ↓s23_1_w, ↓s23_10_w, ↓r23_11_w, ↓s23_12_w, ↓s23_13_w, brK_false, ne_eq, Nat.reduceEqDiff, not_false_eq_true, Nat.one_ne_zero, Bool.false_eq_true,  ↓g5, ↓a0, c1]))
    exact hK
/-! the row that came in -/
structure URow (B : Nat) (h : Heap) (a : Option Addr) (l : List Int) : Prop where
  row : RowAt B h a 1 (l.map fun n => [.int .u64 n])
  u : ∀ n ∈ l, 0 ≤ n ∧ n ≤ 18446744073709551615
theorem URow.at {B : Nat} {h : Heap} {a : Option Addr} {l : List Int} (r : URow B h a l) {k : Nat} (hk : k < l.length) : ∃ b off, a = some ⟨b, off, none⟩ ∧ b < B ∧ cellAt h ⟨b, off + k * 1, none⟩ = some (.int .u64 l[k]) := by
  obtain ⟨b, off, e, hb, d⟩ := r.row k (by simpa using hk)
  have d := cellAt_of d (j := 0) (by simp only [List.getElem_map]; rfl)
  exact ⟨b, off, e, hb, d⟩
theorem URow.ext {B : Nat} {h h' : Heap} {a : Option Addr} {l : List Int} (r : URow B h a l) (e : ExtB B h h') : URow B h' a l := ⟨r.row.ext e, r.u⟩
def fOf (l : List Int) : Nat → Nat := fun k => (l.getD k 0).toNat
theorem fOf_get {l : List Int} {k : Nat} (hk : k < l.length) : fOf l k = l[k].toNat := by simp [fOf, hk]
theorem URow.bits {B : Nat} {h : Heap} {a : Option Addr} {l : List Int} (r : URow B h a l) : Bits (fOf l) l.length := fun k hk => by
  rw [fOf_get hk]; have := r.u _ (List.getElem_mem hk); omega
theorem rowL_snoc (f : Nat → Nat) (k : Nat) : rowL f (k + 1) = rowL f k ++ [.float .f64 (f k)] := by
  unfold rowL; rw [List.range_succ, List.map_append]; rfl
theorem numbers9_ret {B : Nat} {a : Option Addr} {c : Nat} {l : List Int} {h : Heap} {K : Value → Heap → Prop} (r : URow B h a l) (hB : B ≤ h.n) (hlen : l.length ≤ 100)
    (hK : ∀ v h', OwnS h.n h' 27 v l.length (rowL (fOf l) l.length) → ExtB h.n h h' → K v h') : Ret env (.func 9) [.slice a l.length c] h K := by
  refine F9 rfl ?_
  repeat' (first | done | with_reducible (first | refine y1 ?_ (by omega) | refine y2 ?_ (by omega) | refine y3 (fun _ => ?_) (fun _ => ?_) | refine y4 ?_ (by omega) (by omega) | refine y5 ?_ (by omega) | refine y6 ?_ (by with_unfolding_all rfl) | refine y7 ?_ (by with_unfolding_all rfl) | refine y8 ?_ (by with_unfolding_all rfl) | refine y9 ?_ (by with_unfolding_all rfl) | refine ya ?_ (by with_unfolding_all rfl)) | ((with_reducible refine And.intro ?_ ?_); (· omega)) | (simp -dsimp only [↓cw_ops, ↓cw_seq, ↓cw_block, ↓seqK_normal, ↓evK_int, ↓evK_nilslice, ↓opsW_nil, ↓opsW_d, ↓opW_assign, ↓setAll_cons, ↓setAll_nil, ↓s9_11_w, ↓s9_12_w, ↓r9_13_w, ↓s9_14_w, ↓s9_15_w, ↓r9_16_w, ↓s9_17_w, ↓r9_18_w, ↓s9_19_w]))
  refine cw_loopI (fun x fr' h' => ∃ (k : Nat) (out : Value), k ≤ l.length ∧ x = l.length - k ∧ fr'.get 4 = some (.int .i64 (k : Nat)) ∧ fr'.get 3 = some out ∧ OwnS h.n h' 27 out k (rowL (fOf l) k) ∧ ExtB h.n h h') l.length ?_ (by omega) ?_
  · exact ⟨0, _, by omega, by omega, by simp [T.get_set], by simp [T.get_set], .nil, ExtB.refl _ _⟩
  rintro x fr1 h1 ⟨k, out, hk, rfl, y4, y3, o, X1⟩ hag
  have n1 := X1.n
  have g4 := getK_of y4
  have g3 := getK_of y3
  have a0 := getK_eq (hag 0 rfl)
  by_cases hlt : k < l.length
  · have c1 : (k : Int) < (l.length : Int) := by omega
    have r1 := r.ext (X1.mono hB)
    obtain ⟨b, off, rfl, hb, d1⟩ := r1.at hlt
    have w1 : IntKind.i64.wrap ((k : Int) + 1) = ((k + 1 : Nat) : Int) := by rw [wrap_i64 (by omega) (by omega)]; omega
    have fk := fOf_get hlt
    repeat' (first | done | with_reducible (first | refine y1 ?_ (by omega) | refine y2 ?_ (by omega) | refine y3 (fun _ => ?_) (fun _ => ?_) | refine y4 ?_ (by omega) (by omega) | refine y5 ?_ (by omega) | refine y6 ?_ (by with_unfolding_all rfl) | refine y7 ?_ (by with_unfolding_all rfl) | refine y8 ?_ (by with_unfolding_all rfl) | refine y9 ?_ (by with_unfolding_all rfl) | refine ya ?_ (by with_unfolding_all rfl)) | ((with_reducible refine And.intro ?_ ?_); (· omega)) | (simp -dsimp only [↓cw_skip, ↓cw_ops, ↓cw_seq, ↓cw_block, ↓cw_cond, ↓seqK_normal, ↓getK_same, ↓getK_ne, ↓evK_tmp, ↓condV_var, ↓opsW_nil, ↓opsW_d, ↓opW_move, ↓opW_bin, ↓bin_lss, ↓ld1_some, ↓idxS_some, ↓evs_nil, ↓evs_cons, ↓opW_call, ↓lenS_some, ↓len_22, ↓ia_22, ↓ld_23, ↓r9_4_w, ↓s9_5_w, ↓s9_6_w, ↓s9_7_w, ↓r9_8_w, ↓s9_9_w, ↓s9_10_w, onV_some', brK_true, and_true, ne_eq, Nat.reduceEqDiff, not_false_eq_true, Addr.add_lit, Int.toNat_natCast, ↓g4, ↓g3, ↓a0, c1, d1]))
    refine from_u ?_
    rw [← fk]
    repeat' (first | done | with_reducible (first | refine y1 ?_ (by omega) | refine y2 ?_ (by omega) | refine y3 (fun _ => ?_) (fun _ => ?_) | refine y4 ?_ (by omega) (by omega) | refine y5 ?_ (by omega) | refine y6 ?_ (by with_unfolding_all rfl) | refine y7 ?_ (by with_unfolding_all rfl) | refine y8 ?_ (by with_unfolding_all rfl) | refine y9 ?_ (by with_unfolding_all rfl) | refine ya ?_ (by with_unfolding_all rfl)) | ((with_reducible refine And.intro ?_ ?_); (· omega)) | (simp -dsimp only [↓getK_same, ↓getK_ne, ↓evK_tmp, ↓opsW_d, ↓evp_nil, ↓evp_cons, ↓bsl_25_1, ↓ap_25_25, ne_eq, Nat.reduceEqDiff, not_false_eq_true]))
    refine app_one o (by omega) (by rw [rowL_len, Nat.mul_one]) (by omega) rfl rfl (by decide) rfl fun v3 h3 o3 X3 => ?_
    have n3 := X3.n
    repeat' (first | done | with_reducible (first | refine y1 ?_ (by omega) | refine y2 ?_ (by omega) | refine y3 (fun _ => ?_) (fun _ => ?_) | refine y4 ?_ (by omega) (by omega) | refine y5 ?_ (by omega) | refine y6 ?_ (by with_unfolding_all rfl) | refine y7 ?_ (by with_unfolding_all rfl) | refine y8 ?_ (by with_unfolding_all rfl) | refine y9 ?_ (by with_unfolding_all rfl) | refine ya ?_ (by with_unfolding_all rfl)) | ((with_reducible refine And.intro ?_ ?_); (· omega)) | (simp -dsimp only [↓cw_ops, ↓seqK_normal, ↓blockK_normal, ↓loopK_normal, ↓getK_same, ↓getK_ne, ↓evK_tmp, ↓evK_int, ↓opsW_nil, ↓opsW_d, ↓opW_move, ↓opW_assign, ↓opW_bin, ↓bin_add, ↓r9_2_w, ↓s9_3_w, ne_eq, Nat.reduceEqDiff, not_false_eq_true, Addr.add_lit, Int.toNat_natCast, ↓g4, w1]))
    refine ⟨l.length - (k + 1), by omega, k + 1, v3, by omega, rfl, by simp [T.get_set], ?_, by rw [rowL_snoc]; exact o3, X1.trans X3⟩
    simp only [T.get_set]; simp
  · have e : k = l.length := by omega
    subst e
    have c1 : ¬ (l.length : Int) < (l.length : Int) := by omega
    repeat' (first | done | with_reducible (first | refine y1 ?_ (by omega) | refine y2 ?_ (by omega) | refine y3 (fun _ => ?_) (fun _ => ?_) | refine y4 ?_ (by omega) (by omega) | refine y5 ?_ (by omega) | refine y6 ?_ (by with_unfolding_all rfl) | refine y7 ?_ (by with_unfolding_all rfl) | refine y8 ?_ (by with_unfolding_all rfl) | refine y9 ?_ (by with_unfolding_all rfl) | refine ya ?_ (by with_unfolding_all rfl)) | ((with_reducible refine And.intro ?_ ?_); (· omega)) | (simp -dsimp only [↓cw_ops, ↓cw_seq, ↓cw_exit, ↓cw_ret, ↓cw_cond, ↓seqK_normal, ↓seqK_exit, ↓blockK_same, ↓loopK_exit, ↓getK_same, ↓getK_ne, ↓evK_tmp, ↓condV_var, ↓opsW_nil, ↓opsW_d, ↓opW_move, ↓opW_assign, ↓opW_bin, ↓bin_lss, ↓lenS_some, ↓resK_one, ↓len_22, ↓r9_0_w, ↓s9_1_w, ↓s9_7_w, ↓r9_8_w, ↓s9_9_w, ↓s9_10_w, brK_false, ne_eq, Nat.reduceEqDiff, not_false_eq_true, Bool.false_eq_true,  ↓g4, ↓g3, ↓a0, c1]))
    exact hK out h1 o X1
end Go.Proofs.YtjcmcoabckkjoaaDoor.Or

