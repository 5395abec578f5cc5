/- What is called on goroutines, queues, capabilities. Conditions, each theorem's own. -/
import Derived.Test.YtdjnedamphifcaaVV
set_option linter.unusedSimpArgs false
set_option linter.unusedVariables false
namespace Go.Proofs.Ytdjnedamphifcaa
open Go.Ev
set_option maxRecDepth 100000
set_option maxHeartbeats 400000
section
variable {h : Heap} {K : Value → Heap → Prop}
def upL (k : Nat) : List Int := (List.range k).map fun (i : Nat) => (i : Int)
theorem upL_succ (k : Nat) : upL (k + 1) = upL k ++ [(k : Int)] := by simp [upL, List.range_succ]
theorem upL_len (k : Nat) : (upL k).length = k := by simp [upL]
theorem all_ret {ps : Nat} (h1 : 1 ≤ ps) (h8 : ps ≤ 8) (hK : ∀ (n : Int) h', ExtB h.n h h' → K (.int .u8 n) h') : Ret env (.func 36) [.int .i64 ps] h K := by
  refine F36 rfl ?_
  repeat' (first | done | with_reducible (first | refine y1 ?_ (by omega) | refine y2 ?_ (by omega) | refine y3 (fun _ => ?_) (fun _ => ?_) | refine y4 ?_ (by omega) (by omega) | refine y5 ?_ (by omega) | refine y6 ?_ (by with_unfolding_all rfl) | refine y7 ?_ (by with_unfolding_all rfl) | refine y8 ?_ (by with_unfolding_all rfl) | refine y9 ?_ (by with_unfolding_all rfl) | refine ya ?_ (by with_unfolding_all rfl)) | (simp -dsimp only [↓cw_ops, ↓cw_seq, ↓cw_block, ↓seqK_normal, ↓evK_int, ↓evK_nilslice, ↓opsW_nil, ↓opsW_d, ↓opW_assign, ↓setAll_cons, ↓setAll_nil, ↓s36_11_w, ↓s36_12_w, ↓r36_13_w, ↓s36_14_w, ↓s36_15_w, ↓r36_16_w, ↓s36_17_w, ↓r36_18_w, ↓s36_19_w]))
  refine cw_loopI (fun m fr' h' => ∃ k : Nat, k ≤ ps ∧ m = ps - k ∧ fr'.get 4 = some (.int .i64 k) ∧ ExtB h.n h h' ∧ ∃ v, fr'.get 3 = some v ∧ RowG h.n h' 3 v k (iV (upL k))) ps ?_ (by omega) ?_
  · exact ⟨0, by omega, by omega, by simp [T.get_set], ExtB.refl _ _, .slice none 0 0, by simp [T.get_set], .inl ⟨rfl, rfl, rfl⟩⟩
  rintro m fr2 h' ⟨k, hk, rfl, f4, X, v, f3, r⟩ hag
  have e4 := getK_of f4
  have e3 := getK_of f3
  have a0 := getK_eq (hag 0 rfl)
  have XN := X.n
  by_cases hlt : k < ps
  · repeat' (first | done | with_reducible (first | refine y1 ?_ (by omega) | refine y2 ?_ (by omega) | refine y3 (fun _ => ?_) (fun _ => ?_) | refine y4 ?_ (by omega) (by omega) | refine y5 ?_ (by omega) | refine y6 ?_ (by with_unfolding_all rfl) | refine y7 ?_ (by with_unfolding_all rfl) | refine y8 ?_ (by with_unfolding_all rfl) | refine y9 ?_ (by with_unfolding_all rfl) | refine ya ?_ (by with_unfolding_all rfl)) | (simp -dsimp only [↓cw_skip, ↓cw_ops, ↓cw_seq, ↓cw_block, ↓cw_cond, ↓seqK_normal, ↓getK_same, ↓getK_ne, ↓evK_tmp, ↓condV_var, ↓opsW_nil, ↓opsW_d, ↓opW_move, ↓opW_bin, ↓bin_lss, ↓evp_nil, ↓evp_cons, ↓bsl_38_1, ↓ap_38_38, ↓r36_4_w, ↓s36_5_w, ↓s36_6_w, ↓s36_7_w, ↓r36_8_w, ↓s36_9_w, ↓s36_10_w, brK_true, ne_eq, Nat.reduceEqDiff, not_false_eq_true, ↓e4, ↓e3, ↓a0]))
    refine app_row (new := [.int .i64 (k : Int)]) r XN (by rw [iV_len, upL_len]; omega) (by omega) rfl rfl (by decide) rfl fun v2 h2 r2 x2 k2 _ => ?_
    repeat' (first | done | with_reducible (first | refine y1 ?_ (by omega) | refine y2 ?_ (by omega) | refine y3 (fun _ => ?_) (fun _ => ?_) | refine y4 ?_ (by omega) (by omega) | refine y5 ?_ (by omega) | refine y6 ?_ (by with_unfolding_all rfl) | refine y7 ?_ (by with_unfolding_all rfl) | refine y8 ?_ (by with_unfolding_all rfl) | refine y9 ?_ (by with_unfolding_all rfl) | refine ya ?_ (by with_unfolding_all rfl)) | (simp -dsimp only [↓cw_ops, ↓seqK_normal, ↓blockK_normal, ↓loopK_normal, ↓getK_same, ↓getK_ne, ↓evK_tmp, ↓evK_int, ↓opsW_nil, ↓opsW_d, ↓opW_move, ↓opW_assign, ↓opW_bin, ↓bin_add, ↓r36_2_w, ↓s36_3_w, ne_eq, Nat.reduceEqDiff, not_false_eq_true, ↓e4]))
    have e : iV (upL k) ++ [.int .i64 (k : Int)] = iV (upL (k + 1)) := by rw [upL_succ, iV_append]; rfl
    rw [e] at r2
    exact ⟨ps - (k + 1), by omega, k + 1, by omega, rfl, by simp [T.get_set, wrap_succ (show k ≤ 4611686018427387904 by omega)], X.trans x2, v2, by simp [T.get_set], r2⟩
  · have e : k = ps := by omega
    subst e
    obtain ⟨i, rfl, hi, gi⟩ := r.g (by omega)
    repeat' (first | done | with_reducible (first | refine y1 ?_ (by omega) | refine y2 ?_ (by omega) | refine y3 (fun _ => ?_) (fun _ => ?_) | refine y4 ?_ (by omega) (by omega) | refine y5 ?_ (by omega) | refine y6 ?_ (by with_unfolding_all rfl) | refine y7 ?_ (by with_unfolding_all rfl) | refine y8 ?_ (by with_unfolding_all rfl) | refine y9 ?_ (by with_unfolding_all rfl) | refine ya ?_ (by with_unfolding_all rfl)) | (simp -dsimp only [↓cw_ops, ↓cw_seq, ↓cw_exit, ↓cw_cond, ↓seqK_normal, ↓seqK_exit, ↓blockK_same, ↓loopK_exit, ↓getK_same, ↓getK_ne, ↓evK_tmp, ↓condV_var, ↓opsW_nil, ↓opsW_d, ↓opW_move, ↓opW_bin, ↓bin_lss, ↓evs_nil, ↓evs_cons, ↓opW_call, ↓r36_0_w, ↓s36_1_w, ↓s36_7_w, ↓r36_8_w, ↓s36_9_w, ↓s36_10_w, brK_false, ne_eq, Nat.reduceEqDiff, not_false_eq_true, Bool.false_eq_true,  ↓e4, ↓e3, ↓a0]))
    obtain ⟨l, hll, hL⟩ : ∃ l : List Int, l.length = k ∧ upL k = l := ⟨_, upL_len k, rfl⟩
    rw [hL] at gi
    clear hL r
    subst hll
    have ra : RowAt h'.n h' (some ⟨i, 0, none⟩) 1 (l.map fun n => [.int .i64 n]) := fun j hj => by
      rw [List.length_map] at hj
      refine ⟨i, 0, rfl, gi.1, ?_⟩
      have := gi.part (off := 0 + j * 1) (l := [.int .i64 l[j]]) (by simp) fun o v hv => by
        match o, hv with
        | 0, hv => rw [Nat.add_zero, Nat.zero_add, Nat.mul_one, iV, List.getElem?_map, List.getElem?_eq_getElem hj]; exact hv
      simpa using this
    refine of_ret (Nat.le_refl h'.n) (by omega) ra fun n => ?_
    repeat' (first | done | with_reducible (first | refine y1 ?_ (by omega) | refine y2 ?_ (by omega) | refine y3 (fun _ => ?_) (fun _ => ?_) | refine y4 ?_ (by omega) (by omega) | refine y5 ?_ (by omega) | refine y6 ?_ (by with_unfolding_all rfl) | refine y7 ?_ (by with_unfolding_all rfl) | refine y8 ?_ (by with_unfolding_all rfl) | refine y9 ?_ (by with_unfolding_all rfl) | refine ya ?_ (by with_unfolding_all rfl)) | (simp -dsimp only [↓cw_ret, ↓seqK_normal, ↓getK_same, ↓evK_tmp, ↓opsW_nil, ↓opsW_d, ↓opW_assign, ↓resK_one]))
    exact hK n h' X
end
end Go.Proofs.Ytdjnedamphifcaa

namespace Go.Proofs.Ytdjnedamphifcaa
open Go.Ev
set_option maxRecDepth 100000
set_option maxHeartbeats 400000
section
variable {h : Heap} {K : Value → Heap → Prop}
def gC (n : Int) : List Value := [.int .i64 1, .bool false, .int .i64 0, .int .u64 1, .int .i64 0, .int .u64 1, .int .u8 n, .int .i64 0, .int .i64 0, .int .u64 0, .int .u64 0, .int .u64 0, .int .u64 0, .int .u64 0, .int .u64 0, .int .u64 0, .int .u64 0, .int .i64 0, .int .u64 0]
theorem gMay_ret {n : Int} (hK : ∀ h', ExtB h.n h h' → K (.bool true) h') : Ret env (.func 61) [.agg ⟨gC n⟩] h K := by
  refine F61 rfl ?_
  simp only [gC]
  repeat' (first | done | with_reducible (first | refine y1 ?_ (by omega) | refine y2 ?_ (by omega) | refine y3 (fun _ => ?_) (fun _ => ?_) | refine y4 ?_ (by omega) (by omega) | refine y5 ?_ (by omega) | refine y6 ?_ (by with_unfolding_all rfl) | refine y7 ?_ (by with_unfolding_all rfl) | refine y8 ?_ (by with_unfolding_all rfl) | refine y9 ?_ (by with_unfolding_all rfl) | refine ya ?_ (by with_unfolding_all rfl)) | (simp -dsimp only [↓cw_skip, ↓cw_ops, ↓cw_seq, ↓cw_ret, ↓cw_cond, ↓seqK_normal, ↓getK_same, ↓getK_ne, ↓evK_tmp, ↓evK_int, ↓evK_bool, ↓condV_var, ↓gdV_var, ↓opsW_nil, ↓opsW_d, ↓opsW_gd, ↓opW_move, ↓opW_assign, ↓opW_pick, ↓opW_bin, ↓bin_eql, ↓bin_lss, ↓bin_gtr, ↓ld1_some, ↓fldA_some, ↓resK_one, ↓setAll_cons, ↓setAll_nil, ↓opW_box, ↓box_agg, ↓opW_un, ↓un_not, ↓ld_3, ↓ld_22, ↓ld_4, ↓fa_64_0, ↓ld_60, ↓fa_64_9, ↓fa_64_5, ↓fa_64_6, ↓fa_64_1, ↓r61_0_w, ↓s61_1_w, ↓s61_4_w, ↓r61_5_w, ↓s61_6_w, ↓s61_7_w, ↓s61_10_w, ↓r61_11_w, ↓s61_12_w, ↓s61_13_w, ↓r61_14_w, ↓s61_15_w, cellAt_newE, List.getElem?_cons_zero, List.getElem?_cons_succ, onV_some', brK_true, brK_false, ne_eq, Nat.reduceEqDiff, Nat.reduceAdd, not_false_eq_true, Nat.add_zero, Addr.add_lit, Bool.true_eq_false, Bool.false_eq_true,  Bool.not_false]))
  exact hK _ (ExtB.new _ (Nat.le_refl _))
theorem OwnS.slc {B : Nat} {e : TypeId} {v : Value} {n : Nat} {cs : List Value} (o : OwnS B h e v n cs) : ∃ a m c, v = .slice a m c := by
  cases o with
  | nil => exact ⟨_, _, _, rfl⟩
  | emp i hi => exact ⟨_, _, _, rfl⟩
  | row i n cs h1 h2 h3 => exact ⟨_, _, _, rfl⟩
theorem gMake_ret {tb lb fb size : Nat} {n : Int} (h1 : 1 ≤ size) (h64 : size ≤ 64) (gt : G h tb [.slice (some ⟨lb, 0, none⟩) size UNK, .slice (some ⟨fb, 0, none⟩) size UNK] 129 true) (gl : G h lb (many size place0) 131 false) (gf : G h fb (iV (downL size size)) 3 false)
    (hK : ∀ v h', h.n ≤ h'.n → (∀ j, j < h.n → j ≠ tb → j ≠ lb → h'.b.get j = h.b.get j) → K v h') : Ret env (.func 35) [.pointer (some ⟨tb, 0, none⟩), .agg ⟨gC n⟩] h K := by
  have n1 := gt.ne gl (.inl (by decide))
  have n2 := gt.ne gf (.inl (by decide))
  have n3 := gl.ne gf (.inl (by decide))
  have ht := gt.1
  have hl := gl.1
  have hf := gf.1
  have w1 : IntKind.wrap .i64 ((size : Int) - 1) = ((size - 1 : Nat) : Int) := by rw [wrap_i64 (by omega) (by omega)]; omega
  refine F35 rfl ?_
  repeat' (first | done | with_reducible (first | refine y1 ?_ (by omega) | refine y2 ?_ (by omega) | refine y3 (fun _ => ?_) (fun _ => ?_) | refine y4 ?_ (by omega) (by omega) | refine y5 ?_ (by omega) | refine y6 ?_ (by with_unfolding_all rfl) | refine y7 ?_ (by with_unfolding_all rfl) | refine y8 ?_ (by with_unfolding_all rfl) | refine y9 ?_ (by with_unfolding_all rfl) | refine ya ?_ (by with_unfolding_all rfl)) | (simp -dsimp only [↓cw_ops, ↓cw_seq, ↓seqK_normal, ↓getK_same, ↓evK_tmp, ↓evK_int, ↓opsW_nil, ↓opsW_d, ↓opW_assign, ↓setAll_cons, ↓setAll_nil, ↓opW_box, ↓box_agg, ↓al_59, ↓r35_24_w, ↓s35_25_w, newBlk_n, Nat.reduceAdd]))
  have X : ExtB h.n h (newBlk (newBlk h (.cells (gC n) 64 true)) (.cells [.int .i64 0, .int .u64 0] 59 true)) := (ExtB.new _ (Nat.le_refl _)).trans (ExtB.new _ (by simp [newBlk]))
  have q1 := (G.new h (gC n) 64 true).old (.cells [.int .i64 0, .int .u64 0] 59 true)
  have q2 := G.new (newBlk h (.cells (gC n) 64 true)) [.int .i64 0, .int .u64 0] 59 true
  rw [newBlk_n] at q2
  have gt := gt.ext X gt.1
  have gl := gl.ext X gl.1
  have gf := gf.ext X gf.1
  generalize newBlk (newBlk h (.cells (gC n) 64 true)) (.cells [.int .i64 0, .int .u64 0] 59 true) = h2 at q1 q2 X gt gl gf ⊢
  have XN := X.n
  have dg := q1.cells (n := 19) rfl (by decide)
  repeat' (first | done | with_reducible (first | refine y1 ?_ (by omega) | refine y2 ?_ (by omega) | refine y3 (fun _ => ?_) (fun _ => ?_) | refine y4 ?_ (by omega) (by omega) | refine y5 ?_ (by omega) | refine y6 ?_ (by with_unfolding_all rfl) | refine y7 ?_ (by with_unfolding_all rfl) | refine y8 ?_ (by with_unfolding_all rfl) | refine y9 ?_ (by with_unfolding_all rfl) | refine ya ?_ (by with_unfolding_all rfl)) | (simp -dsimp only [↓cw_ops, ↓cw_seq, ↓getK_same, ↓getK_ne, ↓evK_tmp, ↓opsW_d, ↓ldN_some, ↓evs_nil, ↓evs_cons, ↓opW_call, ↓ld_64, ↓r35_21_w, ↓s35_22_w, ↓s35_23_w, onV_some', ne_eq, Nat.reduceEqDiff, not_false_eq_true, dg]))
  refine gMay_ret fun h3 X3 => ?_
  have hn3 := X3.n
  have q1 := q1.ext X3 q1.1
  have q2 := q2.ext X3 q2.1
  have gt := gt.ext X3 gt.1
  have gl := gl.ext X3 gl.1
  have gf := gf.ext X3 gf.1
  have c0 := gt.cell (off := 0) rfl
  have c1 := gt.cell (off := 1) rfl
  have cF : cellAt h3 ⟨fb, 0 + (size - 1) * 1, none⟩ = some (.int .i64 0) := by
    refine gf.cell ?_
    rw [Nat.zero_add, Nat.mul_one, iV_get (by simp [downL]; omega)]
    simp [downL, show size - 1 < size by omega]
  repeat' (first | done | with_reducible (first | refine y1 ?_ (by omega) | refine y2 ?_ (by omega) | refine y3 (fun _ => ?_) (fun _ => ?_) | refine y4 ?_ (by omega) (by omega) | refine y5 ?_ (by omega) | refine y6 ?_ (by with_unfolding_all rfl) | refine y7 ?_ (by with_unfolding_all rfl) | refine y8 ?_ (by with_unfolding_all rfl) | refine y9 ?_ (by with_unfolding_all rfl) | refine ya ?_ (by with_unfolding_all rfl)) | (simp -dsimp only [↓cw_skip, ↓cw_ops, ↓cw_seq, ↓cw_cond, ↓seqK_normal, ↓getK_same, ↓getK_ne, ↓evK_tmp, ↓evK_int, ↓condV_var, ↓opsW_nil, ↓opsW_d, ↓opW_move, ↓opW_assign, ↓opW_bin, ↓bin_sub, ↓bin_lss, ↓ld1_some, ↓fldA_some, ↓idxS_some, ↓lenS_some, ↓opW_un, ↓un_not, ↓opW_nilCheck, ↓opW_slice, ↓evo_none, ↓evo_some, ↓ld_3, ↓fa_129_1, ↓ld_38, ↓len_38, ↓ia_38, ↓r35_6_w, ↓s35_7_w, ↓r35_8_w, ↓s35_9_w, ↓s35_12_w, ↓r35_13_w, ↓s35_14_w, ↓s35_15_w, ↓r35_16_w, ↓s35_17_w, ↓s35_20_w, onV_some', brK_false, ne_eq, Nat.reduceEqDiff, Nat.reduceAdd, not_false_eq_true, Nat.one_ne_zero, Addr.add_lit, Int.toNat_natCast, Bool.false_eq_true,  c1, cF, w1, Bool.not_true]))
  refine slice_to slz_38 (by decide) (by omega) (by omega) ?_
  repeat' (first | done | with_reducible (first | refine y1 ?_ (by omega) | refine y2 ?_ (by omega) | refine y3 (fun _ => ?_) (fun _ => ?_) | refine y4 ?_ (by omega) (by omega) | refine y5 ?_ (by omega) | refine y6 ?_ (by with_unfolding_all rfl) | refine y7 ?_ (by with_unfolding_all rfl) | refine y8 ?_ (by with_unfolding_all rfl) | refine y9 ?_ (by with_unfolding_all rfl) | refine ya ?_ (by with_unfolding_all rfl)) | (simp -dsimp only [↓getK_same, ↓evK_tmp, ↓evK_nilslice, ↓opsW_d, ↓ap_38_38, Int.toNat_natCast]))
  refine app_ownG (B := h3.n) (n := 0) (cs := []) (m := size - 1) (new := (iV (downL size size)).take (size - 1)) .nil (Nat.le_refl _) rfl rfl (by omega) (fun hm => ?_) (by rw [List.length_take, iV_len]; simp [downL]) ?_ (by decide) fun v4 h4 o4 X4 => ?_
  · simp only [firstCells]
    have := gf.part (off := 0) (l := (iV (downL size size)).take (size - 1)) (by
      intro he
      have := congrArg List.length he
      rw [List.length_take, iV_len] at this
      simp [downL] at this; omega) fun o v hv => by
      rw [Nat.zero_add]
      by_cases ho : o < size - 1
      · rwa [List.getElem?_take_of_lt ho] at hv
      · rw [List.getElem?_eq_none (by rw [List.length_take]; omega)] at hv; cases hv
    rw [List.length_take, iV_len, show (downL size size).length = size by simp [downL], Nat.min_eq_left (by omega)] at this
    simpa using this
  · rw [List.all_eq_true]
    intro v hv
    obtain ⟨k, _, rfl⟩ := List.mem_map.1 (List.mem_of_mem_take hv)
    rfl
  obtain ⟨va, vm, vc, rfl⟩ := OwnS.slc o4
  have hn4 := X4.n
  have q1 := q1.ext X4 q1.1
  have q2 := q2.ext X4 q2.1
  have gt := gt.ext X4 gt.1
  have gl := gl.ext X4 gl.1
  repeat' (first | done | with_reducible (first | refine y1 ?_ (by omega) | refine y2 ?_ (by omega) | refine y3 (fun _ => ?_) (fun _ => ?_) | refine y4 ?_ (by omega) (by omega) | refine y5 ?_ (by omega) | refine y6 ?_ (by with_unfolding_all rfl) | refine y7 ?_ (by with_unfolding_all rfl) | refine y8 ?_ (by with_unfolding_all rfl) | refine y9 ?_ (by with_unfolding_all rfl) | refine ya ?_ (by with_unfolding_all rfl)) | (simp -dsimp only [↓getK_same, ↓getK_ne, ↓evK_tmp, ↓opsW_d, ↓opsW_n, ↓fldA_some, ↓opW_nilCheck, ↓fa_129_1, ↓st_38, ne_eq, Nat.reduceEqDiff, Nat.reduceAdd, not_false_eq_true, Addr.add_lit]))
  refine st_G (off := 1) (l := [.slice va vm vc]) (cs' := [.slice (some ⟨lb, 0, none⟩) size UNK, .slice va vm vc]) gt rfl rfl rfl rfl (by decide) fun h5 e5 t5 f5 => ?_
  have q1 := q1.same (show h4.n ≤ h5.n by omega) (f5 h.n (by omega))
  have q2 := q2.same (show h4.n ≤ h5.n by omega) (f5 (h.n + 1) (by omega))
  have gl := gl.same (show h4.n ≤ h5.n by omega) (f5 lb (by omega))
  have c0 := t5.cell (off := 0) rfl
  obtain ⟨s, rfl⟩ : ∃ s, size = s + 1 := ⟨size - 1, by omega⟩
  rw [many_cons] at gl
  have gl : G h5 lb ([.int .u64 1] ++ ([.bool false] ++ (g0 ++ many s place0))) 131 false := gl
  repeat' (first | done | with_reducible (first | refine y1 ?_ (by omega) | refine y2 ?_ (by omega) | refine y3 (fun _ => ?_) (fun _ => ?_) | refine y4 ?_ (by omega) (by omega) | refine y5 ?_ (by omega) | refine y6 ?_ (by with_unfolding_all rfl) | refine y7 ?_ (by with_unfolding_all rfl) | refine y8 ?_ (by with_unfolding_all rfl) | refine y9 ?_ (by with_unfolding_all rfl) | refine ya ?_ (by with_unfolding_all rfl)) | (simp -dsimp only [↓cw_ops, ↓cw_seq, ↓seqK_normal, ↓getK_same, ↓getK_ne, ↓evK_tmp, ↓evK_bool, ↓opsW_nil, ↓opsW_d, ↓opsW_n, ↓opW_move, ↓ld1_some, ↓fldA_some, ↓idxS_some, ↓opW_nilCheck, ↓fa_129_0, ↓ld_127, ↓ia_127, ↓fa_131_1, ↓st_4, ↓r35_4_w, ↓s35_5_w, onV_some', ne_eq, Nat.reduceEqDiff, Nat.reduceAdd, not_false_eq_true, Nat.one_ne_zero, Nat.add_zero, Addr.add_lit, Int.toNat_zero, Nat.zero_mul, c0]))
  refine st_G (off := 1) (l := [.bool true]) (cs' := [.int .u64 1] ++ ([.bool true] ++ (g0 ++ many s place0))) gl rfl rfl (over_mid [.bool true] [.int .u64 1] [.bool false] (g0 ++ many s place0) rfl) rfl (by decide) fun h6 e6 gl f6 => ?_
  have gl : G h6 lb ([.int .u64 1, .bool true] ++ (g0 ++ many s place0)) 131 false := gl
  have q1 := q1.same (show h5.n ≤ h6.n by omega) (f6 h.n (by omega))
  have q2 := q2.same (show h5.n ≤ h6.n by omega) (f6 (h.n + 1) (by omega))
  have gt := t5.same (show h5.n ≤ h6.n by omega) (f6 tb (by omega))
  have c0 := gt.cell (off := 0) rfl
  have dg := q1.cells (n := 19) rfl (by decide)
  have sg : (sameV 50 (.agg ⟨gC n⟩) (.agg ⟨gC n⟩) = true) = True := by simp [gC, sameV, sameV.go]
  repeat' (first | done | with_reducible (first | refine y1 ?_ (by omega) | refine y2 ?_ (by omega) | refine y3 (fun _ => ?_) (fun _ => ?_) | refine y4 ?_ (by omega) (by omega) | refine y5 ?_ (by omega) | refine y6 ?_ (by with_unfolding_all rfl) | refine y7 ?_ (by with_unfolding_all rfl) | refine y8 ?_ (by with_unfolding_all rfl) | refine y9 ?_ (by with_unfolding_all rfl) | refine ya ?_ (by with_unfolding_all rfl)) | (simp -dsimp only [↓cw_plan, ↓cw_seq, ↓seqK_normal, ↓getK_same, ↓getK_ne, ↓evK_tmp, ↓opsW_nil, ↓planW_d, ↓planW_n, ↓agK_nil, ↓opW_move, ↓ld1_some, ↓ldN_some, ↓fldA_some, ↓idxS_some, ↓opW_nilCheck, ↓fa_129_0, ↓ld_127, ↓ld_64, ↓ia_127, ↓fa_131_2, ↓st_64, ↓p35_2_w, ↓s35_3_w, onV_some', Nat.le_refl, true_and, ne_eq, Nat.reduceEqDiff, Nat.reduceAdd, not_false_eq_true, Nat.one_ne_zero, Nat.add_zero, Addr.add_lit, Int.toNat_zero, Nat.zero_mul, c0, dg]))
  refine st_G (off := 2) (l := gC n) (cs' := [.int .u64 1, .bool true] ++ (gC n ++ many s place0)) gl rfl rfl (over_mid (gC n) [.int .u64 1, .bool true] g0 (many s place0) rfl) rfl (by decide) fun h7 e7 gl f7 => ?_
  have q2 := q2.same (show h6.n ≤ h7.n by omega) (f7 (h.n + 1) (by omega))
  have gt := gt.same (show h6.n ≤ h7.n by omega) (f7 tb (by omega))
  refine ⟨by omega, by repeat' (first | done | with_reducible (first | refine y1 ?_ (by omega) | refine y2 ?_ (by omega) | refine y3 (fun _ => ?_) (fun _ => ?_) | refine y4 ?_ (by omega) (by omega) | refine y5 ?_ (by omega) | refine y6 ?_ (by with_unfolding_all rfl) | refine y7 ?_ (by with_unfolding_all rfl) | refine y8 ?_ (by with_unfolding_all rfl) | refine y9 ?_ (by with_unfolding_all rfl) | refine ya ?_ (by with_unfolding_all rfl)) | (simp -dsimp only [↓agK_nil])), ?_⟩
  have c0 := gt.cell (off := 0) rfl
  have cg := gl.cell (off := 0) rfl
  repeat' (first | done | with_reducible (first | refine y1 ?_ (by omega) | refine y2 ?_ (by omega) | refine y3 (fun _ => ?_) (fun _ => ?_) | refine y4 ?_ (by omega) (by omega) | refine y5 ?_ (by omega) | refine y6 ?_ (by with_unfolding_all rfl) | refine y7 ?_ (by with_unfolding_all rfl) | refine y8 ?_ (by with_unfolding_all rfl) | refine y9 ?_ (by with_unfolding_all rfl) | refine ya ?_ (by with_unfolding_all rfl)) | (simp -dsimp only [↓cw_ops, ↓cw_seq, ↓seqK_normal, ↓getK_same, ↓getK_ne, ↓evK_tmp, ↓opsW_d, ↓opsW_n, ↓planW_nil, ↓opW_move, ↓ld1_some, ↓fldA_some, ↓idxS_some, ↓evp_nil, ↓evp_cons, ↓opW_nilCheck, ↓ld_22, ↓bd_59, ↓st_59, ↓fa_129_0, ↓ld_127, ↓ia_127, ↓fa_131_0, ↓r35_0_w, ↓s35_1_w, onV_some', ne_eq, Nat.reduceEqDiff, not_false_eq_true, Nat.one_ne_zero, Nat.add_zero, Addr.add_lit, Int.toNat_zero, Nat.zero_mul, c0, cg]))
  refine st_G (off := 0) (l := [.int .i64 0, .int .u64 1]) (cs' := [.int .i64 0, .int .u64 1]) q2 rfl rfl rfl rfl (by decide) fun h8 e8 q2 f8 => ?_
  have cr := q2.cells (n := 2) rfl (by decide)
  repeat' (first | done | with_reducible (first | refine y1 ?_ (by omega) | refine y2 ?_ (by omega) | refine y3 (fun _ => ?_) (fun _ => ?_) | refine y4 ?_ (by omega) (by omega) | refine y5 ?_ (by omega) | refine y6 ?_ (by with_unfolding_all rfl) | refine y7 ?_ (by with_unfolding_all rfl) | refine y8 ?_ (by with_unfolding_all rfl) | refine y9 ?_ (by with_unfolding_all rfl) | refine ya ?_ (by with_unfolding_all rfl)) | (simp -dsimp only [↓cw_ret, ↓seqK_normal, ↓getK_same, ↓getK_ne, ↓evK_int, ↓opsW_nil, ↓opsW_d, ↓opW_assign, ↓ldN_some, ↓resK_ct, ↓agl_59, onV_some', ne_eq, Nat.reduceEqDiff, not_false_eq_true, cr]))
  exact hK _ h8 (by omega) fun j hj j1 j2 => by rw [f8 j (by omega), f7 j j2, f6 j j2, f5 j j1, X4.get j (by omega), X3.get j (by omega), X.get j hj]
end
end Go.Proofs.Ytdjnedamphifcaa

namespace Go.Proofs.Ytdjnedamphifcaa
open Go.Ev
set_option maxRecDepth 100000
set_option maxHeartbeats 400000
section
variable {h : Heap} {K : Value → Heap → Prop}
theorem qPut_ret {qb b : Nat} {z : Int} (gq : G h qb [.slice none 0 0] 150 true) (gb : G h b [.int .i64 z] 3 true)
    (hK : ∀ v h', h.n ≤ h'.n → (∀ j, j < h.n → j ≠ qb → h'.b.get j = h.b.get j) → K v h') : Ret env (.func 37) [.pointer (some ⟨qb, 0, none⟩), .slice (some ⟨b, 0, none⟩) 1 1] h K := by
  refine F37 rfl ?_
  have hq := gq.1
  have c0 := gq.cell (off := 0) rfl
  repeat' (first | done | with_reducible (first | refine y1 ?_ (by omega) | refine y2 ?_ (by omega) | refine y3 (fun _ => ?_) (fun _ => ?_) | refine y4 ?_ (by omega) (by omega) | refine y5 ?_ (by omega) | refine y6 ?_ (by with_unfolding_all rfl) | refine y7 ?_ (by with_unfolding_all rfl) | refine y8 ?_ (by with_unfolding_all rfl) | refine y9 ?_ (by with_unfolding_all rfl) | refine ya ?_ (by with_unfolding_all rfl)) | (simp -dsimp only [↓cw_ops, ↓getK_same, ↓getK_ne, ↓evK_tmp, ↓evK_nilslice, ↓opsW_d, ↓opW_move, ↓ld1_some, ↓fldA_some, ↓setAll_cons, ↓setAll_nil, ↓opW_nilCheck, ↓ld_38, ↓ap_38_38, ↓fa_150_0, ↓r37_0_w, ↓s37_1_w, onV_some', ne_eq, Nat.reduceEqDiff, Nat.reduceAdd, not_false_eq_true, Nat.one_ne_zero, Nat.add_zero, Addr.add_lit, c0]))
  refine app_ownG (B := h.n) (n := 0) (cs := []) (m := 0) (new := []) .nil (Nat.le_refl _) rfl rfl (by omega) (fun hm => absurd rfl hm) rfl rfl (by decide) fun v2 h2 o2 X2 => ?_
  have gq2 := gq.ext X2 gq.1
  have gb2 := gb.ext X2 gb.1
  have hn2 := X2.n
  repeat' (first | done | with_reducible (first | refine y1 ?_ (by omega) | refine y2 ?_ (by omega) | refine y3 (fun _ => ?_) (fun _ => ?_) | refine y4 ?_ (by omega) (by omega) | refine y5 ?_ (by omega) | refine y6 ?_ (by with_unfolding_all rfl) | refine y7 ?_ (by with_unfolding_all rfl) | refine y8 ?_ (by with_unfolding_all rfl) | refine y9 ?_ (by with_unfolding_all rfl) | refine ya ?_ (by with_unfolding_all rfl)) | (simp -dsimp only [↓getK_same, ↓getK_ne, ↓evK_tmp, ↓opsW_d, ↓opW_move, ↓setAll_cons, ↓setAll_nil, ↓ap_38_38, ne_eq, Nat.reduceEqDiff, Nat.reduceAdd, not_false_eq_true]))
  refine app_ownG (B := h.n) (n := 0) (cs := []) (m := 1) (new := [.int .i64 z]) o2 hn2 rfl rfl (by omega) (fun hm => ?_) rfl rfl (by decide) fun v3 h3 o3 X3 => ?_
  · simp only [firstCells]
    exact gb2.cells (n := 1) rfl (by decide)
  obtain ⟨a, m, c, rfl⟩ := OwnS.slc o3
  have gq3 := gq2.ext X3 hq
  have hn3 := X3.n
  repeat' (first | done | with_reducible (first | refine y1 ?_ (by omega) | refine y2 ?_ (by omega) | refine y3 (fun _ => ?_) (fun _ => ?_) | refine y4 ?_ (by omega) (by omega) | refine y5 ?_ (by omega) | refine y6 ?_ (by with_unfolding_all rfl) | refine y7 ?_ (by with_unfolding_all rfl) | refine y8 ?_ (by with_unfolding_all rfl) | refine y9 ?_ (by with_unfolding_all rfl) | refine ya ?_ (by with_unfolding_all rfl)) | (simp -dsimp only [↓getK_same, ↓getK_ne, ↓evK_tmp, ↓opsW_d, ↓opsW_n, ↓fldA_some, ↓opW_nilCheck, ↓st_38, ↓fa_150_0, ne_eq, Nat.reduceEqDiff, not_false_eq_true, Nat.add_zero, Addr.add_lit]))
  refine st_G (off := 0) (l := [.slice a m c]) (cs' := [.slice a m c]) gq3 rfl rfl rfl rfl (by decide) fun h4 e4 q4 f4 => ?_
  repeat' (first | done | with_reducible (first | refine y1 ?_ (by omega) | refine y2 ?_ (by omega) | refine y3 (fun _ => ?_) (fun _ => ?_) | refine y4 ?_ (by omega) (by omega) | refine y5 ?_ (by omega) | refine y6 ?_ (by with_unfolding_all rfl) | refine y7 ?_ (by with_unfolding_all rfl) | refine y8 ?_ (by with_unfolding_all rfl) | refine y9 ?_ (by with_unfolding_all rfl) | refine ya ?_ (by with_unfolding_all rfl)) | (simp -dsimp only [↓opsW_nil, ↓resK_nil]))
  exact hK _ h4 (by omega) fun j hj j1 => by rw [f4 j j1, X3.get j hj, X2.get j hj]
def spRow (i : Nat) : List Value := [.int .i64 ((i : Int) + 1), .int .i64 0, .int .i64 0, .int .i64 i, .int .i64 (3 - (i : Int)), .int .i64 0, .int .u64 1, .int .u8 255]
def spL (k : Nat) : List (List Value) := (List.range k).map spRow
structure SpcO (B : Nat) (h : Heap) (s k : Nat) (gs slots nodes : Int) (a : Option Addr) (c : Nat) : Prop where
  g : G h s [.int .i64 gs, .int .i64 slots, .int .i64 nodes, .slice a k c, .int .i64 k] 148 true
  o : OwnS B h 167 (.slice a k c) k (spL k).flatten
  hB : B ≤ h.n
theorem SpcO.row {B : Nat} {s k : Nat} {gs slots nodes : Int} {a : Option Addr} {c : Nat} (x : SpcO B h s k gs slots nodes a c) : RowAt h.n h a 8 (spL k) := by
  obtain ⟨a', c', e, r⟩ := OwnS.rowAt x.o (sz := 8) (rows := spL k) (by intro r hr; obtain ⟨i, _, rfl⟩ := List.mem_map.1 hr; rfl) (by simp [spL])
  obtain ⟨rfl, _, rfl⟩ := Value.slice.inj e
  exact r
theorem SpcO.ext {B : Nat} {h' : Heap} {s k : Nat} {gs slots nodes : Int} {a : Option Addr} {c : Nat} (x : SpcO B h s k gs slots nodes a c) (e : ExtB h.n h h') : SpcO B h' s k gs slots nodes a c :=
  ⟨x.g.ext e x.g.1, x.o.ext e (Nat.le_refl _), Nat.le_trans x.hB e.n⟩
theorem there_ret {B s k : Nat} {gs slots nodes : Int} {a : Option Addr} {c : Nat} (x : SpcO B h s k gs slots nodes a c) (hg : 1 ≤ gs) (hs : (k : Int) < slots) (hK : K (.bool true) h) : Ret env (.func 74) [.pointer (some ⟨s, 0, none⟩), .int .i64 0, .int .i64 k] h K := by
  have c0 := x.g.cell (off := 0) rfl
  have c1 := x.g.cell (off := 1) rfl
  refine F74 rfl ?_
  repeat' (first | done | with_reducible (first | refine y1 ?_ (by omega) | refine y2 ?_ (by omega) | refine y3 (fun _ => ?_) (fun _ => ?_) | refine y4 ?_ (by omega) (by omega) | refine y5 ?_ (by omega) | refine y6 ?_ (by with_unfolding_all rfl) | refine y7 ?_ (by with_unfolding_all rfl) | refine y8 ?_ (by with_unfolding_all rfl) | refine y9 ?_ (by with_unfolding_all rfl) | refine ya ?_ (by with_unfolding_all rfl)) | (simp -dsimp only [↓cw_ops, ↓cw_seq, ↓cw_ret, ↓seqK_normal, ↓getK_same, ↓getK_ne, ↓evK_tmp, ↓evK_int, ↓evK_bool, ↓condV_var, ↓gdV_var, ↓opsW_nil, ↓opsW_d, ↓opsW_gd, ↓opW_move, ↓opW_assign, ↓opW_pick, ↓opW_bin, ↓bin_lss, ↓bin_geq, ↓ld1_some, ↓fldA_some, ↓resK_one, ↓setAll_cons, ↓setAll_nil, ↓opW_nilCheck, ↓ld_3, ↓fa_148_0, ↓fa_148_1, ↓r74_0_w, ↓s74_1_w, ↓r74_2_w, ↓s74_3_w, onV_some', brK_true, ne_eq, Nat.reduceEqDiff, Nat.reduceAdd, not_false_eq_true, Nat.one_ne_zero, Nat.add_zero, Addr.add_lit, c0, c1]))
  exact hK
theorem find_ret {B s k : Nat} {gs slots nodes : Int} {a : Option Addr} {c : Nat} (x : SpcO B h s k gs slots nodes a c) (hk : k ≤ 10) (hK : K (.int .i64 (-1)) h) : Ret env (.func 75) [.pointer (some ⟨s, 0, none⟩), .int .i64 0, .int .i64 k] h K := by
  have c3 := x.g.cell (off := 3) rfl
  refine F75 rfl ?_
  repeat' (first | done | with_reducible (first | refine y1 ?_ (by omega) | refine y2 ?_ (by omega) | refine y3 (fun _ => ?_) (fun _ => ?_) | refine y4 ?_ (by omega) (by omega) | refine y5 ?_ (by omega) | refine y6 ?_ (by with_unfolding_all rfl) | refine y7 ?_ (by with_unfolding_all rfl) | refine y8 ?_ (by with_unfolding_all rfl) | refine y9 ?_ (by with_unfolding_all rfl) | refine ya ?_ (by with_unfolding_all rfl)) | (simp -dsimp only [↓cw_ops, ↓cw_seq, ↓cw_block, ↓seqK_normal, ↓evK_int, ↓opsW_nil, ↓opsW_d, ↓opW_assign, ↓setAll_cons, ↓setAll_nil, ↓s75_14_w, ↓s75_15_w, ↓r75_16_w, ↓s75_17_w, ↓s75_18_w, ↓r75_19_w, ↓s75_20_w, Nat.reduceAdd]))
  refine cw_loopI (fun m fr' h' => h = h' ∧ ∃ i : Nat, i ≤ k ∧ m = k - i ∧ fr'.get 7 = some (.int .i64 i)) k ?_ (by omega) ?_
  · exact ⟨rfl, 0, by omega, by omega, by simp [T.get_set]⟩
  rintro m fr2 h' ⟨rfl, i, hi, rfl, f7⟩ hag
  have e7 := getK_of f7
  have a0 := getK_eq (hag 0 rfl)
  have a1 := getK_eq (hag 1 rfl)
  have a2 := getK_eq (hag 2 rfl)
  by_cases hlt : i < k
  · obtain ⟨b, off, rfl, hb, dd⟩ := x.row i (by simpa [spL] using hlt)
    simp only [spL, List.getElem_map, List.getElem_range, spRow] at dd
    have d2 := cellAt_of dd (j := 2) rfl
    have d3 := cellAt_of dd (j := 3) rfl
    repeat' (first | done | with_reducible (first | refine y1 ?_ (by omega) | refine y2 ?_ (by omega) | refine y3 (fun _ => ?_) (fun _ => ?_) | refine y4 ?_ (by omega) (by omega) | refine y5 ?_ (by omega) | refine y6 ?_ (by with_unfolding_all rfl) | refine y7 ?_ (by with_unfolding_all rfl) | refine y8 ?_ (by with_unfolding_all rfl) | refine y9 ?_ (by with_unfolding_all rfl) | refine ya ?_ (by with_unfolding_all rfl)) | (simp -dsimp only [↓cw_skip, ↓cw_ops, ↓cw_seq, ↓cw_block, ↓cw_cond, ↓seqK_normal, ↓blockK_normal, ↓loopK_normal, ↓getK_same, ↓getK_ne, ↓evK_tmp, ↓evK_int, ↓condV_var, ↓gdV_var, ↓opsW_nil, ↓opsW_d, ↓opsW_gd, ↓opW_move, ↓opW_assign, ↓opW_pick, ↓opW_bin, ↓bin_add, ↓bin_eql, ↓bin_lss, ↓ld1_some, ↓fldA_some, ↓idxS_some, ↓lenS_some, ↓opW_nilCheck, ↓ld_3, ↓fa_148_3, ↓ld_146, ↓len_146, ↓ia_146, ↓fa_167_2, ↓fa_167_3, ↓r75_2_w, ↓s75_3_w, ↓s75_6_w, ↓r75_7_w, ↓s75_8_w, ↓s75_9_w, ↓s75_10_w, ↓r75_11_w, ↓s75_12_w, ↓s75_13_w, onV_some', brK_true, brK_false, true_and, ne_eq, Nat.reduceEqDiff, Nat.reduceAdd, not_false_eq_true, Nat.one_ne_zero, Addr.add_lit, Int.toNat_natCast, Bool.false_eq_true,  ↓e7, ↓a0, ↓a1, ↓a2, c3, d2, d3]))
    exact ⟨k - (i + 1), by omega, i + 1, by omega, rfl, by simp [T.get_set, wrap_succ (show i ≤ 4611686018427387904 by omega)]⟩
  · repeat' (first | done | with_reducible (first | refine y1 ?_ (by omega) | refine y2 ?_ (by omega) | refine y3 (fun _ => ?_) (fun _ => ?_) | refine y4 ?_ (by omega) (by omega) | refine y5 ?_ (by omega) | refine y6 ?_ (by with_unfolding_all rfl) | refine y7 ?_ (by with_unfolding_all rfl) | refine y8 ?_ (by with_unfolding_all rfl) | refine y9 ?_ (by with_unfolding_all rfl) | refine ya ?_ (by with_unfolding_all rfl)) | (simp -dsimp only [↓cw_ops, ↓cw_seq, ↓cw_exit, ↓cw_ret, ↓cw_cond, ↓seqK_normal, ↓seqK_exit, ↓blockK_same, ↓loopK_exit, ↓getK_same, ↓getK_ne, ↓evK_tmp, ↓evK_int, ↓condV_var, ↓opsW_nil, ↓opsW_d, ↓opW_move, ↓opW_assign, ↓opW_bin, ↓bin_lss, ↓ld1_some, ↓fldA_some, ↓lenS_some, ↓resK_one, ↓opW_nilCheck, ↓fa_148_3, ↓ld_146, ↓len_146, ↓r75_0_w, ↓s75_1_w, ↓s75_10_w, ↓r75_11_w, ↓s75_12_w, ↓s75_13_w, onV_some', brK_false, ne_eq, Nat.reduceEqDiff, Nat.reduceAdd, not_false_eq_true, Nat.one_ne_zero, Addr.add_lit, Bool.false_eq_true,  ↓e7, ↓a0, c3]))
    exact hK
theorem free_ret {B s k : Nat} {gs slots nodes : Int} {a : Option Addr} {c : Nat} (x : SpcO B h s k gs slots nodes a c) (hk : k ≤ 10) (hg : 1 ≤ gs) (hs : (k : Int) < slots) (hK : K (.int .i64 0) h) : Ret env (.func 63) [.pointer (some ⟨s, 0, none⟩), .int .i64 0, .int .i64 k] h K := by
  refine F63 rfl ?_
  repeat' (first | done | with_reducible (first | refine y1 ?_ (by omega) | refine y2 ?_ (by omega) | refine y3 (fun _ => ?_) (fun _ => ?_) | refine y4 ?_ (by omega) (by omega) | refine y5 ?_ (by omega) | refine y6 ?_ (by with_unfolding_all rfl) | refine y7 ?_ (by with_unfolding_all rfl) | refine y8 ?_ (by with_unfolding_all rfl) | refine y9 ?_ (by with_unfolding_all rfl) | refine ya ?_ (by with_unfolding_all rfl)) | (simp -dsimp only [↓cw_ops, ↓cw_seq, ↓seqK_normal, ↓getK_same, ↓getK_ne, ↓evK_tmp, ↓evK_int, ↓opsW_nil, ↓opsW_d, ↓opW_move, ↓opW_assign, ↓evs_nil, ↓evs_cons, ↓opW_call, ↓setAll_cons, ↓setAll_nil, ↓r63_11_w, ↓s63_12_w, ↓s63_13_w, ↓r63_14_w, ↓s63_15_w, ne_eq, Nat.reduceEqDiff, Nat.reduceAdd, not_false_eq_true, Nat.one_ne_zero]))
  refine there_ret x hg hs ?_
  repeat' (first | done | with_reducible (first | refine y1 ?_ (by omega) | refine y2 ?_ (by omega) | refine y3 (fun _ => ?_) (fun _ => ?_) | refine y4 ?_ (by omega) (by omega) | refine y5 ?_ (by omega) | refine y6 ?_ (by with_unfolding_all rfl) | refine y7 ?_ (by with_unfolding_all rfl) | refine y8 ?_ (by with_unfolding_all rfl) | refine y9 ?_ (by with_unfolding_all rfl) | refine ya ?_ (by with_unfolding_all rfl)) | (simp -dsimp only [↓cw_skip, ↓cw_ops, ↓cw_seq, ↓cw_cond, ↓seqK_normal, ↓getK_same, ↓getK_ne, ↓evK_tmp, ↓condV_var, ↓opsW_nil, ↓opsW_d, ↓opW_move, ↓evs_nil, ↓evs_cons, ↓opW_call, ↓setAll_cons, ↓setAll_nil, ↓opW_un, ↓un_not, ↓r63_5_w, ↓s63_6_w, ↓s63_7_w, ↓s63_10_w, brK_false, ne_eq, Nat.reduceEqDiff, Nat.reduceAdd, not_false_eq_true, Nat.one_ne_zero, Bool.false_eq_true,  Bool.not_true]))
  refine find_ret x hk ?_
  repeat' (first | done | with_reducible (first | refine y1 ?_ (by omega) | refine y2 ?_ (by omega) | refine y3 (fun _ => ?_) (fun _ => ?_) | refine y4 ?_ (by omega) (by omega) | refine y5 ?_ (by omega) | refine y6 ?_ (by with_unfolding_all rfl) | refine y7 ?_ (by with_unfolding_all rfl) | refine y8 ?_ (by with_unfolding_all rfl) | refine y9 ?_ (by with_unfolding_all rfl) | refine ya ?_ (by with_unfolding_all rfl)) | (simp -dsimp only [↓cw_skip, ↓cw_ops, ↓cw_seq, ↓cw_ret, ↓cw_cond, ↓seqK_normal, ↓getK_same, ↓evK_tmp, ↓evK_int, ↓condV_var, ↓opsW_nil, ↓opsW_d, ↓opW_assign, ↓opW_bin, ↓bin_geq, ↓resK_one, ↓r63_0_w, ↓s63_1_w, ↓s63_4_w, brK_false, Bool.false_eq_true]))
  exact hK
theorem capMay_ret {k : Int} (hk : 1 ≤ k ∧ k ≤ 3) (hK : ∀ h', ExtB h.n h h' → K (.bool true) h') : Ret env (.func 64) [.agg ⟨[.int .i64 k, .int .i64 0, .int .u64 1, .int .u8 255]⟩] h K := by
  refine F64 rfl ?_
  obtain ⟨k1, k2⟩ := hk
  by_cases h1 : k = 1
  · repeat' (first | done | with_reducible (first | refine y1 ?_ (by omega) | refine y2 ?_ (by omega) | refine y3 (fun _ => ?_) (fun _ => ?_) | refine y4 ?_ (by omega) (by omega) | refine y5 ?_ (by omega) | refine y6 ?_ (by with_unfolding_all rfl) | refine y7 ?_ (by with_unfolding_all rfl) | refine y8 ?_ (by with_unfolding_all rfl) | refine y9 ?_ (by with_unfolding_all rfl) | refine ya ?_ (by with_unfolding_all rfl)) | (simp -dsimp only [↓cw_ops, ↓cw_seq, ↓cw_ret, ↓seqK_normal, ↓getK_same, ↓getK_ne, ↓evK_tmp, ↓evK_int, ↓evK_bool, ↓condV_var, ↓gdV_var, ↓opsW_nil, ↓opsW_d, ↓opsW_gd, ↓opW_move, ↓opW_assign, ↓opW_pick, ↓opW_bin, ↓bin_eql, ↓bin_gtr, ↓bin_geq, ↓ld1_some, ↓fldA_some, ↓resK_one, ↓setAll_cons, ↓setAll_nil, ↓opW_box, ↓box_agg, ↓ld_3, ↓ld_22, ↓fa_59_0, ↓fa_59_1, ↓fa_112_0, ↓ld_109, ↓fa_112_1, ↓r64_0_w, ↓s64_1_w, ↓r64_2_w, ↓s64_3_w, cellAt_newE, List.getElem?_cons_zero, List.getElem?_cons_succ, onV_some', brK_true, brK_false, ne_eq, Nat.reduceEqDiff, Nat.reduceAdd, not_false_eq_true, Nat.add_zero, Addr.add_lit, Bool.true_eq_false]))
    exact hK _ (ExtB.new _ (Nat.le_refl _))
  by_cases h2 : k = 2
  · repeat' (first | done | with_reducible (first | refine y1 ?_ (by omega) | refine y2 ?_ (by omega) | refine y3 (fun _ => ?_) (fun _ => ?_) | refine y4 ?_ (by omega) (by omega) | refine y5 ?_ (by omega) | refine y6 ?_ (by with_unfolding_all rfl) | refine y7 ?_ (by with_unfolding_all rfl) | refine y8 ?_ (by with_unfolding_all rfl) | refine y9 ?_ (by with_unfolding_all rfl) | refine ya ?_ (by with_unfolding_all rfl)) | (simp -dsimp only [↓cw_ops, ↓cw_seq, ↓cw_ret, ↓seqK_normal, ↓getK_same, ↓getK_ne, ↓evK_tmp, ↓evK_int, ↓evK_bool, ↓condV_var, ↓gdV_var, ↓opsW_nil, ↓opsW_d, ↓opsW_gd, ↓opW_move, ↓opW_assign, ↓opW_pick, ↓opW_bin, ↓bin_eql, ↓bin_gtr, ↓bin_geq, ↓ld1_some, ↓fldA_some, ↓resK_one, ↓setAll_cons, ↓setAll_nil, ↓opW_box, ↓box_agg, ↓ld_3, ↓ld_22, ↓fa_59_0, ↓fa_59_1, ↓fa_112_0, ↓ld_109, ↓fa_112_1, ↓r64_0_w, ↓s64_1_w, ↓r64_2_w, ↓s64_3_w, cellAt_newE, List.getElem?_cons_zero, List.getElem?_cons_succ, onV_some', brK_true, brK_false, ne_eq, Nat.reduceEqDiff, Nat.reduceAdd, not_false_eq_true, Nat.add_zero, Addr.add_lit, Bool.true_eq_false, Bool.false_eq_true]))
    exact hK _ (ExtB.new _ (Nat.le_refl _))
  · have h3 : k = 3 := by omega
    repeat' (first | done | with_reducible (first | refine y1 ?_ (by omega) | refine y2 ?_ (by omega) | refine y3 (fun _ => ?_) (fun _ => ?_) | refine y4 ?_ (by omega) (by omega) | refine y5 ?_ (by omega) | refine y6 ?_ (by with_unfolding_all rfl) | refine y7 ?_ (by with_unfolding_all rfl) | refine y8 ?_ (by with_unfolding_all rfl) | refine y9 ?_ (by with_unfolding_all rfl) | refine ya ?_ (by with_unfolding_all rfl)) | (simp -dsimp only [↓cw_ops, ↓cw_seq, ↓cw_ret, ↓seqK_normal, ↓getK_same, ↓getK_ne, ↓evK_tmp, ↓evK_int, ↓evK_bool, ↓condV_var, ↓gdV_var, ↓opsW_nil, ↓opsW_d, ↓opsW_gd, ↓opW_move, ↓opW_assign, ↓opW_pick, ↓opW_bin, ↓bin_eql, ↓bin_gtr, ↓bin_geq, ↓ld1_some, ↓fldA_some, ↓resK_one, ↓setAll_cons, ↓setAll_nil, ↓opW_box, ↓box_agg, ↓ld_3, ↓ld_22, ↓fa_59_0, ↓fa_59_1, ↓fa_112_0, ↓ld_109, ↓fa_112_1, ↓r64_0_w, ↓s64_1_w, ↓r64_2_w, ↓s64_3_w, cellAt_newE, List.getElem?_cons_zero, List.getElem?_cons_succ, onV_some', brK_true, brK_false, ne_eq, Nat.reduceEqDiff, Nat.reduceAdd, not_false_eq_true, Nat.add_zero, Addr.add_lit, Bool.false_eq_true]))
    exact hK _ (ExtB.new _ (Nat.le_refl _))
end
end Go.Proofs.Ytdjnedamphifcaa

namespace Go.Proofs.Ytdjnedamphifcaa
open Go.Ev
set_option maxRecDepth 100000
set_option maxHeartbeats 400000
section
variable {h : Heap} {K : Value → Heap → Prop}
theorem spL_succ (k : Nat) : (spL (k + 1)).flatten = (spL k).flatten ++ spRow k := by simp [spL, List.range_succ]
theorem spL_len (k : Nat) : (spL k).flatten.length = k * 8 := by
  induction k with
  | zero => rfl
  | succ k ih => rw [spL_succ, List.length_append, ih, Nat.add_mul]; rfl
theorem spL_one (k : Nat) : (spL k).flatten.all oneCell = true := by
  induction k with
  | zero => rfl
  | succ k ih => rw [spL_succ, List.all_append, ih]; rfl
theorem OwnS.mono0 {B : Nat} {e : TypeId} {v : Value} {n : Nat} {cs : List Value} (o : OwnS B h e v n cs) : OwnS 0 h e v n cs := by
  cases o with
  | nil => exact .nil
  | emp i hi => exact .emp i hi
  | row i n cs h1 h2 h3 => exact .row i n cs (Nat.zero_le _) h2 h3
theorem OwnS.same {B : Nat} {e : TypeId} {v : Value} {n : Nat} {cs : List Value} (o : OwnS B h e v n cs) (k : Nat) : sameV k v v = true := by
  cases o <;> cases k <;> simp [sameV]
theorem OwnS.first {B sz : Nat} {e : TypeId} {v : Value} {n : Nat} {cs : List Value} (o : OwnS B h e v n cs) (hl : cs.length = n * sz) (hn : n ≠ 0) (hz : sz ≠ 0) : firstCells h sz n v = some cs := by
  cases o with
  | nil => exact absurd rfl hn
  | emp i hi => exact absurd rfl hn
  | row i _ _ h1 h2 h3 =>
    simp only [firstCells]
    have g : G h i cs e false := ⟨h2, h3⟩
    exact g.cells hl (by have := Nat.mul_pos (Nat.pos_of_ne_zero hn) (Nat.pos_of_ne_zero hz); omega)
theorem spcPut_ret {s k : Nat} {gs slots nodes : Int} {a : Option Addr} {c : Nat} (x : SpcO 0 h s k gs slots nodes a c) (hk : k ≤ 2) (hg : 1 ≤ gs) (hs : 3 ≤ slots) (hn : 3 ≤ nodes)
    (hK : ∀ v a' c' h', SpcO 0 h' s (k + 1) gs slots nodes a' c' → h.n ≤ h'.n → (∀ j, j < h.n → j ≠ s → h'.b.get j = h.b.get j) → K v h') : Ret env (.func 38) [.pointer (some ⟨s, 0, none⟩), .int .i64 0, .int .i64 0, .int .i64 k, .agg ⟨[.int .i64 (3 - (k : Int)), .int .i64 0, .int .u64 1, .int .u8 255]⟩] h K := by
  refine F38 rfl ?_
  have hs0 := x.g.1
  repeat' (first | done | ((with_reducible refine brK_yes ?_ ?_); (· omega)) | ((with_reducible refine brK_no ?_ ?_); (· omega)) | (with_reducible refine brK_both (fun _ => ?_) (fun _ => ?_)) | ((with_reducible refine And.intro (And.intro ?_ ?_) ?_); (· omega); (· omega)) | ((with_reducible refine And.intro ?_ ?_); (· omega)) | (with_reducible refine And.intro (show List.all _ oneCell = true from rfl) ?_) | ((with_reducible refine st_newM ?_ ?_); (· rfl)) | ((with_reducible refine bs_oneM ?_ ?_); (· rfl)) | (with_reducible refine bd_of (by with_unfolding_all (simp only [fillL_cons, fillL_nil, nth_eq, blt_eq, cond_beq, over, Value.cells, List.getElem?_cons_zero, List.getElem?_cons_succ, List.length_cons, List.length_nil, Nat.reduceAdd, Nat.reduceSub, Nat.reduceLT, Nat.reduceEqDiff, decide_true, cond_true, Option.map_some, if_true, if_false, Nat.add_one_sub_one, Nat.succ_ne_zero, reduceCtorEq, OfNat.ofNat]; rfl)) ?_) | (with_reducible refine bda_of (by with_unfolding_all rfl) ?_) | (simp -dsimp only [↓cw_ops, ↓cw_seq, ↓seqK_normal, ↓getK_same, ↓getK_ne, ↓evK_tmp, ↓evK_int, ↓opsW_nil, ↓opsW_d, ↓opW_move, ↓opW_assign, ↓evs_nil, ↓evs_cons, ↓opW_call, ↓setAll_cons, ↓setAll_nil, ↓opW_box, ↓box_agg, ↓r38_40_w, ↓s38_41_w, ↓s38_42_w, ↓r38_43_w, ↓s38_44_w, ne_eq, Nat.reduceEqDiff, Nat.reduceAdd, not_false_eq_true, Nat.one_ne_zero]))
  have X : ExtB h.n h (newBlk h (.cells [.int .i64 (3 - (k : Int)), .int .i64 0, .int .u64 1, .int .u8 255] 112 true)) := ExtB.new _ (Nat.le_refl _)
  have q1 := G.new h [.int .i64 (3 - (k : Int)), .int .i64 0, .int .u64 1, .int .u8 255] 112 true
  have x2 := x.ext X
  generalize newBlk h (.cells [.int .i64 (3 - (k : Int)), .int .i64 0, .int .u64 1, .int .u8 255] 112 true) = h2 at X q1 x2 ⊢
  have XN := X.n
  refine free_ret x2 (by omega) hg (by omega) ?_
  have dc := q1.cells (n := 4) rfl (by decide)
  repeat' (first | done | ((with_reducible refine brK_yes ?_ ?_); (· omega)) | ((with_reducible refine brK_no ?_ ?_); (· omega)) | (with_reducible refine brK_both (fun _ => ?_) (fun _ => ?_)) | ((with_reducible refine And.intro (And.intro ?_ ?_) ?_); (· omega); (· omega)) | ((with_reducible refine And.intro ?_ ?_); (· omega)) | (with_reducible refine And.intro (show List.all _ oneCell = true from rfl) ?_) | ((with_reducible refine st_newM ?_ ?_); (· rfl)) | ((with_reducible refine bs_oneM ?_ ?_); (· rfl)) | (with_reducible refine bd_of (by with_unfolding_all (simp only [fillL_cons, fillL_nil, nth_eq, blt_eq, cond_beq, over, Value.cells, List.getElem?_cons_zero, List.getElem?_cons_succ, List.length_cons, List.length_nil, Nat.reduceAdd, Nat.reduceSub, Nat.reduceLT, Nat.reduceEqDiff, decide_true, cond_true, Option.map_some, if_true, if_false, Nat.add_one_sub_one, Nat.succ_ne_zero, reduceCtorEq, OfNat.ofNat]; rfl)) ?_) | (with_reducible refine bda_of (by with_unfolding_all rfl) ?_) | (simp -dsimp only [↓cw_skip, ↓cw_ops, ↓cw_seq, ↓cw_cond, ↓seqK_normal, ↓getK_same, ↓getK_ne, ↓evK_tmp, ↓evK_int, ↓condV_var, ↓opsW_nil, ↓opsW_d, ↓opW_move, ↓opW_assign, ↓opW_bin, ↓bin_neq, ↓ldN_some, ↓evs_nil, ↓evs_cons, ↓opW_call, ↓ld_112, ↓r38_32_w, ↓s38_33_w, ↓s38_34_w, ↓s38_37_w, ↓r38_38_w, ↓s38_39_w, onV_some', brK_true, brK_false, ne_eq, Nat.reduceEqDiff, not_false_eq_true, Bool.false_eq_true,  dc]))
  refine capMay_ret (by omega) fun h3 X3 => ?_
  have q3 := q1.ext X3 q1.1
  have x3 := x2.ext X3
  have hn3 := X3.n
  have c2 := x3.g.cell (off := 2) rfl
  have c3 := x3.g.cell (off := 3) rfl
  have c4 := x3.g.cell (off := 4) rfl
  have dc3 := q3.cells (n := 4) rfl (by decide)
  have ssl : (sameV 50 (.slice a k c) (.slice a k c) = true) = True := eq_true (OwnS.same x.o 50)
  repeat' (first | done | ((with_reducible refine brK_yes ?_ ?_); (· omega)) | ((with_reducible refine brK_no ?_ ?_); (· omega)) | (with_reducible refine brK_both (fun _ => ?_) (fun _ => ?_)) | ((with_reducible refine And.intro (And.intro ?_ ?_) ?_); (· omega); (· omega)) | ((with_reducible refine And.intro ?_ ?_); (· omega)) | (with_reducible refine And.intro (show List.all _ oneCell = true from rfl) ?_) | ((with_reducible refine st_newM ?_ ?_); (· rfl)) | ((with_reducible refine bs_oneM ?_ ?_); (· rfl)) | (with_reducible refine bd_of (by with_unfolding_all (simp only [fillL_cons, fillL_nil, nth_eq, blt_eq, cond_beq, over, Value.cells, List.getElem?_cons_zero, List.getElem?_cons_succ, List.length_cons, List.length_nil, Nat.reduceAdd, Nat.reduceSub, Nat.reduceLT, Nat.reduceEqDiff, decide_true, cond_true, Option.map_some, if_true, if_false, Nat.add_one_sub_one, Nat.succ_ne_zero, reduceCtorEq, OfNat.ofNat]; rfl)) ?_) | (with_reducible refine bda_of (by with_unfolding_all rfl) ?_) | (simp -dsimp only [↓cw_skip, ↓cw_ops, ↓cw_seq, ↓cw_block, ↓cw_cond, ↓seqK_normal, ↓getK_same, ↓evK_tmp, ↓evK_int, ↓condV_var, ↓opsW_nil, ↓opsW_d, ↓opW_assign, ↓setAll_cons, ↓setAll_nil, ↓opW_un, ↓un_not, ↓s38_24_w, ↓s38_25_w, ↓r38_26_w, ↓s38_27_w, ↓s38_28_w, ↓s38_31_w, brK_false, Nat.reduceAdd, Bool.false_eq_true,  Bool.not_true]))
  refine cw_loopI (fun m fr' h' => h3 = h' ∧ ∃ i : Nat, i ≤ k ∧ m = k - i ∧ fr'.get 12 = some (.int .i64 i)) k ?_ (by omega) ?_
  · exact ⟨rfl, 0, by omega, by omega, by simp [T.get_set]⟩
  rintro m fr2 h' ⟨rfl, i, hi, rfl, f12⟩ hag
  have e12 := getK_of f12
  have a0 := getK_eq (hag 0 rfl)
  have a1 := getK_eq (hag 1 rfl)
  have a2 := getK_eq (hag 2 rfl)
  have a3 := getK_eq (hag 3 rfl)
  have a9 := getK_eq (hag 9 rfl)
  by_cases hlt : i < k
  · obtain ⟨b, off, rfl, hb, dd⟩ := x3.row i (by simpa [spL] using hlt)
    simp only [spL, List.getElem_map, List.getElem_range, spRow] at dd
    have d0 := cellAt_of dd (j := 0) rfl
    simp only [Nat.add_zero] at d0
    repeat' (first | done | ((with_reducible refine brK_yes ?_ ?_); (· omega)) | ((with_reducible refine brK_no ?_ ?_); (· omega)) | (with_reducible refine brK_both (fun _ => ?_) (fun _ => ?_)) | ((with_reducible refine And.intro (And.intro ?_ ?_) ?_); (· omega); (· omega)) | ((with_reducible refine And.intro ?_ ?_); (· omega)) | (with_reducible refine And.intro (show List.all _ oneCell = true from rfl) ?_) | ((with_reducible refine st_newM ?_ ?_); (· rfl)) | ((with_reducible refine bs_oneM ?_ ?_); (· rfl)) | (with_reducible refine bd_of (by with_unfolding_all (simp only [fillL_cons, fillL_nil, nth_eq, blt_eq, cond_beq, over, Value.cells, List.getElem?_cons_zero, List.getElem?_cons_succ, List.length_cons, List.length_nil, Nat.reduceAdd, Nat.reduceSub, Nat.reduceLT, Nat.reduceEqDiff, decide_true, cond_true, Option.map_some, if_true, if_false, Nat.add_one_sub_one, Nat.succ_ne_zero, reduceCtorEq, OfNat.ofNat]; rfl)) ?_) | (with_reducible refine bda_of (by with_unfolding_all rfl) ?_) | (simp -dsimp only [↓cw_skip, ↓cw_ops, ↓cw_plan, ↓cw_seq, ↓cw_block, ↓cw_cond, ↓seqK_normal, ↓blockK_normal, ↓loopK_normal, ↓getK_same, ↓getK_ne, ↓evK_tmp, ↓evK_int, ↓evK_bool, ↓condV_var, ↓gdV_var, ↓opsW_nil, ↓opsW_d, ↓planW_nil, ↓planW_d, ↓planW_gd, ↓agK_nil, ↓opW_move, ↓opW_assign, ↓opW_pick, ↓opW_bin, ↓bin_add, ↓bin_eql, ↓bin_lss, ↓ld1_some, ↓fldA_some, ↓idxS_some, ↓lenS_some, ↓opW_nilCheck, ↓ld_3, ↓fa_148_3, ↓ld_146, ↓len_146, ↓ia_146, ↓fa_167_0, ↓r38_12_w, ↓s38_13_w, ↓s38_16_w, ↓p38_17_w, ↓s38_18_w, ↓s38_19_w, ↓s38_20_w, ↓r38_21_w, ↓s38_22_w, ↓s38_23_w, onV_some', brK_true, brK_false, Nat.le_refl, true_and, ne_eq, Nat.reduceEqDiff, Nat.reduceAdd, not_false_eq_true, Nat.one_ne_zero, Nat.add_zero, Addr.add_lit, Int.toNat_natCast, Bool.false_eq_true,  ↓e12, ↓a0, ↓a1, c3, d0, Nat.add_zero]))
    exact ⟨k - (i + 1), by omega, i + 1, by omega, rfl, by simp [T.get_set, wrap_succ (show i ≤ 4611686018427387904 by omega)]⟩
  · repeat' (first | done | ((with_reducible refine brK_yes ?_ ?_); (· omega)) | ((with_reducible refine brK_no ?_ ?_); (· omega)) | (with_reducible refine brK_both (fun _ => ?_) (fun _ => ?_)) | ((with_reducible refine And.intro (And.intro ?_ ?_) ?_); (· omega); (· omega)) | ((with_reducible refine And.intro ?_ ?_); (· omega)) | (with_reducible refine And.intro (show List.all _ oneCell = true from rfl) ?_) | ((with_reducible refine st_newM ?_ ?_); (· rfl)) | ((with_reducible refine bs_oneM ?_ ?_); (· rfl)) | (with_reducible refine bd_of (by with_unfolding_all (simp only [fillL_cons, fillL_nil, nth_eq, blt_eq, cond_beq, over, Value.cells, List.getElem?_cons_zero, List.getElem?_cons_succ, List.length_cons, List.length_nil, Nat.reduceAdd, Nat.reduceSub, Nat.reduceLT, Nat.reduceEqDiff, decide_true, cond_true, Option.map_some, if_true, if_false, Nat.add_one_sub_one, Nat.succ_ne_zero, reduceCtorEq, OfNat.ofNat]; rfl)) ?_) | (with_reducible refine bda_of (by with_unfolding_all rfl) ?_) | (simp -dsimp only [↓cw_skip, ↓cw_ops, ↓cw_plan, ↓cw_seq, ↓cw_exit, ↓cw_cond, ↓seqK_normal, ↓seqK_exit, ↓blockK_same, ↓loopK_exit, ↓getK_same, ↓getK_ne, ↓evK_tmp, ↓evK_int, ↓condV_var, ↓opsW_nil, ↓opsW_d, ↓opsW_n, ↓planW_nil, ↓planW_d, ↓agK_nil, ↓opW_move, ↓opW_bin, ↓bin_add, ↓bin_lss, ↓bin_geq, ↓ld1_some, ↓fldA_some, ↓lenS_some, ↓opW_nilCheck, ↓ld_3, ↓st_3, ↓fa_148_3, ↓ld_146, ↓len_146, ↓fa_148_2, ↓fa_148_4, ↓r38_4_w, ↓s38_5_w, ↓s38_8_w, ↓p38_9_w, ↓s38_10_w, ↓s38_11_w, ↓s38_20_w, ↓r38_21_w, ↓s38_22_w, ↓s38_23_w, onV_some', brK_false, Nat.le_refl, true_and, ne_eq, Nat.reduceEqDiff, Nat.reduceAdd, not_false_eq_true, Nat.one_ne_zero, Addr.add_lit, Bool.false_eq_true,  ↓e12, ↓a0, c2, c3, c4]))
    have wk : IntKind.wrap .i64 ((k : Int) + 1) = (k : Int) + 1 := wrap_i64 (by omega) (by omega)
    rw [wk]
    refine st_G (off := 4) (l := [.int .i64 ((k : Int) + 1)]) (cs' := [.int .i64 gs, .int .i64 slots, .int .i64 nodes, .slice a k c, .int .i64 ((k : Int) + 1)]) x3.g rfl rfl rfl rfl (by decide) fun h4 e4 g4 f4 => ?_
    have n4 : h3.n ≤ h4.n := by omega
    have q4 := q3.same n4 (f4 h.n (by omega))
    have o4 : OwnS 0 h4 167 (.slice a k c) k (spL k).flatten := by
      have o3 := x3.o
      generalize (Value.slice a k c) = v at o3 ⊢
      generalize (spL k).flatten = L at o3 ⊢
      cases o3 with
      | nil => exact .nil
      | emp i hi => exact .emp i (by omega)
      | row i _ _ h1 h2 h3' => exact .row i _ _ h1 (by omega) ((f4 i (by rintro rfl; have := x3.g.2.symm.trans h3'; cases this)).trans h3')
    have c3 := g4.cell (off := 3) rfl
    have c4 := g4.cell (off := 4) rfl
    have dc4 := q4.cells (n := 4) rfl (by decide)
    have sc : (sameV 50 (.agg ⟨[.int .i64 (3 - (k : Int)), .int .i64 0, .int .u64 1, .int .u8 255]⟩) (.agg ⟨[.int .i64 (3 - (k : Int)), .int .i64 0, .int .u64 1, .int .u8 255]⟩) = true) = True := by simp [sameV, sameV.go]
    repeat' (first | done | ((with_reducible refine brK_yes ?_ ?_); (· omega)) | ((with_reducible refine brK_no ?_ ?_); (· omega)) | (with_reducible refine brK_both (fun _ => ?_) (fun _ => ?_)) | ((with_reducible refine And.intro (And.intro ?_ ?_) ?_); (· omega); (· omega)) | ((with_reducible refine And.intro ?_ ?_); (· omega)) | (with_reducible refine And.intro (show List.all _ oneCell = true from rfl) ?_) | ((with_reducible refine st_newM ?_ ?_); (· rfl)) | ((with_reducible refine bs_oneM ?_ ?_); (· rfl)) | (with_reducible refine bd_of (by with_unfolding_all (simp only [fillL_cons, fillL_nil, nth_eq, blt_eq, cond_beq, over, Value.cells, List.getElem?_cons_zero, List.getElem?_cons_succ, List.length_cons, List.length_nil, Nat.reduceAdd, Nat.reduceSub, Nat.reduceLT, decide_true, cond_true, Option.map_some, if_true, if_false, Nat.add_one_sub_one, Nat.succ_ne_zero, OfNat.ofNat]; rfl)) ?_) | (with_reducible refine bda_of (by with_unfolding_all rfl) ?_) | (simp -dsimp only [↓cw_plan, ↓cw_seq, ↓seqK_normal, ↓getK_same, ↓getK_ne, ↓evK_tmp, ↓evK_nilslice, ↓opsW_nil, ↓planW_d, ↓agK_nil, ↓opW_move, ↓ld1_some, ↓ldN_some, ↓fldA_some, ↓evp_nil, ↓evp_cons, ↓opW_nilCheck, ↓ld_3, ↓ld_112, ↓fa_148_3, ↓ld_146, ↓fa_148_4, ↓bd_167, ↓bsl_146_1, ↓ap_146_146, ↓p38_2_w, ↓s38_3_w, newBlk_n, onV_some', Nat.le_refl, true_and, ne_eq, Nat.reduceEqDiff, Nat.reduceAdd, not_false_eq_true, Nat.one_ne_zero, Addr.add_lit, ↓a0, ↓a1, ↓a2, ↓a3, ↓a9, c3, c4, dc4]))
    have X5 : ExtB h4.n h4 (newBlk h4 (.cells (spRow k) 167 true)) := ExtB.new _ (Nat.le_refl _)
    have q5 := G.new h4 (spRow k) 167 true
    have o5 := o4.ext X5 (Nat.le_refl _)
    have g5 := g4.ext X5 g4.1
    have he : Blk.cells (Value.agg ⟨[.int .i64 ((k : Int) + Int.ofNat 1), .int .i64 (Int.ofNat 0), .int .i64 (Int.ofNat 0), .int .i64 k, .int .i64 (Int.ofNat 3 - (k : Int)), .int .i64 (Int.ofNat 0), .int .u64 (Int.ofNat 1), .int .u8 (Int.ofNat 255)]⟩).cells.toList 167 true = .cells (spRow k) 167 true := rfl
    rw [he]
    generalize newBlk h4 (.cells (spRow k) 167 true) = h5 at X5 q5 o5 g5 ⊢
    have n5 := X5.n
    refine app_ownG (B := h5.n) (n := 0) (cs := []) (m := k) (new := (spL k).flatten) .nil (Nat.le_refl _) rfl rfl (by omega) (fun hm => OwnS.first o5 (spL_len k) hm (by decide)) (spL_len k) (spL_one k) (by decide) fun v6 h6 o6 X6 => ?_
    have n6 := X6.n
    have q6 := q5.ext X6 q5.1
    have g6 := g5.ext X6 g5.1
    have c46 := g6.cell (off := 4) rfl
    have c36 := g6.cell (off := 3) rfl
    have dc6 := ((q4.ext X5 q4.1).ext X6 (Nat.lt_of_lt_of_le q4.1 n5)).cells (n := 4) rfl (by decide)
    refine ⟨n6, by repeat' (first | done | ((with_reducible refine brK_yes ?_ ?_); (· omega)) | ((with_reducible refine brK_no ?_ ?_); (· omega)) | (with_reducible refine brK_both (fun _ => ?_) (fun _ => ?_)) | ((with_reducible refine And.intro (And.intro ?_ ?_) ?_); (· omega); (· omega)) | ((with_reducible refine And.intro ?_ ?_); (· omega)) | (with_reducible refine And.intro (show List.all _ oneCell = true from rfl) ?_) | ((with_reducible refine st_newM ?_ ?_); (· rfl)) | ((with_reducible refine bs_oneM ?_ ?_); (· rfl)) | (with_reducible refine bd_of (by with_unfolding_all (simp only [fillL_cons, fillL_nil, nth_eq, blt_eq, cond_beq, over, Value.cells, List.getElem?_cons_zero, List.getElem?_cons_succ, List.length_cons, List.length_nil, Nat.reduceAdd, Nat.reduceSub, Nat.reduceLT, Nat.reduceEqDiff, decide_true, cond_true, Option.map_some, if_true, if_false, Nat.add_one_sub_one, Nat.succ_ne_zero, reduceCtorEq, OfNat.ofNat]; rfl)) ?_) | (with_reducible refine bda_of (by with_unfolding_all rfl) ?_) | (simp -dsimp only [↓getK_same, ↓getK_ne, ↓evK_tmp, ↓agK_nil, ↓ld1_some, ↓ldN_some, ↓agK_load, ↓agV_same, ↓agV_ne, ↓agl_3, ↓agl_112, onV_some', and_true, ne_eq, Nat.reduceEqDiff, Nat.reduceAdd, not_false_eq_true, Addr.add_lit, ↓a9, c46, dc6, same_int, sc])), ?_⟩
    repeat' (first | done | ((with_reducible refine brK_yes ?_ ?_); (· omega)) | ((with_reducible refine brK_no ?_ ?_); (· omega)) | (with_reducible refine brK_both (fun _ => ?_) (fun _ => ?_)) | ((with_reducible refine And.intro (And.intro ?_ ?_) ?_); (· omega); (· omega)) | ((with_reducible refine And.intro ?_ ?_); (· omega)) | (with_reducible refine And.intro (show List.all _ oneCell = true from rfl) ?_) | ((with_reducible refine st_newM ?_ ?_); (· rfl)) | ((with_reducible refine bs_oneM ?_ ?_); (· rfl)) | (with_reducible refine bd_of (by with_unfolding_all (simp only [fillL_cons, fillL_nil, nth_eq, blt_eq, cond_beq, over, Value.cells, List.getElem?_cons_zero, List.getElem?_cons_succ, List.length_cons, List.length_nil, Nat.reduceAdd, Nat.reduceSub, Nat.reduceLT, Nat.reduceEqDiff, decide_true, cond_true, Option.map_some, if_true, if_false, Nat.add_one_sub_one, Nat.succ_ne_zero, reduceCtorEq, OfNat.ofNat]; rfl)) ?_) | (with_reducible refine bda_of (by with_unfolding_all rfl) ?_) | (simp -dsimp only [↓getK_same, ↓getK_ne, ↓evK_tmp, ↓planW_d, ↓ap_146_146, ne_eq, Nat.reduceEqDiff, not_false_eq_true]))
    refine app_ownG (B := h5.n) (n := 0 + k) (m := 1) (new := spRow k) o6 n6 (by rw [List.nil_append, spL_len]; omega) rfl (by omega) (fun _ => ?_) rfl rfl (by decide) fun v7 h7 o7 X7 => ?_
    · simp only [firstCells]
      exact q6.cells (n := 8) rfl (by decide)
    have n7 := X7.n
    have g7 := g6.ext X7 g5.1
    obtain ⟨va, vm, vc, rfl⟩ := OwnS.slc o7
    rw [List.nil_append, ← spL_succ, Nat.zero_add] at o7
    have hvm : vm = k + 1 := by
      rcases hvv : o7 with _ | _ | _
      all_goals first | rfl | omega
    subst hvm
    have hsn : s < h5.n := g5.1
    refine ⟨n7, by repeat' (first | done | ((with_reducible refine brK_yes ?_ ?_); (· omega)) | ((with_reducible refine brK_no ?_ ?_); (· omega)) | (with_reducible refine brK_both (fun _ => ?_) (fun _ => ?_)) | ((with_reducible refine And.intro (And.intro ?_ ?_) ?_); (· omega); (· omega)) | ((with_reducible refine And.intro ?_ ?_); (· omega)) | (with_reducible refine And.intro (show List.all _ oneCell = true from rfl) ?_) | ((with_reducible refine st_newM ?_ ?_); (· rfl)) | ((with_reducible refine bs_oneM ?_ ?_); (· rfl)) | (with_reducible refine bd_of (by with_unfolding_all (simp only [fillL_cons, fillL_nil, nth_eq, blt_eq, cond_beq, over, Value.cells, List.getElem?_cons_zero, List.getElem?_cons_succ, List.length_cons, List.length_nil, Nat.reduceAdd, Nat.reduceSub, Nat.reduceLT, Nat.reduceEqDiff, decide_true, cond_true, Option.map_some, if_true, if_false, Nat.add_one_sub_one, Nat.succ_ne_zero, reduceCtorEq, OfNat.ofNat]; rfl)) ?_) | (with_reducible refine bda_of (by with_unfolding_all rfl) ?_) | (simp -dsimp only [↓agK_nil])), ?_⟩
    repeat' (first | done | ((with_reducible refine brK_yes ?_ ?_); (· omega)) | ((with_reducible refine brK_no ?_ ?_); (· omega)) | (with_reducible refine brK_both (fun _ => ?_) (fun _ => ?_)) | ((with_reducible refine And.intro (And.intro ?_ ?_) ?_); (· omega); (· omega)) | ((with_reducible refine And.intro ?_ ?_); (· omega)) | (with_reducible refine And.intro (show List.all _ oneCell = true from rfl) ?_) | ((with_reducible refine st_newM ?_ ?_); (· rfl)) | ((with_reducible refine bs_oneM ?_ ?_); (· rfl)) | (with_reducible refine bd_of (by with_unfolding_all (simp only [fillL_cons, fillL_nil, nth_eq, blt_eq, cond_beq, over, Value.cells, List.getElem?_cons_zero, List.getElem?_cons_succ, List.length_cons, List.length_nil, Nat.reduceAdd, Nat.reduceSub, Nat.reduceLT, Nat.reduceEqDiff, decide_true, cond_true, Option.map_some, if_true, if_false, Nat.add_one_sub_one, Nat.succ_ne_zero, reduceCtorEq, OfNat.ofNat]; rfl)) ?_) | (with_reducible refine bda_of (by with_unfolding_all rfl) ?_) | (simp -dsimp only [↓getK_same, ↓getK_ne, ↓evK_tmp, ↓planW_d, ↓planW_n, ↓agK_nil, ↓fldA_some, ↓opW_nilCheck, ↓fa_148_3, ↓st_146, Nat.le_refl, true_and, ne_eq, Nat.reduceEqDiff, Nat.reduceAdd, not_false_eq_true, Addr.add_lit]))
    refine st_G (off := 3) (l := [.slice va (k + 1) vc]) (cs' := [.int .i64 gs, .int .i64 slots, .int .i64 nodes, .slice va (k + 1) vc, .int .i64 ((k : Int) + 1)]) g7 rfl rfl rfl rfl (by decide) fun h8 e8 g8 f8 => ?_
    have o8 : OwnS 0 h8 167 (.slice va (k + 1) vc) (k + 1) (spL (k + 1)).flatten := by
      have hsb := hsn
      generalize (Value.slice va (k + 1) vc) = v at o7 ⊢
      generalize (spL (k + 1)).flatten = L at o7 ⊢
      cases o7 with
      | row i _ _ h1 h2 h3' => exact .row i _ _ (Nat.zero_le _) (by omega) ((f8 i (by omega)).trans h3')
    refine ⟨by omega, by repeat' (first | done | ((with_reducible refine brK_yes ?_ ?_); (· omega)) | ((with_reducible refine brK_no ?_ ?_); (· omega)) | (with_reducible refine brK_both (fun _ => ?_) (fun _ => ?_)) | ((with_reducible refine And.intro (And.intro ?_ ?_) ?_); (· omega); (· omega)) | ((with_reducible refine And.intro ?_ ?_); (· omega)) | (with_reducible refine And.intro (show List.all _ oneCell = true from rfl) ?_) | ((with_reducible refine st_newM ?_ ?_); (· rfl)) | ((with_reducible refine bs_oneM ?_ ?_); (· rfl)) | (with_reducible refine bd_of (by with_unfolding_all (simp only [fillL_cons, fillL_nil, nth_eq, blt_eq, cond_beq, over, Value.cells, List.getElem?_cons_zero, List.getElem?_cons_succ, List.length_cons, List.length_nil, Nat.reduceAdd, Nat.reduceSub, Nat.reduceLT, Nat.reduceEqDiff, decide_true, cond_true, Option.map_some, if_true, if_false, Nat.add_one_sub_one, Nat.succ_ne_zero, reduceCtorEq, OfNat.ofNat]; rfl)) ?_) | (with_reducible refine bda_of (by with_unfolding_all rfl) ?_) | (simp -dsimp only [↓agK_nil])), ?_⟩
    repeat' (first | done | ((with_reducible refine brK_yes ?_ ?_); (· omega)) | ((with_reducible refine brK_no ?_ ?_); (· omega)) | (with_reducible refine brK_both (fun _ => ?_) (fun _ => ?_)) | ((with_reducible refine And.intro (And.intro ?_ ?_) ?_); (· omega); (· omega)) | ((with_reducible refine And.intro ?_ ?_); (· omega)) | (with_reducible refine And.intro (show List.all _ oneCell = true from rfl) ?_) | ((with_reducible refine st_newM ?_ ?_); (· rfl)) | ((with_reducible refine bs_oneM ?_ ?_); (· rfl)) | (with_reducible refine bd_of (by with_unfolding_all (simp only [fillL_cons, fillL_nil, nth_eq, blt_eq, cond_beq, over, Value.cells, List.getElem?_cons_zero, List.getElem?_cons_succ, List.length_cons, List.length_nil, Nat.reduceAdd, Nat.reduceSub, Nat.reduceLT, Nat.reduceEqDiff, decide_true, cond_true, Option.map_some, if_true, if_false, Nat.add_one_sub_one, Nat.succ_ne_zero, reduceCtorEq, OfNat.ofNat]; rfl)) ?_) | (with_reducible refine bda_of (by with_unfolding_all rfl) ?_) | (simp -dsimp only [↓cw_ops, ↓cw_seq, ↓cw_ret, ↓seqK_normal, ↓getK_same, ↓evK_int, ↓opsW_nil, ↓opsW_d, ↓planW_nil, ↓opW_assign, ↓resK_one, ↓r38_0_w, ↓s38_1_w]))
    exact hK _ va vc h8 ⟨g8, o8, Nat.zero_le _⟩ (by omega) fun j hj j1 => by rw [f8 j j1, X7.get j (by omega), X6.get j (by omega), X5.get j (by omega), f4 j j1, X3.get j (by omega), X.get j hj]
end
end Go.Proofs.Ytdjnedamphifcaa

