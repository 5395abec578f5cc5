/- Which configurations may be. Conditions, each theorem's own. -/
import Derived.Test.YtdjnedamphifcaaVJ
import Derived.Test.YtdjnedamphifcaaVC
set_option linter.unusedSimpArgs false
set_option linter.unusedVariables false
namespace Go.Proofs.Ytdjnedamphifcaa
open Go.Ev
set_option maxRecDepth 100000
set_option maxHeartbeats 400000
/-! which configurations may be -/
def leastL : List Int := [1, 2, 1, 1, 1, 3, 3, 2, 1, 1, 1, 1, 1, 1]
def mostL : List Int := [8, 32, 64, 32, 32, 512, 32, 16, 256, 64, 4294967296, 4294967296, 4294967296, 4294967296]
def namesL : List Value := [.string ⟨⟨[80, 115]⟩⟩, .string ⟨⟨[82, 105, 110, 103]⟩⟩, .string ⟨⟨[71, 115]⟩⟩, .string ⟨⟨[67, 111, 110, 116, 101, 120, 116, 115]⟩⟩, .string ⟨⟨[68, 111, 109, 97, 105, 110, 115]⟩⟩, .string ⟨⟨[78, 111, 100, 101, 115]⟩⟩, .string ⟨⟨[83, 108, 111, 116, 115]⟩⟩, .string ⟨⟨[82, 101, 102, 105, 108, 108, 115]⟩⟩, .string ⟨⟨[65, 117, 100, 105, 116]⟩⟩, .string ⟨⟨[83, 108, 105, 99, 101]⟩⟩, .string ⟨⟨[67, 80, 85]⟩⟩, .string ⟨⟨[80, 101, 114, 105, 111, 100]⟩⟩, .string ⟨⟨[66, 117, 100, 103, 101, 116]⟩⟩, .string ⟨⟨[69, 97, 99, 104]⟩⟩]
def uV (l : List Int) : List Value := l.map fun n => .int .u64 n
def iV (l : List Int) : List Value := l.map fun n => .int .i64 n
def smallL (c : CfgD) : List Int := [c.ps, c.ring, c.gs, c.contexts, c.domains, c.nodes, c.slots, c.refills, c.audit, c.slice]
def greatL (c : CfgD) : List Int := [c.cpu, c.period, c.budget, c.each]
theorem least_ret {h : Heap} {K : Value → Heap → Prop} (hK : K (.slice (some ⟨h.n, 0, none⟩) 14 14) (newBlk h (.cells (uV leastL) 22 true))) : Ret env (.func 76) [] h K := by
  refine F76 rfl ?_
  repeat' (first | done | with_reducible (first | refine y1 ?_ (by omega) | refine y2 ?_ (by omega) | refine y3 (fun _ => ?_) (fun _ => ?_) | refine y4 ?_ (by omega) (by omega) | refine y5 ?_ (by omega) | refine y6 ?_ (by with_unfolding_all rfl) | refine y7 ?_ (by with_unfolding_all rfl) | refine y8 ?_ (by with_unfolding_all rfl) | refine y9 ?_ (by with_unfolding_all rfl) | refine ya ?_ (by with_unfolding_all rfl)) | (simp -dsimp only [↓cw_ops, ↓cw_seq, ↓seqK_normal, ↓evK_int, ↓evK_nilslice, ↓opsW_nil, ↓opsW_d, ↓opW_assign, ↓evp_nil, ↓evp_cons, ↓bsl_40_14, ↓r76_0_w, ↓s76_1_w, ↓r76_2_w, ↓s76_3_w]))
  refine bs_of (l := uV leastL) rfl ?_
  repeat' (first | done | with_reducible (first | refine y1 ?_ (by omega) | refine y2 ?_ (by omega) | refine y3 (fun _ => ?_) (fun _ => ?_) | refine y4 ?_ (by omega) (by omega) | refine y5 ?_ (by omega) | refine y6 ?_ (by with_unfolding_all rfl) | refine y7 ?_ (by with_unfolding_all rfl) | refine y8 ?_ (by with_unfolding_all rfl) | refine y9 ?_ (by with_unfolding_all rfl) | refine ya ?_ (by with_unfolding_all rfl)) | (simp -dsimp only [↓cw_ret, ↓seqK_normal, ↓getK_same, ↓evK_tmp, ↓opsW_nil, ↓opsW_d, ↓opW_assign, ↓resK_one]))
  exact hK
theorem most_ret {h : Heap} {K : Value → Heap → Prop} (hK : K (.slice (some ⟨h.n, 0, none⟩) 14 14) (newBlk h (.cells (uV mostL) 22 true))) : Ret env (.func 77) [] h K := by
  refine F77 rfl ?_
  repeat' (first | done | with_reducible (first | refine y1 ?_ (by omega) | refine y2 ?_ (by omega) | refine y3 (fun _ => ?_) (fun _ => ?_) | refine y4 ?_ (by omega) (by omega) | refine y5 ?_ (by omega) | refine y6 ?_ (by with_unfolding_all rfl) | refine y7 ?_ (by with_unfolding_all rfl) | refine y8 ?_ (by with_unfolding_all rfl) | refine y9 ?_ (by with_unfolding_all rfl) | refine ya ?_ (by with_unfolding_all rfl)) | (simp -dsimp only [↓cw_ops, ↓cw_seq, ↓seqK_normal, ↓evK_int, ↓evK_nilslice, ↓opsW_nil, ↓opsW_d, ↓opW_assign, ↓evp_nil, ↓evp_cons, ↓bsl_40_14, ↓r77_0_w, ↓s77_1_w, ↓r77_2_w, ↓s77_3_w]))
  refine bs_of (l := uV mostL) rfl ?_
  repeat' (first | done | with_reducible (first | refine y1 ?_ (by omega) | refine y2 ?_ (by omega) | refine y3 (fun _ => ?_) (fun _ => ?_) | refine y4 ?_ (by omega) (by omega) | refine y5 ?_ (by omega) | refine y6 ?_ (by with_unfolding_all rfl) | refine y7 ?_ (by with_unfolding_all rfl) | refine y8 ?_ (by with_unfolding_all rfl) | refine y9 ?_ (by with_unfolding_all rfl) | refine ya ?_ (by with_unfolding_all rfl)) | (simp -dsimp only [↓cw_ret, ↓seqK_normal, ↓getK_same, ↓evK_tmp, ↓opsW_nil, ↓opsW_d, ↓opW_assign, ↓resK_one]))
  exact hK
theorem names_ret {h : Heap} {K : Value → Heap → Prop} (hK : ∀ L : List Value, L.length = 14 → (∀ (i : Nat) v, L[i]? = some v → ∃ s, v = .string s ∧ s ≠ ByteArray.empty) → K (.slice (some ⟨h.n, 0, none⟩) 14 14) (newBlk h (.cells L 9 true))) : Ret env (.func 71) [] h K := by
  refine F71 rfl ?_
  repeat' (first | done | with_reducible (first | refine y1 ?_ (by omega) | refine y2 ?_ (by omega) | refine y3 (fun _ => ?_) (fun _ => ?_) | refine y4 ?_ (by omega) (by omega) | refine y5 ?_ (by omega) | refine y6 ?_ (by with_unfolding_all rfl) | refine y7 ?_ (by with_unfolding_all rfl) | refine y8 ?_ (by with_unfolding_all rfl) | refine y9 ?_ (by with_unfolding_all rfl) | refine ya ?_ (by with_unfolding_all rfl)) | (simp -dsimp only [↓cw_ops, ↓cw_seq, ↓seqK_normal, ↓evK_string, ↓evK_nilslice, ↓opsW_nil, ↓opsW_d, ↓opW_assign, ↓evp_nil, ↓evp_cons, ↓bsl_174_14, ↓r71_0_w, ↓s71_1_w, ↓r71_2_w, ↓s71_3_w]))
  refine bs_of (l := namesL) rfl ?_
  repeat' (first | done | with_reducible (first | refine y1 ?_ (by omega) | refine y2 ?_ (by omega) | refine y3 (fun _ => ?_) (fun _ => ?_) | refine y4 ?_ (by omega) (by omega) | refine y5 ?_ (by omega) | refine y6 ?_ (by with_unfolding_all rfl) | refine y7 ?_ (by with_unfolding_all rfl) | refine y8 ?_ (by with_unfolding_all rfl) | refine y9 ?_ (by with_unfolding_all rfl) | refine ya ?_ (by with_unfolding_all rfl)) | (simp -dsimp only [↓cw_ret, ↓seqK_normal, ↓getK_same, ↓evK_tmp, ↓opsW_nil, ↓opsW_d, ↓opW_assign, ↓resK_one]))
  refine hK _ rfl ?_
  intro i v hv
  obtain ⟨hi, rfl⟩ := List.getElem?_eq_some_iff.1 hv
  have hi' : i < 14 := hi
  have key : ∀ i (h : i < 14), ∃ s, namesL[i]'h = .string s ∧ s ≠ ByteArray.empty := by
    intro i h
    match i, h with
    | 0, _ | 1, _ | 2, _ | 3, _ | 4, _ | 5, _ | 6, _ | 7, _ | 8, _ | 9, _ | 10, _ | 11, _ | 12, _ | 13, _ => exact ⟨_, rfl, fun h => absurd (congrArg ByteArray.size h) (by decide)⟩
  exact key i hi'
theorem small_ret {c : CfgD} {h : Heap} {K : Value → Heap → Prop} (hK : ∀ b h', b < h'.n → h'.b.get b = some (.cells (iV (smallL c)) 3 true) → ExtB h.n h h' → K (.slice (some ⟨b, 0, none⟩) 10 10) h') : Ret env (.func 78) [.agg ⟨c.cells⟩] h K := by
  refine F78 rfl ?_
  repeat' (first | done | with_reducible (first | refine y1 ?_ (by omega) | refine y2 ?_ (by omega) | refine y3 (fun _ => ?_) (fun _ => ?_) | refine y4 ?_ (by omega) (by omega) | refine y5 ?_ (by omega) | refine y6 ?_ (by with_unfolding_all rfl) | refine y7 ?_ (by with_unfolding_all rfl) | refine y8 ?_ (by with_unfolding_all rfl) | refine y9 ?_ (by with_unfolding_all rfl) | refine ya ?_ (by with_unfolding_all rfl)) | (simp -dsimp only [↓cw_ops, ↓cw_seq, ↓seqK_normal, ↓getK_same, ↓getK_ne, ↓evK_tmp, ↓evK_nilslice, ↓opsW_nil, ↓opsW_d, ↓opW_assign, ↓ld1_some, ↓fldA_some, ↓setAll_cons, ↓setAll_nil, ↓opW_box, ↓box_agg, ↓evp_nil, ↓evp_cons, ↓fa_25_0, ↓ld_3, ↓fa_25_9, ↓fa_25_1, ↓fa_25_2, ↓fa_25_3, ↓fa_25_7, ↓fa_25_4, ↓fa_25_6, ↓fa_25_5, ↓fa_25_8, ↓bsl_38_10, ↓r78_0_w, ↓s78_1_w, ↓r78_2_w, ↓s78_3_w, cellAt_newE, onV_some', true_and, ne_eq, Nat.reduceEqDiff, Nat.reduceAdd, not_false_eq_true, Nat.add_zero, Addr.add_lit, c.one, c.c0, c.c1, c.c2, c.c3, c.c4, c.c5, c.c6, c.c7, c.c8, c.c9]))
  refine bs_of (l := iV (smallL c)) rfl ?_
  repeat' (first | done | with_reducible (first | refine y1 ?_ (by omega) | refine y2 ?_ (by omega) | refine y3 (fun _ => ?_) (fun _ => ?_) | refine y4 ?_ (by omega) (by omega) | refine y5 ?_ (by omega) | refine y6 ?_ (by with_unfolding_all rfl) | refine y7 ?_ (by with_unfolding_all rfl) | refine y8 ?_ (by with_unfolding_all rfl) | refine y9 ?_ (by with_unfolding_all rfl) | refine ya ?_ (by with_unfolding_all rfl)) | (simp -dsimp only [↓cw_ret, ↓seqK_normal, ↓getK_same, ↓evK_tmp, ↓opsW_nil, ↓opsW_d, ↓opW_assign, ↓resK_one, newBlk_n]))
  exact hK _ _ (by simp [newBlk]) (newBlk_same _ _) ((ExtB.new _ (Nat.le_refl _)).trans (ExtB.new _ (by simp [newBlk])))
theorem great_ret {c : CfgD} {h : Heap} {K : Value → Heap → Prop} (hK : ∀ b h', b < h'.n → h'.b.get b = some (.cells (uV (greatL c)) 22 true) → ExtB h.n h h' → K (.slice (some ⟨b, 0, none⟩) 4 4) h') : Ret env (.func 79) [.agg ⟨c.cells⟩] h K := by
  refine F79 rfl ?_
  repeat' (first | done | with_reducible (first | refine y1 ?_ (by omega) | refine y2 ?_ (by omega) | refine y3 (fun _ => ?_) (fun _ => ?_) | refine y4 ?_ (by omega) (by omega) | refine y5 ?_ (by omega) | refine y6 ?_ (by with_unfolding_all rfl) | refine y7 ?_ (by with_unfolding_all rfl) | refine y8 ?_ (by with_unfolding_all rfl) | refine y9 ?_ (by with_unfolding_all rfl) | refine ya ?_ (by with_unfolding_all rfl)) | (simp -dsimp only [↓cw_ops, ↓cw_seq, ↓seqK_normal, ↓getK_same, ↓getK_ne, ↓evK_tmp, ↓evK_nilslice, ↓opsW_nil, ↓opsW_d, ↓opW_assign, ↓ld1_some, ↓fldA_some, ↓setAll_cons, ↓setAll_nil, ↓opW_box, ↓box_agg, ↓evp_nil, ↓evp_cons, ↓fa_25_10, ↓ld_22, ↓fa_25_11, ↓fa_25_12, ↓fa_25_13, ↓bsl_40_4, ↓r79_0_w, ↓s79_1_w, ↓r79_2_w, ↓s79_3_w, cellAt_newE, onV_some', true_and, ne_eq, Nat.reduceEqDiff, Nat.reduceAdd, not_false_eq_true, Addr.add_lit, c.one, c.c10, c.c11, c.c12, c.c13]))
  refine bs_of (l := uV (greatL c)) rfl ?_
  repeat' (first | done | with_reducible (first | refine y1 ?_ (by omega) | refine y2 ?_ (by omega) | refine y3 (fun _ => ?_) (fun _ => ?_) | refine y4 ?_ (by omega) (by omega) | refine y5 ?_ (by omega) | refine y6 ?_ (by with_unfolding_all rfl) | refine y7 ?_ (by with_unfolding_all rfl) | refine y8 ?_ (by with_unfolding_all rfl) | refine y9 ?_ (by with_unfolding_all rfl) | refine ya ?_ (by with_unfolding_all rfl)) | (simp -dsimp only [↓cw_ret, ↓seqK_normal, ↓getK_same, ↓evK_tmp, ↓opsW_nil, ↓opsW_d, ↓opW_assign, ↓resK_one, newBlk_n]))
  exact hK _ _ (by simp [newBlk]) (newBlk_same _ _) ((ExtB.new _ (Nat.le_refl _)).trans (ExtB.new _ (by simp [newBlk])))
def outV (v l m : Int) : Int := if v < l then -1 else if m < v then 1 else 0
def partL (c : CfgD) : List Int := smallL c ++ greatL c
theorem bounds_ok : ∀ i, i < 14 → 0 ≤ leastL.getD i 0 ∧ leastL.getD i 0 ≤ 4294967296 ∧ 0 ≤ mostL.getD i 0 ∧ mostL.getD i 0 ≤ 4294967296 := by decide
theorem uV_get {l : List Int} {i : Nat} (h : i < l.length) : (uV l)[i]? = some (.int .u64 (l.getD i 0)) := by simp [uV, List.getElem?_eq_getElem h]
theorem iV_get {l : List Int} {i : Nat} (h : i < l.length) : (iV l)[i]? = some (.int .i64 (l.getD i 0)) := by simp [iV, List.getElem?_eq_getElem h]
theorem out_ret {c : CfgD} {i : Nat} {h : Heap} {K : Value → Heap → Prop} (hi : i < 14) (hK : ∀ h', ExtB h.n h h' → K (.int .i64 (outV ((partL c).getD i 0) (leastL.getD i 0) (mostL.getD i 0))) h') : Ret env (.func 70) [.agg ⟨c.cells⟩, .int .i64 i] h K := by
  obtain ⟨l1, l2, m1, m2⟩ := bounds_ok i hi
  refine F70 rfl ?_
  repeat' (first | done | with_reducible (first | refine y1 ?_ (by omega) | refine y2 ?_ (by omega) | refine y3 (fun _ => ?_) (fun _ => ?_) | refine y4 ?_ (by omega) (by omega) | refine y5 ?_ (by omega) | refine y6 ?_ (by with_unfolding_all rfl) | refine y7 ?_ (by with_unfolding_all rfl) | refine y8 ?_ (by with_unfolding_all rfl) | refine y9 ?_ (by with_unfolding_all rfl) | refine ya ?_ (by with_unfolding_all rfl)) | (simp -dsimp only [↓cw_ops, ↓cw_plan, ↓cw_seq, ↓seqK_normal, ↓getK_same, ↓getK_ne, ↓evK_tmp, ↓evK_int, ↓opsW_nil, ↓opsW_d, ↓planW_d, ↓agK_nil, ↓opW_move, ↓opW_assign, ↓evs_nil, ↓opW_call, ↓setAll_cons, ↓setAll_nil, ↓opW_box, ↓box_agg, ↓p70_36_w, ↓s70_37_w, ↓r70_38_w, ↓s70_39_w, newBlk_n, Nat.le_refl, true_and, ne_eq, Nat.reduceEqDiff, Nat.reduceAdd, not_false_eq_true, Nat.one_ne_zero, c.one]))
  have V := CBox.new h c 25
  have X : ExtB h.n h (newBlk h (.cells c.cells 25 true)) := ExtB.new _ (Nat.le_refl _)
  have hn1 : (newBlk h (.cells c.cells 25 true)).n = h.n + 1 := rfl
  generalize newBlk h (.cells c.cells 25 true) = h1 at V X hn1 ⊢
  refine least_ret ?_
  have X2 : ExtB h1.n h1 (newBlk h1 (.cells (uV leastL) 22 true)) := ExtB.new _ (Nat.le_refl _)
  have dl : cellAt (newBlk h1 (.cells (uV leastL) 22 true)) ⟨h1.n, 0 + i * 1, none⟩ = some (.int .u64 (leastL.getD i 0)) := by rw [cellAt_newE, Nat.zero_add, Nat.mul_one]; exact uV_get (by simpa [leastL] using hi)
  have hn2 : (newBlk h1 (.cells (uV leastL) 22 true)).n = h1.n + 1 := rfl
  generalize newBlk h1 (.cells (uV leastL) 22 true) = h2 at X2 dl hn2 ⊢
  repeat' (first | done | with_reducible (first | refine y1 ?_ (by omega) | refine y2 ?_ (by omega) | refine y3 (fun _ => ?_) (fun _ => ?_) | refine y4 ?_ (by omega) (by omega) | refine y5 ?_ (by omega) | refine y6 ?_ (by with_unfolding_all rfl) | refine y7 ?_ (by with_unfolding_all rfl) | refine y8 ?_ (by with_unfolding_all rfl) | refine y9 ?_ (by with_unfolding_all rfl) | refine ya ?_ (by with_unfolding_all rfl)) | (simp -dsimp only [↓getK_same, ↓getK_ne, ↓evK_tmp, ↓planW_d, ↓agK_nil, ↓ld1_some, ↓idxS_some, ↓evs_nil, ↓opW_call, ↓ld_22, ↓ia_40, onV_some', Nat.le_refl, true_and, ne_eq, Nat.reduceEqDiff, not_false_eq_true, Addr.add_lit, Int.toNat_natCast, dl]))
  refine most_ret ?_
  have X3 : ExtB h2.n h2 (newBlk h2 (.cells (uV mostL) 22 true)) := ExtB.new _ (Nat.le_refl _)
  have dm : cellAt (newBlk h2 (.cells (uV mostL) 22 true)) ⟨h2.n, 0 + i * 1, none⟩ = some (.int .u64 (mostL.getD i 0)) := by rw [cellAt_newE, Nat.zero_add, Nat.mul_one]; exact uV_get (by simpa [mostL] using hi)
  have dl3 := cellAt_ext X3 (by omega) dl
  have hn3 : (newBlk h2 (.cells (uV mostL) 22 true)).n = h2.n + 1 := rfl
  generalize newBlk h2 (.cells (uV mostL) 22 true) = h3 at X3 dm dl3 hn3 ⊢
  have XX : ExtB h.n h h3 := X.trans ((X2.mono (by omega)).trans (X3.mono (by omega)))
  have dv := ((V.ext X2 (by omega)).ext X3 (by omega)).all
  have wl : IntKind.wrap .i64 (leastL.getD i 0) = leastL.getD i 0 := wrap_i64 (by omega) (by omega)
  have wm : IntKind.wrap .i64 (mostL.getD i 0) = mostL.getD i 0 := wrap_i64 (by omega) (by omega)
  generalize leastL.getD i 0 = L at *
  generalize mostL.getD i 0 = M at *
  refine ⟨by omega, by repeat' (first | done | with_reducible (first | refine y1 ?_ (by omega) | refine y2 ?_ (by omega) | refine y3 (fun _ => ?_) (fun _ => ?_) | refine y4 ?_ (by omega) (by omega) | refine y5 ?_ (by omega) | refine y6 ?_ (by with_unfolding_all rfl) | refine y7 ?_ (by with_unfolding_all rfl) | refine y8 ?_ (by with_unfolding_all rfl) | refine y9 ?_ (by with_unfolding_all rfl) | refine ya ?_ (by with_unfolding_all rfl)) | (simp -dsimp only [↓getK_same, ↓getK_ne, ↓evK_tmp, ↓agK_nil, ↓ld1_some, ↓agK_load, ↓agV_same, ↓agV_ne, ↓agl_22, onV_some', and_true, ne_eq, Nat.reduceEqDiff, not_false_eq_true, Addr.add_lit, Int.toNat_natCast, dl3, same_int])), ?_⟩
  by_cases h10 : i < 10
  · repeat' (first | done | with_reducible (first | refine y1 ?_ (by omega) | refine y2 ?_ (by omega) | refine y3 (fun _ => ?_) (fun _ => ?_) | refine y4 ?_ (by omega) (by omega) | refine y5 ?_ (by omega) | refine y6 ?_ (by with_unfolding_all rfl) | refine y7 ?_ (by with_unfolding_all rfl) | refine y8 ?_ (by with_unfolding_all rfl) | refine y9 ?_ (by with_unfolding_all rfl) | refine ya ?_ (by with_unfolding_all rfl)) | (simp -dsimp only [↓cw_ops, ↓cw_seq, ↓cw_cond, ↓seqK_normal, ↓getK_same, ↓getK_ne, ↓evK_tmp, ↓evK_int, ↓condV_var, ↓opsW_nil, ↓opsW_d, ↓planW_nil, ↓planW_d, ↓agK_nil, ↓opW_move, ↓opW_assign, ↓opW_bin, ↓bin_lss, ↓ld1_some, ↓ldN_some, ↓idxS_some, ↓evs_nil, ↓evs_cons, ↓opW_call, ↓setAll_cons, ↓setAll_nil, ↓ld_25, ↓ld_22, ↓ia_40, ↓r70_30_w, ↓s70_31_w, ↓s70_32_w, ↓r70_33_w, ↓s70_34_w, ↓s70_35_w, onV_some', brK_true, Nat.le_refl, true_and, ne_eq, Nat.reduceEqDiff, Nat.reduceAdd, not_false_eq_true, Addr.add_lit, Int.toNat_natCast, dm, dv]))
    refine small_ret fun b h4 hb4 g4 X4 => ?_
    have d4 : cellAt h4 ⟨b, 0 + i * 1, none⟩ = some (.int .i64 ((partL c).getD i 0)) := by
      refine cellAt_blk hb4 g4 ?_
      rw [Nat.zero_add, Nat.mul_one, iV_get (by simpa [smallL] using h10)]
      unfold partL
      simp only [List.getD_eq_getElem?_getD]
      rw [List.getElem?_append_left (by simpa [smallL] using h10)]
    have fin := hK h4 (XX.trans (X4.mono (by omega)))
    unfold outV at fin
    generalize (partL c).getD i 0 = v at d4 fin
    by_cases c1 : v < L
    · rw [if_pos c1] at fin
      repeat' (first | done | with_reducible (first | refine y1 ?_ (by omega) | refine y2 ?_ (by omega) | refine y3 (fun _ => ?_) (fun _ => ?_) | refine y4 ?_ (by omega) (by omega) | refine y5 ?_ (by omega) | refine y6 ?_ (by with_unfolding_all rfl) | refine y7 ?_ (by with_unfolding_all rfl) | refine y8 ?_ (by with_unfolding_all rfl) | refine y9 ?_ (by with_unfolding_all rfl) | refine ya ?_ (by with_unfolding_all rfl)) | (simp -dsimp only [↓cw_ops, ↓cw_seq, ↓cw_ret, ↓cw_cond, ↓seqK_normal, ↓seqK_ret, ↓getK_same, ↓getK_ne, ↓evK_tmp, ↓evK_int, ↓condV_var, ↓opsW_nil, ↓opsW_d, ↓opW_move, ↓opW_assign, ↓opW_bin, ↓bin_lss, ↓ld1_some, ↓idxS_some, ↓resK_one, ↓setAll_cons, ↓setAll_nil, ↓cint_int, ↓ld_3, ↓ia_38, ↓cv_22_3, ↓r70_24_w, ↓s70_25_w, ↓s70_26_w, ↓r70_27_w, ↓s70_28_w, ↓s70_29_w, onV_some', brK_true, ne_eq, Nat.reduceEqDiff, Nat.reduceAdd, not_false_eq_true, Addr.add_lit, Int.toNat_natCast, d4, wl]))
      exact fin
    · rw [if_neg c1] at fin
      by_cases c2 : M < v
      · rw [if_pos c2] at fin
        repeat' (first | done | with_reducible (first | refine y1 ?_ (by omega) | refine y2 ?_ (by omega) | refine y3 (fun _ => ?_) (fun _ => ?_) | refine y4 ?_ (by omega) (by omega) | refine y5 ?_ (by omega) | refine y6 ?_ (by with_unfolding_all rfl) | refine y7 ?_ (by with_unfolding_all rfl) | refine y8 ?_ (by with_unfolding_all rfl) | refine y9 ?_ (by with_unfolding_all rfl) | refine ya ?_ (by with_unfolding_all rfl)) | (simp -dsimp only [↓cw_skip, ↓cw_ops, ↓cw_seq, ↓cw_ret, ↓cw_cond, ↓seqK_normal, ↓seqK_ret, ↓getK_same, ↓getK_ne, ↓evK_tmp, ↓evK_int, ↓condV_var, ↓opsW_nil, ↓opsW_d, ↓opW_move, ↓opW_assign, ↓opW_bin, ↓bin_lss, ↓bin_gtr, ↓ld1_some, ↓idxS_some, ↓resK_one, ↓setAll_cons, ↓setAll_nil, ↓cint_int, ↓ld_3, ↓ia_38, ↓cv_22_3, ↓r70_18_w, ↓s70_19_w, ↓s70_20_w, ↓r70_21_w, ↓s70_22_w, ↓s70_23_w, ↓s70_26_w, ↓r70_27_w, ↓s70_28_w, ↓s70_29_w, onV_some', brK_true, brK_false, ne_eq, Nat.reduceEqDiff, Nat.reduceAdd, not_false_eq_true, Addr.add_lit, Int.toNat_natCast, Bool.false_eq_true,  d4, wl, wm]))
        exact fin
      · rw [if_neg c2] at fin
        repeat' (first | done | with_reducible (first | refine y1 ?_ (by omega) | refine y2 ?_ (by omega) | refine y3 (fun _ => ?_) (fun _ => ?_) | refine y4 ?_ (by omega) (by omega) | refine y5 ?_ (by omega) | refine y6 ?_ (by with_unfolding_all rfl) | refine y7 ?_ (by with_unfolding_all rfl) | refine y8 ?_ (by with_unfolding_all rfl) | refine y9 ?_ (by with_unfolding_all rfl) | refine ya ?_ (by with_unfolding_all rfl)) | (simp -dsimp only [↓cw_skip, ↓cw_ops, ↓cw_seq, ↓cw_ret, ↓cw_cond, ↓seqK_normal, ↓seqK_ret, ↓getK_same, ↓getK_ne, ↓evK_tmp, ↓evK_int, ↓condV_var, ↓opsW_nil, ↓opsW_d, ↓opW_move, ↓opW_assign, ↓opW_bin, ↓bin_lss, ↓bin_gtr, ↓ld1_some, ↓idxS_some, ↓resK_one, ↓setAll_cons, ↓setAll_nil, ↓cint_int, ↓ld_3, ↓ia_38, ↓cv_22_3, ↓r70_16_w, ↓s70_17_w, ↓s70_20_w, ↓r70_21_w, ↓s70_22_w, ↓s70_23_w, ↓s70_26_w, ↓r70_27_w, ↓s70_28_w, ↓s70_29_w, onV_some', brK_false, ne_eq, Nat.reduceEqDiff, Nat.reduceAdd, not_false_eq_true, Addr.add_lit, Int.toNat_natCast, Bool.false_eq_true,  d4, wl, wm]))
        exact fin
  · have ws : IntKind.wrap .i64 ((i : Int) - 10) = ((i - 10 : Nat) : Int) := by rw [wrap_i64 (by omega) (by omega)]; omega
    repeat' (first | done | with_reducible (first | refine y1 ?_ (by omega) | refine y2 ?_ (by omega) | refine y3 (fun _ => ?_) (fun _ => ?_) | refine y4 ?_ (by omega) (by omega) | refine y5 ?_ (by omega) | refine y6 ?_ (by with_unfolding_all rfl) | refine y7 ?_ (by with_unfolding_all rfl) | refine y8 ?_ (by with_unfolding_all rfl) | refine y9 ?_ (by with_unfolding_all rfl) | refine ya ?_ (by with_unfolding_all rfl)) | (simp -dsimp only [↓cw_skip, ↓cw_ops, ↓cw_seq, ↓cw_cond, ↓seqK_normal, ↓getK_same, ↓getK_ne, ↓evK_tmp, ↓evK_int, ↓condV_var, ↓opsW_nil, ↓opsW_d, ↓planW_nil, ↓planW_d, ↓agK_nil, ↓opW_move, ↓opW_assign, ↓opW_bin, ↓bin_lss, ↓ld1_some, ↓ldN_some, ↓idxS_some, ↓evs_nil, ↓evs_cons, ↓opW_call, ↓setAll_cons, ↓setAll_nil, ↓ld_25, ↓ld_22, ↓ia_40, ↓r70_14_w, ↓s70_15_w, ↓s70_32_w, ↓r70_33_w, ↓s70_34_w, ↓s70_35_w, onV_some', brK_false, Nat.le_refl, true_and, ne_eq, Nat.reduceEqDiff, Nat.reduceAdd, not_false_eq_true, Addr.add_lit, Int.toNat_natCast, Bool.false_eq_true,  dm, dv]))
    refine great_ret fun b h4 hb4 g4 X4 => ?_
    have d4 : cellAt h4 ⟨b, 0 + (i - 10) * 1, none⟩ = some (.int .u64 ((partL c).getD i 0)) := by
      refine cellAt_blk hb4 g4 ?_
      rw [Nat.zero_add, Nat.mul_one, uV_get (by simp [greatL]; omega)]
      unfold partL
      simp only [List.getD_eq_getElem?_getD]
      rw [List.getElem?_append_right (by simp [smallL]; omega)]
      rfl
    have fin := hK h4 (XX.trans (X4.mono (by omega)))
    unfold outV at fin
    generalize (partL c).getD i 0 = v at d4 fin
    have hi10 : i - 10 < 4 := by omega
    by_cases c1 : v < L
    · rw [if_pos c1] at fin
      repeat' (first | done | with_reducible (first | refine y1 ?_ (by omega) | refine y2 ?_ (by omega) | refine y3 (fun _ => ?_) (fun _ => ?_) | refine y4 ?_ (by omega) (by omega) | refine y5 ?_ (by omega) | refine y6 ?_ (by with_unfolding_all rfl) | refine y7 ?_ (by with_unfolding_all rfl) | refine y8 ?_ (by with_unfolding_all rfl) | refine y9 ?_ (by with_unfolding_all rfl) | refine ya ?_ (by with_unfolding_all rfl)) | (simp -dsimp only [↓cw_ops, ↓cw_seq, ↓cw_ret, ↓cw_cond, ↓seqK_normal, ↓seqK_ret, ↓getK_same, ↓getK_ne, ↓evK_tmp, ↓evK_int, ↓condV_var, ↓opsW_nil, ↓opsW_d, ↓opW_move, ↓opW_assign, ↓opW_bin, ↓bin_sub, ↓bin_lss, ↓ld1_some, ↓idxS_some, ↓resK_one, ↓setAll_cons, ↓setAll_nil, ↓ld_22, ↓ia_40, ↓r70_8_w, ↓s70_9_w, ↓s70_10_w, ↓r70_11_w, ↓s70_12_w, ↓s70_13_w, onV_some', brK_true, ne_eq, Nat.reduceEqDiff, Nat.reduceAdd, not_false_eq_true, Addr.add_lit, Int.toNat_natCast, d4, ws]))
      exact fin
    · rw [if_neg c1] at fin
      by_cases c2 : M < v
      · rw [if_pos c2] at fin
        repeat' (first | done | with_reducible (first | refine y1 ?_ (by omega) | refine y2 ?_ (by omega) | refine y3 (fun _ => ?_) (fun _ => ?_) | refine y4 ?_ (by omega) (by omega) | refine y5 ?_ (by omega) | refine y6 ?_ (by with_unfolding_all rfl) | refine y7 ?_ (by with_unfolding_all rfl) | refine y8 ?_ (by with_unfolding_all rfl) | refine y9 ?_ (by with_unfolding_all rfl) | refine ya ?_ (by with_unfolding_all rfl)) | (simp -dsimp only [↓cw_skip, ↓cw_ops, ↓cw_seq, ↓cw_ret, ↓cw_cond, ↓seqK_normal, ↓seqK_ret, ↓getK_same, ↓getK_ne, ↓evK_tmp, ↓evK_int, ↓condV_var, ↓opsW_nil, ↓opsW_d, ↓opW_move, ↓opW_assign, ↓opW_bin, ↓bin_sub, ↓bin_lss, ↓bin_gtr, ↓ld1_some, ↓idxS_some, ↓resK_one, ↓setAll_cons, ↓setAll_nil, ↓ld_22, ↓ia_40, ↓r70_2_w, ↓s70_3_w, ↓s70_4_w, ↓r70_5_w, ↓s70_6_w, ↓s70_7_w, ↓s70_10_w, ↓r70_11_w, ↓s70_12_w, ↓s70_13_w, onV_some', brK_true, brK_false, ne_eq, Nat.reduceEqDiff, Nat.reduceAdd, not_false_eq_true, Addr.add_lit, Int.toNat_natCast, Bool.false_eq_true,  d4, ws]))
        exact fin
      · rw [if_neg c2] at fin
        repeat' (first | done | with_reducible (first | refine y1 ?_ (by omega) | refine y2 ?_ (by omega) | refine y3 (fun _ => ?_) (fun _ => ?_) | refine y4 ?_ (by omega) (by omega) | refine y5 ?_ (by omega) | refine y6 ?_ (by with_unfolding_all rfl) | refine y7 ?_ (by with_unfolding_all rfl) | refine y8 ?_ (by with_unfolding_all rfl) | refine y9 ?_ (by with_unfolding_all rfl) | refine ya ?_ (by with_unfolding_all rfl)) | (simp -dsimp only [↓cw_skip, ↓cw_ops, ↓cw_seq, ↓cw_ret, ↓cw_cond, ↓seqK_normal, ↓getK_same, ↓getK_ne, ↓evK_tmp, ↓evK_int, ↓condV_var, ↓opsW_nil, ↓opsW_d, ↓opW_move, ↓opW_assign, ↓opW_bin, ↓bin_sub, ↓bin_lss, ↓bin_gtr, ↓ld1_some, ↓idxS_some, ↓resK_one, ↓setAll_cons, ↓setAll_nil, ↓ld_22, ↓ia_40, ↓r70_0_w, ↓s70_1_w, ↓s70_4_w, ↓r70_5_w, ↓s70_6_w, ↓s70_7_w, ↓s70_10_w, ↓r70_11_w, ↓s70_12_w, ↓s70_13_w, onV_some', brK_false, ne_eq, Nat.reduceEqDiff, Nat.reduceAdd, not_false_eq_true, Addr.add_lit, Int.toNat_natCast, Bool.false_eq_true,  d4, ws]))
        exact fin
end Go.Proofs.Ytdjnedamphifcaa

namespace Go.Proofs.Ytdjnedamphifcaa
open Go.Ev
set_option maxRecDepth 100000
set_option maxHeartbeats 400000
structure PrgD where
  a : Option Addr
  n : Nat
  c : Nat
def PrgD.cells (p : PrgD) : List Value := [.slice p.a p.n p.c]
structure Progs (B : Nat) (h : Heap) (c : CfgD) (l : List PrgD) : Prop where
  len : c.pn = l.length
  row : RowAt B h c.pa 1 (l.map PrgD.cells)
  small : l.length ≤ 281474976710656 ∧ ∀ p ∈ l, p.n ≤ 281474976710656
theorem Progs.ext {B : Nat} {h h' : Heap} {c : CfgD} {l : List PrgD} (p : Progs B h c l) (e : ExtB B h h') : Progs B h' c l := ⟨p.len, p.row.ext e, p.small⟩
theorem cfg_of {c : CfgD} (h : ∀ i, i < 14 → outV ((partL c).getD i 0) (leastL.getD i 0) (mostL.getD i 0) = 0) : CfgOK c := by
  have key : ∀ v l m, outV v l m = 0 → l ≤ v ∧ v ≤ m := by
    intro v l m h
    unfold outV at h
    by_cases c1 : v < l
    · rw [if_pos c1] at h; cases h
    · rw [if_neg c1] at h
      by_cases c2 : m < v
      · rw [if_pos c2] at h; cases h
      · omega
  exact ⟨key _ _ _ (h 0 (by decide)), key _ _ _ (h 1 (by decide)), key _ _ _ (h 2 (by decide)), key _ _ _ (h 3 (by decide)), key _ _ _ (h 4 (by decide)), key _ _ _ (h 5 (by decide)), key _ _ _ (h 6 (by decide)), key _ _ _ (h 7 (by decide)), key _ _ _ (h 8 (by decide)), key _ _ _ (h 9 (by decide)), key _ _ _ (h 10 (by decide)), key _ _ _ (h 11 (by decide)), key _ _ _ (h 12 (by decide)), key _ _ _ (h 13 (by decide))⟩
theorem wrong_ret {B : Nat} {c : CfgD} {l : List PrgD} {h : Heap} {K : Value → Heap → Prop} (hB : B ≤ h.n) (hp : Progs B h c l)
    (hK : ∀ s i h', (s = ByteArray.empty → CfgOK c) → ExtB h.n h h' → K (.tuple #[.string s, .int .i64 i]) h') : Ret env (.func 54) [.agg ⟨c.cells⟩] h K := by
  have hne : ∀ s : ByteArray, s ≠ ByteArray.empty → s = ByteArray.empty → CfgOK c := fun s h1 h2 => absurd h2 h1
  obtain ⟨hs1, hs2⟩ := hp.small
  have hpn := hp.len
  refine F54 rfl ?_
  repeat' (first | done | with_reducible (first | refine y1 ?_ (by omega) | refine y2 ?_ (by omega) | refine y3 (fun _ => ?_) (fun _ => ?_) | refine y4 ?_ (by omega) (by omega) | refine y5 ?_ (by omega) | refine y6 ?_ (by with_unfolding_all rfl) | refine y7 ?_ (by with_unfolding_all rfl) | refine y8 ?_ (by with_unfolding_all rfl) | refine y9 ?_ (by with_unfolding_all rfl) | refine ya ?_ (by with_unfolding_all rfl)) | (simp -dsimp only [↓cw_ops, ↓cw_seq, ↓cw_block, ↓seqK_normal, ↓getK_same, ↓evK_tmp, ↓evK_int, ↓evK_string, ↓opsW_nil, ↓opsW_d, ↓opW_assign, ↓setAll_cons, ↓setAll_nil, ↓opW_box, ↓box_agg, ↓s54_37_w, ↓s54_38_w, ↓r54_39_w, ↓s54_40_w, ↓s54_41_w, ↓r54_42_w, ↓s54_43_w, true_and, c.one]))
  have V := CBox.new h c 25
  have X : ExtB h.n h (newBlk h (.cells c.cells 25 true)) := ExtB.new _ (Nat.le_refl _)
  have hn1 : (newBlk h (.cells c.cells 25 true)).n = h.n + 1 := rfl
  generalize newBlk h (.cells c.cells 25 true) = h1 at V X hn1 ⊢
  refine cw_loopI (fun m fr' h' => ∃ k : Nat, k ≤ 14 ∧ m = 14 - k ∧ fr'.get 4 = some (.int .i64 k) ∧ ExtB h1.n h1 h' ∧ ∀ j, j < k → outV ((partL c).getD j 0) (leastL.getD j 0) (mostL.getD j 0) = 0) 14 ?_ (by omega) ?_
  · exact ⟨0, by omega, by omega, by simp [T.get_set], ExtB.refl _ _, fun j h => by omega⟩
  rintro m fr2 h' ⟨k, hk, rfl, f4, X1, hok⟩ hag
  have e4 := getK_of f4
  have a1 := getK_eq (hag 1 rfl)
  have hn := X1.n
  have dv := (V.ext X1 (by omega)).all
  have XX : ExtB h.n h h' := X.trans (X1.mono (by omega))
  by_cases hlt : k < 14
  · repeat' (first | done | with_reducible (first | refine y1 ?_ (by omega) | refine y2 ?_ (by omega) | refine y3 (fun _ => ?_) (fun _ => ?_) | refine y4 ?_ (by omega) (by omega) | refine y5 ?_ (by omega) | refine y6 ?_ (by with_unfolding_all rfl) | refine y7 ?_ (by with_unfolding_all rfl) | refine y8 ?_ (by with_unfolding_all rfl) | refine y9 ?_ (by with_unfolding_all rfl) | refine ya ?_ (by with_unfolding_all rfl)) | (simp -dsimp only [↓cw_skip, ↓cw_ops, ↓cw_seq, ↓cw_block, ↓cw_cond, ↓seqK_normal, ↓getK_same, ↓getK_ne, ↓evK_tmp, ↓evK_int, ↓condV_var, ↓opsW_nil, ↓opsW_d, ↓opW_move, ↓opW_bin, ↓bin_lss, ↓ldN_some, ↓evs_nil, ↓evs_cons, ↓opW_call, ↓ld_25, ↓r54_30_w, ↓s54_31_w, ↓s54_32_w, ↓s54_33_w, ↓r54_34_w, ↓s54_35_w, ↓s54_36_w, onV_some', brK_true, ne_eq, Nat.reduceEqDiff, not_false_eq_true, ↓e4, ↓a1, dv]))
    refine out_ret hlt fun h2 x2 => ?_
    have hn2 := x2.n
    have X2 : ExtB h.n h h2 := XX.trans (x2.mono (by omega))
    have nx : outV ((partL c).getD k 0) (leastL.getD k 0) (mostL.getD k 0) = 0 → ∀ j, j < k + 1 → outV ((partL c).getD j 0) (leastL.getD j 0) (mostL.getD j 0) = 0 := fun h0 j hj => by
      by_cases hj' : j < k
      · exact hok j hj'
      · have : j = k := by omega
        subst this; exact h0
    generalize outV ((partL c).getD k 0) (leastL.getD k 0) (mostL.getD k 0) = o at nx ⊢
    by_cases h0 : o = 0
    · repeat' (first | done | with_reducible (first | refine y1 ?_ (by omega) | refine y2 ?_ (by omega) | refine y3 (fun _ => ?_) (fun _ => ?_) | refine y4 ?_ (by omega) (by omega) | refine y5 ?_ (by omega) | refine y6 ?_ (by with_unfolding_all rfl) | refine y7 ?_ (by with_unfolding_all rfl) | refine y8 ?_ (by with_unfolding_all rfl) | refine y9 ?_ (by with_unfolding_all rfl) | refine ya ?_ (by with_unfolding_all rfl)) | (simp -dsimp only [↓cw_skip, ↓cw_ops, ↓cw_cond, ↓seqK_normal, ↓blockK_normal, ↓loopK_normal, ↓getK_same, ↓getK_ne, ↓evK_tmp, ↓evK_int, ↓condV_var, ↓opsW_nil, ↓opsW_d, ↓opW_move, ↓opW_assign, ↓opW_bin, ↓bin_add, ↓bin_neq, ↓r54_25_w, ↓s54_26_w, ↓s54_29_w, brK_false, ne_eq, Nat.reduceEqDiff, not_false_eq_true, Bool.false_eq_true,  ↓e4]))
      exact ⟨14 - (k + 1), by omega, k + 1, by omega, rfl, by simp [T.get_set, wrap_succ (show k ≤ 4611686018427387904 by omega)], X1.trans (x2.mono hn), nx h0⟩
    · repeat' (first | done | with_reducible (first | refine y1 ?_ (by omega) | refine y2 ?_ (by omega) | refine y3 (fun _ => ?_) (fun _ => ?_) | refine y4 ?_ (by omega) (by omega) | refine y5 ?_ (by omega) | refine y6 ?_ (by with_unfolding_all rfl) | refine y7 ?_ (by with_unfolding_all rfl) | refine y8 ?_ (by with_unfolding_all rfl) | refine y9 ?_ (by with_unfolding_all rfl) | refine ya ?_ (by with_unfolding_all rfl)) | (simp -dsimp only [↓cw_ops, ↓cw_seq, ↓cw_cond, ↓seqK_normal, ↓getK_same, ↓evK_tmp, ↓evK_int, ↓condV_var, ↓opsW_nil, ↓opsW_d, ↓opW_bin, ↓bin_neq, ↓evs_nil, ↓opW_call, ↓r54_27_w, ↓s54_28_w, ↓s54_29_w, brK_true]))
      refine names_ret fun L hL hLs => ?_
      have X3 : ExtB h2.n h2 (newBlk h2 (.cells L 9 true)) := ExtB.new _ (Nat.le_refl _)
      obtain ⟨s, hs, hse⟩ := hLs k (L[k]'(by omega)) (List.getElem?_eq_getElem _)
      have dk : cellAt (newBlk h2 (.cells L 9 true)) ⟨h2.n, 0 + k * 1, none⟩ = some (.string s) := by rw [cellAt_newE, Nat.zero_add, Nat.mul_one, List.getElem?_eq_getElem (by omega), hs]
      generalize newBlk h2 (.cells L 9 true) = h3 at X3 dk ⊢
      repeat' (first | done | with_reducible (first | refine y1 ?_ (by omega) | refine y2 ?_ (by omega) | refine y3 (fun _ => ?_) (fun _ => ?_) | refine y4 ?_ (by omega) (by omega) | refine y5 ?_ (by omega) | refine y6 ?_ (by with_unfolding_all rfl) | refine y7 ?_ (by with_unfolding_all rfl) | refine y8 ?_ (by with_unfolding_all rfl) | refine y9 ?_ (by with_unfolding_all rfl) | refine ya ?_ (by with_unfolding_all rfl)) | (simp -dsimp only [↓cw_ret, ↓seqK_normal, ↓seqK_ret, ↓blockK_ret, ↓loopK_ret, ↓getK_same, ↓getK_ne, ↓evK_tmp, ↓evK_int, ↓opsW_nil, ↓opsW_d, ↓opW_move, ↓opW_assign, ↓ld1_some, ↓idxS_some, ↓resK_two, ↓ia_174, ↓ld_9, onV_some', ne_eq, Nat.reduceEqDiff, not_false_eq_true, Addr.add_lit, Int.toNat_natCast, ↓e4, dk]))
      exact hK s _ h3 (hne s hse) (X2.trans (X3.mono (by omega)))
  · have e : k = 14 := by omega
    subst e
    have ok := cfg_of hok
    have d14 := (V.ext X1 (by omega)).get 14 _ rfl
    rw [hpn] at d14
    have pne : (⟨⟨[80, 114, 111, 103, 114, 97, 109, 115]⟩⟩ : ByteArray) ≠ ByteArray.empty := fun h => absurd (congrArg ByteArray.size h) (by decide)
    by_cases hl0 : l.length = 0
    · rw [hl0] at d14
      repeat' (first | done | with_reducible (first | refine y1 ?_ (by omega) | refine y2 ?_ (by omega) | refine y3 (fun _ => ?_) (fun _ => ?_) | refine y4 ?_ (by omega) (by omega) | refine y5 ?_ (by omega) | refine y6 ?_ (by with_unfolding_all rfl) | refine y7 ?_ (by with_unfolding_all rfl) | refine y8 ?_ (by with_unfolding_all rfl) | refine y9 ?_ (by with_unfolding_all rfl) | refine ya ?_ (by with_unfolding_all rfl)) | (simp -dsimp only [↓cw_ops, ↓cw_seq, ↓cw_exit, ↓cw_ret, ↓cw_cond, ↓seqK_normal, ↓seqK_exit, ↓seqK_ret, ↓blockK_same, ↓loopK_exit, ↓getK_same, ↓getK_ne, ↓evK_tmp, ↓evK_int, ↓evK_bool, ↓evK_string, ↓condV_var, ↓gdV_var, ↓opsW_nil, ↓opsW_d, ↓opsW_gd, ↓opW_move, ↓opW_assign, ↓opW_pick, ↓opW_bin, ↓bin_eql, ↓bin_lss, ↓ld1_some, ↓fldA_some, ↓lenS_some, ↓resK_two, ↓fa_25_14, ↓ld_23, ↓len_23, ↓r54_19_w, ↓s54_20_w, ↓s54_21_w, ↓r54_22_w, ↓s54_23_w, ↓s54_24_w, ↓s54_33_w, ↓r54_34_w, ↓s54_35_w, ↓s54_36_w, onV_some', brK_true, brK_false, ne_eq, Nat.reduceEqDiff, Nat.reduceAdd, not_false_eq_true, Addr.add_lit, Bool.true_eq_false, Bool.false_eq_true,  ↓e4, ↓a1, d14]))
      exact hK _ _ h' (hne _ pne) XX
    by_cases hl1 : 16 < l.length
    · repeat' (first | done | with_reducible (first | refine y1 ?_ (by omega) | refine y2 ?_ (by omega) | refine y3 (fun _ => ?_) (fun _ => ?_) | refine y4 ?_ (by omega) (by omega) | refine y5 ?_ (by omega) | refine y6 ?_ (by with_unfolding_all rfl) | refine y7 ?_ (by with_unfolding_all rfl) | refine y8 ?_ (by with_unfolding_all rfl) | refine y9 ?_ (by with_unfolding_all rfl) | refine ya ?_ (by with_unfolding_all rfl)) | (simp -dsimp only [↓cw_ops, ↓cw_seq, ↓cw_exit, ↓cw_ret, ↓cw_cond, ↓seqK_normal, ↓seqK_exit, ↓seqK_ret, ↓blockK_same, ↓loopK_exit, ↓getK_same, ↓getK_ne, ↓evK_tmp, ↓evK_int, ↓evK_string, ↓condV_var, ↓gdV_var, ↓opsW_nil, ↓opsW_d, ↓opsW_gd, ↓opW_move, ↓opW_assign, ↓opW_pick, ↓opW_bin, ↓bin_eql, ↓bin_lss, ↓bin_gtr, ↓ld1_some, ↓fldA_some, ↓lenS_some, ↓resK_two, ↓fa_25_14, ↓ld_23, ↓len_23, ↓r54_19_w, ↓s54_20_w, ↓s54_21_w, ↓r54_22_w, ↓s54_23_w, ↓s54_24_w, ↓s54_33_w, ↓r54_34_w, ↓s54_35_w, ↓s54_36_w, onV_some', brK_true, brK_false, ne_eq, Nat.reduceEqDiff, Nat.reduceAdd, not_false_eq_true, Addr.add_lit, Bool.false_eq_true,  ↓e4, ↓a1, d14]))
      exact hK _ _ h' (hne _ pne) XX
    repeat' (first | done | with_reducible (first | refine y1 ?_ (by omega) | refine y2 ?_ (by omega) | refine y3 (fun _ => ?_) (fun _ => ?_) | refine y4 ?_ (by omega) (by omega) | refine y5 ?_ (by omega) | refine y6 ?_ (by with_unfolding_all rfl) | refine y7 ?_ (by with_unfolding_all rfl) | refine y8 ?_ (by with_unfolding_all rfl) | refine y9 ?_ (by with_unfolding_all rfl) | refine ya ?_ (by with_unfolding_all rfl)) | (simp -dsimp only [↓cw_skip, ↓cw_ops, ↓cw_seq, ↓cw_block, ↓cw_exit, ↓cw_cond, ↓seqK_normal, ↓seqK_exit, ↓blockK_same, ↓loopK_exit, ↓getK_same, ↓getK_ne, ↓evK_tmp, ↓evK_int, ↓condV_var, ↓gdV_var, ↓opsW_nil, ↓opsW_d, ↓opsW_gd, ↓opW_move, ↓opW_assign, ↓opW_pick, ↓opW_bin, ↓bin_eql, ↓bin_lss, ↓bin_gtr, ↓ld1_some, ↓fldA_some, ↓lenS_some, ↓fa_25_14, ↓ld_23, ↓len_23, ↓s54_14_w, ↓s54_15_w, ↓r54_16_w, ↓s54_17_w, ↓s54_18_w, ↓s54_21_w, ↓r54_22_w, ↓s54_23_w, ↓s54_24_w, ↓s54_33_w, ↓r54_34_w, ↓s54_35_w, ↓s54_36_w, onV_some', brK_true, brK_false, ne_eq, Nat.reduceEqDiff, Nat.reduceAdd, not_false_eq_true, Addr.add_lit, Bool.false_eq_true,  ↓e4, ↓a1, d14]))
    have hrow := (hp.ext (XX.mono hB)).row
    refine cw_loopI (fun m fr' h2 => h' = h2 ∧ ∃ k : Nat, k ≤ l.length ∧ m = l.length - k ∧ fr'.get 5 = some (.int .i64 k)) l.length ?_ (by omega) ?_
    · exact ⟨rfl, 0, by omega, by omega, by simp [T.get_set]⟩
    rintro m fr3 h2 ⟨rfl, k, hk, rfl, f5⟩ hag2
    have e5 := getK_of f5
    have b1 := getK_eq (hag2 1 rfl)
    by_cases hlt : k < l.length
    · obtain ⟨b0, off, hra, hb, dd⟩ := hrow k (by simpa using hlt)
      simp only [List.getElem_map, PrgD.cells] at dd
      have d0 := cellAt_of dd (j := 0) rfl
      simp only [Nat.add_zero] at d0
      have d14' := d14
      rw [hra] at d14'
      have hsm := hs2 _ (List.getElem_mem hlt)
      by_cases hbig : 1024 < l[k].n
      · repeat' (first | done | with_reducible (first | refine y1 ?_ (by omega) | refine y2 ?_ (by omega) | refine y3 (fun _ => ?_) (fun _ => ?_) | refine y4 ?_ (by omega) (by omega) | refine y5 ?_ (by omega) | refine y6 ?_ (by with_unfolding_all rfl) | refine y7 ?_ (by with_unfolding_all rfl) | refine y8 ?_ (by with_unfolding_all rfl) | refine y9 ?_ (by with_unfolding_all rfl) | refine ya ?_ (by with_unfolding_all rfl)) | (simp -dsimp only [↓cw_skip, ↓cw_ops, ↓cw_seq, ↓cw_block, ↓cw_ret, ↓cw_cond, ↓seqK_normal, ↓seqK_ret, ↓blockK_ret, ↓loopK_ret, ↓getK_same, ↓getK_ne, ↓evK_tmp, ↓evK_int, ↓evK_string, ↓condV_var, ↓opsW_nil, ↓opsW_d, ↓opW_move, ↓opW_assign, ↓opW_bin, ↓bin_lss, ↓bin_gtr, ↓ld1_some, ↓fldA_some, ↓idxS_some, ↓lenS_some, ↓resK_two, ↓fa_25_14, ↓ld_23, ↓len_23, ↓ia_23, ↓ld_80, ↓len_80, ↓r54_4_w, ↓s54_5_w, ↓s54_6_w, ↓r54_7_w, ↓s54_8_w, ↓s54_9_w, ↓s54_10_w, ↓r54_11_w, ↓s54_12_w, ↓s54_13_w, onV_some', brK_true, ne_eq, Nat.reduceEqDiff, Nat.reduceAdd, not_false_eq_true, Addr.add_lit, Int.toNat_natCast, ↓e5, ↓a1, ↓b1, d14', d0]))
        exact hK _ _ h' (hne _ pne) XX
      · repeat' (first | done | with_reducible (first | refine y1 ?_ (by omega) | refine y2 ?_ (by omega) | refine y3 (fun _ => ?_) (fun _ => ?_) | refine y4 ?_ (by omega) (by omega) | refine y5 ?_ (by omega) | refine y6 ?_ (by with_unfolding_all rfl) | refine y7 ?_ (by with_unfolding_all rfl) | refine y8 ?_ (by with_unfolding_all rfl) | refine y9 ?_ (by with_unfolding_all rfl) | refine ya ?_ (by with_unfolding_all rfl)) | (simp -dsimp only [↓cw_skip, ↓cw_ops, ↓cw_seq, ↓cw_block, ↓cw_cond, ↓seqK_normal, ↓blockK_normal, ↓loopK_normal, ↓getK_same, ↓getK_ne, ↓evK_tmp, ↓evK_int, ↓condV_var, ↓opsW_nil, ↓opsW_d, ↓opW_move, ↓opW_assign, ↓opW_bin, ↓bin_add, ↓bin_lss, ↓bin_gtr, ↓ld1_some, ↓fldA_some, ↓idxS_some, ↓lenS_some, ↓fa_25_14, ↓ld_23, ↓len_23, ↓ia_23, ↓ld_80, ↓len_80, ↓r54_2_w, ↓s54_3_w, ↓s54_6_w, ↓r54_7_w, ↓s54_8_w, ↓s54_9_w, ↓s54_10_w, ↓r54_11_w, ↓s54_12_w, ↓s54_13_w, onV_some', brK_true, brK_false, true_and, ne_eq, Nat.reduceEqDiff, Nat.reduceAdd, not_false_eq_true, Addr.add_lit, Int.toNat_natCast, Bool.false_eq_true,  ↓e5, ↓a1, ↓b1, d14', d0]))
        exact ⟨l.length - (k + 1), by omega, k + 1, by omega, rfl, by simp [T.get_set, wrap_succ (show k ≤ 4611686018427387904 by omega)]⟩
    · repeat' (first | done | with_reducible (first | refine y1 ?_ (by omega) | refine y2 ?_ (by omega) | refine y3 (fun _ => ?_) (fun _ => ?_) | refine y4 ?_ (by omega) (by omega) | refine y5 ?_ (by omega) | refine y6 ?_ (by with_unfolding_all rfl) | refine y7 ?_ (by with_unfolding_all rfl) | refine y8 ?_ (by with_unfolding_all rfl) | refine y9 ?_ (by with_unfolding_all rfl) | refine ya ?_ (by with_unfolding_all rfl)) | (simp -dsimp only [↓cw_ops, ↓cw_seq, ↓cw_exit, ↓cw_ret, ↓cw_cond, ↓seqK_normal, ↓seqK_exit, ↓blockK_same, ↓loopK_exit, ↓getK_same, ↓getK_ne, ↓evK_tmp, ↓evK_int, ↓evK_string, ↓condV_var, ↓opsW_nil, ↓opsW_d, ↓opW_move, ↓opW_assign, ↓opW_bin, ↓bin_lss, ↓ld1_some, ↓fldA_some, ↓lenS_some, ↓resK_two, ↓fa_25_14, ↓ld_23, ↓len_23, ↓r54_0_w, ↓s54_1_w, ↓s54_10_w, ↓r54_11_w, ↓s54_12_w, ↓s54_13_w, onV_some', brK_false, ne_eq, Nat.reduceEqDiff, Nat.reduceAdd, not_false_eq_true, Addr.add_lit, Bool.false_eq_true,  ↓e5, ↓a1, ↓b1, d14]))
      exact hK _ _ h' (fun _ => ok) XX
theorem may_ret {B : Nat} {c : CfgD} {l : List PrgD} {h : Heap} {K : Value → Heap → Prop} (hB : B ≤ h.n) (hp : Progs B h c l)
    (hK : ∀ e h', (e = 0 → CfgOK c) → ExtB h.n h h' → K (.int .i64 e) h') : Ret env (.func 26) [.agg ⟨c.cells⟩] h K := by
  refine F26 rfl ?_
  repeat' (first | done | with_reducible (first | refine y1 ?_ (by omega) | refine y2 ?_ (by omega) | refine y3 (fun _ => ?_) (fun _ => ?_) | refine y4 ?_ (by omega) (by omega) | refine y5 ?_ (by omega) | refine y6 ?_ (by with_unfolding_all rfl) | refine y7 ?_ (by with_unfolding_all rfl) | refine y8 ?_ (by with_unfolding_all rfl) | refine y9 ?_ (by with_unfolding_all rfl) | refine ya ?_ (by with_unfolding_all rfl)) | (simp -dsimp only [↓cw_ops, ↓cw_seq, ↓seqK_normal, ↓getK_same, ↓getK_ne, ↓evK_tmp, ↓evK_int, ↓opsW_nil, ↓opsW_d, ↓opW_assign, ↓ldN_some, ↓setAll_cons, ↓setAll_nil, ↓opW_box, ↓box_agg, ↓ld_25, ↓r26_14_w, ↓s26_15_w, ↓r26_16_w, ↓s26_17_w, true_and, ne_eq, Nat.reduceEqDiff, not_false_eq_true, c.one]))
  have V := CBox.new h c 25
  have X : ExtB h.n h (newBlk h (.cells c.cells 25 true)) := ExtB.new _ (Nat.le_refl _)
  have hn1 : (newBlk h (.cells c.cells 25 true)).n = h.n + 1 := rfl
  generalize newBlk h (.cells c.cells 25 true) = h1 at V X hn1 ⊢
  have dv := V.all
  repeat' (first | done | with_reducible (first | refine y1 ?_ (by omega) | refine y2 ?_ (by omega) | refine y3 (fun _ => ?_) (fun _ => ?_) | refine y4 ?_ (by omega) (by omega) | refine y5 ?_ (by omega) | refine y6 ?_ (by with_unfolding_all rfl) | refine y7 ?_ (by with_unfolding_all rfl) | refine y8 ?_ (by with_unfolding_all rfl) | refine y9 ?_ (by with_unfolding_all rfl) | refine ya ?_ (by with_unfolding_all rfl)) | (simp -dsimp only [↓getK_same, ↓evK_tmp, ↓opsW_d, ↓evs_nil, ↓evs_cons, ↓opW_call, onV_some', dv]))
  refine wrong_ret (B := B) (by omega) (hp.ext (X.mono hB)) fun s i h2 hs X2 => ?_
  have XX := X.trans (X2.mono (by omega))
  by_cases h0 : s = ByteArray.empty
  · have h0' : s = ⟨⟨[]⟩⟩ := h0
    repeat' (first | done | with_reducible (first | refine y1 ?_ (by omega) | refine y2 ?_ (by omega) | refine y3 (fun _ => ?_) (fun _ => ?_) | refine y4 ?_ (by omega) (by omega) | refine y5 ?_ (by omega) | refine y6 ?_ (by with_unfolding_all rfl) | refine y7 ?_ (by with_unfolding_all rfl) | refine y8 ?_ (by with_unfolding_all rfl) | refine y9 ?_ (by with_unfolding_all rfl) | refine ya ?_ (by with_unfolding_all rfl)) | (simp -dsimp only [↓cw_ops, ↓cw_seq, ↓cw_ret, ↓cw_cond, ↓seqK_normal, ↓seqK_ret, ↓getK_same, ↓getK_ne, ↓evK_tmp, ↓evK_int, ↓evK_string, ↓condV_var, ↓opsW_nil, ↓opsW_d, ↓opW_move, ↓opW_assign, ↓opW_bin, ↓resK_one, ↓bin_eqlS, ↓opW_extract, ↓ext_tuple, ↓r26_8_w, ↓s26_9_w, ↓s26_10_w, ↓r26_11_w, ↓s26_12_w, ↓s26_13_w, List.getElem?_cons_zero, List.getElem?_cons_succ, onV_some', brK_true, ne_eq, Nat.reduceEqDiff, not_false_eq_true]))
    exact hK _ h2 (fun _ => hs h0) XX
  · have h0' : s ≠ ⟨⟨[]⟩⟩ := h0
    by_cases hi : i < 0
    · repeat' (first | done | with_reducible (first | refine y1 ?_ (by omega) | refine y2 ?_ (by omega) | refine y3 (fun _ => ?_) (fun _ => ?_) | refine y4 ?_ (by omega) (by omega) | refine y5 ?_ (by omega) | refine y6 ?_ (by with_unfolding_all rfl) | refine y7 ?_ (by with_unfolding_all rfl) | refine y8 ?_ (by with_unfolding_all rfl) | refine y9 ?_ (by with_unfolding_all rfl) | refine ya ?_ (by with_unfolding_all rfl)) | (simp -dsimp only [↓cw_skip, ↓cw_ops, ↓cw_seq, ↓cw_ret, ↓cw_cond, ↓seqK_normal, ↓seqK_ret, ↓getK_same, ↓getK_ne, ↓evK_tmp, ↓evK_int, ↓evK_string, ↓condV_var, ↓opsW_nil, ↓opsW_d, ↓opW_move, ↓opW_assign, ↓opW_bin, ↓bin_lss, ↓resK_one, ↓bin_eqlS, ↓opW_extract, ↓ext_tuple, ↓r26_2_w, ↓s26_3_w, ↓s26_4_w, ↓r26_5_w, ↓s26_6_w, ↓s26_7_w, ↓s26_10_w, ↓r26_11_w, ↓s26_12_w, ↓s26_13_w, List.getElem?_cons_zero, List.getElem?_cons_succ, onV_some', brK_true, brK_false, ne_eq, Nat.reduceEqDiff, not_false_eq_true, Bool.false_eq_true,  h0']))
      exact hK _ h2 (fun e => by cases e) XX
    · repeat' (first | done | with_reducible (first | refine y1 ?_ (by omega) | refine y2 ?_ (by omega) | refine y3 (fun _ => ?_) (fun _ => ?_) | refine y4 ?_ (by omega) (by omega) | refine y5 ?_ (by omega) | refine y6 ?_ (by with_unfolding_all rfl) | refine y7 ?_ (by with_unfolding_all rfl) | refine y8 ?_ (by with_unfolding_all rfl) | refine y9 ?_ (by with_unfolding_all rfl) | refine ya ?_ (by with_unfolding_all rfl)) | (simp -dsimp only [↓cw_skip, ↓cw_ops, ↓cw_seq, ↓cw_ret, ↓cw_cond, ↓seqK_normal, ↓getK_same, ↓getK_ne, ↓evK_tmp, ↓evK_int, ↓evK_string, ↓condV_var, ↓opsW_nil, ↓opsW_d, ↓opW_move, ↓opW_assign, ↓opW_bin, ↓bin_lss, ↓resK_one, ↓bin_eqlS, ↓opW_extract, ↓ext_tuple, ↓r26_0_w, ↓s26_1_w, ↓s26_4_w, ↓r26_5_w, ↓s26_6_w, ↓s26_7_w, ↓s26_10_w, ↓r26_11_w, ↓s26_12_w, ↓s26_13_w, List.getElem?_cons_zero, List.getElem?_cons_succ, onV_some', brK_false, ne_eq, Nat.reduceEqDiff, not_false_eq_true, Bool.false_eq_true,  h0']))
      exact hK _ h2 (fun e => by cases e) XX
def plens (l : List PrgD) (k : Nat) : Nat := ((l.take k).map PrgD.n).sum
theorem few_ret {B : Nat} {c : CfgD} {l : List PrgD} {h : Heap} {K : Value → Heap → Prop} (hB : B ≤ h.n) (hp : Progs B h c l)
    (hK : ∀ b h', ExtB h.n h h' → K (.bool b) h') : Ret env (.func 15) [.agg ⟨c.cells⟩] h K := by
  obtain ⟨hs1, hs2⟩ := hp.small
  have hpn := hp.len
  refine F15 rfl ?_
  repeat' (first | done | with_reducible (first | refine y1 ?_ (by omega) | refine y2 ?_ (by omega) | refine y3 (fun _ => ?_) (fun _ => ?_) | refine y4 ?_ (by omega) (by omega) | refine y5 ?_ (by omega) | refine y6 ?_ (by with_unfolding_all rfl) | refine y7 ?_ (by with_unfolding_all rfl) | refine y8 ?_ (by with_unfolding_all rfl) | refine y9 ?_ (by with_unfolding_all rfl) | refine ya ?_ (by with_unfolding_all rfl)) | (simp -dsimp only [↓cw_ops, ↓cw_seq, ↓cw_block, ↓seqK_normal, ↓getK_same, ↓evK_tmp, ↓evK_int, ↓evK_bool, ↓opsW_nil, ↓opsW_d, ↓opW_assign, ↓setAll_cons, ↓setAll_nil, ↓opW_box, ↓box_agg, ↓s15_11_w, ↓s15_12_w, ↓r15_13_w, ↓s15_14_w, ↓s15_15_w, ↓r15_16_w, ↓s15_17_w, ↓r15_18_w, ↓s15_19_w, true_and, c.one]))
  have V := CBox.new h c 25
  have X : ExtB h.n h (newBlk h (.cells c.cells 25 true)) := ExtB.new _ (Nat.le_refl _)
  have hn1 : (newBlk h (.cells c.cells 25 true)).n = h.n + 1 := rfl
  generalize newBlk h (.cells c.cells 25 true) = h1 at V X hn1 ⊢
  have d14 := V.get 14 _ rfl
  have d2 := V.get 2 _ rfl
  rw [hpn] at d14
  have hrow := (hp.ext (X.mono hB)).row
  refine cw_loopI (fun m fr' h' => h1 = h' ∧ ∃ k : Nat, k ≤ 17 ∧ k ≤ l.length ∧ m = 17 - k ∧ fr'.get 4 = some (.int .i64 k) ∧ ∃ s : Nat, s ≤ k * 281474976710656 ∧ fr'.get 3 = some (.int .i64 s)) 17 ?_ (by omega) ?_
  · exact ⟨rfl, 0, by omega, by omega, by omega, by simp [T.get_set], 0, by omega, by simp [T.get_set]⟩
  rintro m fr2 h' ⟨rfl, k, hk, hk2, rfl, f4, s, hs, f3⟩ hag
  have e4 := getK_of f4
  have e3 := getK_of f3
  have a1 := getK_eq (hag 1 rfl)
  by_cases hlt : k < l.length
  · by_cases hk16 : k ≤ 16
    · obtain ⟨b0, off, hra, hb, dd⟩ := hrow k (by simpa using hlt)
      simp only [List.getElem_map, PrgD.cells] at dd
      have d0 := cellAt_of dd (j := 0) rfl
      simp only [Nat.add_zero] at d0
      have d14' := d14
      rw [hra] at d14'
      have hsm := hs2 _ (List.getElem_mem hlt)
      have ws : IntKind.wrap .i64 ((s : Int) + (l[k].n : Int)) = ((s + l[k].n : Nat) : Int) := by rw [wrap_i64 (by omega) (by omega)]; omega
      repeat' (first | done | with_reducible (first | refine y1 ?_ (by omega) | refine y2 ?_ (by omega) | refine y3 (fun _ => ?_) (fun _ => ?_) | refine y4 ?_ (by omega) (by omega) | refine y5 ?_ (by omega) | refine y6 ?_ (by with_unfolding_all rfl) | refine y7 ?_ (by with_unfolding_all rfl) | refine y8 ?_ (by with_unfolding_all rfl) | refine y9 ?_ (by with_unfolding_all rfl) | refine ya ?_ (by with_unfolding_all rfl)) | (simp -dsimp only [↓cw_skip, ↓cw_ops, ↓cw_seq, ↓cw_block, ↓cw_cond, ↓seqK_normal, ↓blockK_normal, ↓loopK_normal, ↓getK_same, ↓getK_ne, ↓evK_tmp, ↓evK_int, ↓condV_var, ↓gdV_var, ↓opsW_nil, ↓opsW_d, ↓opsW_gd, ↓opW_move, ↓opW_assign, ↓opW_pick, ↓opW_bin, ↓bin_add, ↓bin_lss, ↓bin_leq, ↓ld1_some, ↓fldA_some, ↓idxS_some, ↓lenS_some, ↓fa_25_14, ↓ld_23, ↓len_23, ↓ia_23, ↓ld_80, ↓len_80, ↓r15_2_w, ↓s15_3_w, ↓r15_4_w, ↓s15_5_w, ↓s15_6_w, ↓s15_7_w, ↓r15_8_w, ↓s15_9_w, ↓s15_10_w, onV_some', brK_true, true_and, ne_eq, Nat.reduceEqDiff, Nat.reduceAdd, not_false_eq_true, Addr.add_lit, Int.toNat_natCast, ↓e4, ↓e3, ↓a1, d14', d0, ws]))
      exact ⟨17 - (k + 1), by omega, k + 1, by omega, by omega, rfl, by simp [T.get_set, wrap_succ (show k ≤ 4611686018427387904 by omega)], s + l[k].n, by omega, by simp [T.get_set]⟩
    · repeat' (first | done | with_reducible (first | refine y1 ?_ (by omega) | refine y2 ?_ (by omega) | refine y3 (fun _ => ?_) (fun _ => ?_) | refine y4 ?_ (by omega) (by omega) | refine y5 ?_ (by omega) | refine y6 ?_ (by with_unfolding_all rfl) | refine y7 ?_ (by with_unfolding_all rfl) | refine y8 ?_ (by with_unfolding_all rfl) | refine y9 ?_ (by with_unfolding_all rfl) | refine ya ?_ (by with_unfolding_all rfl)) | (simp -dsimp only [↓cw_ops, ↓cw_seq, ↓cw_exit, ↓cw_ret, ↓cw_cond, ↓seqK_normal, ↓seqK_exit, ↓blockK_same, ↓loopK_exit, ↓getK_same, ↓getK_ne, ↓evK_tmp, ↓evK_int, ↓evK_bool, ↓condV_var, ↓gdV_var, ↓opsW_nil, ↓opsW_d, ↓opsW_gd, ↓opW_move, ↓opW_assign, ↓opW_pick, ↓opW_bin, ↓bin_lss, ↓bin_leq, ↓ld1_some, ↓fldA_some, ↓lenS_some, ↓resK_one, ↓ld_3, ↓fa_25_2, ↓fa_25_14, ↓ld_23, ↓len_23, ↓r15_0_w, ↓s15_1_w, ↓s15_7_w, ↓r15_8_w, ↓s15_9_w, ↓s15_10_w, onV_some', brK_true, brK_false, ne_eq, Nat.reduceEqDiff, Nat.reduceAdd, not_false_eq_true, Addr.add_lit, Bool.false_eq_true,  ↓e4, ↓a1, d14, d2]))
      all_goals exact hK _ h1 X
  · repeat' (first | done | with_reducible (first | refine y1 ?_ (by omega) | refine y2 ?_ (by omega) | refine y3 (fun _ => ?_) (fun _ => ?_) | refine y4 ?_ (by omega) (by omega) | refine y5 ?_ (by omega) | refine y6 ?_ (by with_unfolding_all rfl) | refine y7 ?_ (by with_unfolding_all rfl) | refine y8 ?_ (by with_unfolding_all rfl) | refine y9 ?_ (by with_unfolding_all rfl) | refine ya ?_ (by with_unfolding_all rfl)) | (simp -dsimp only [↓cw_ops, ↓cw_seq, ↓cw_exit, ↓cw_ret, ↓cw_cond, ↓seqK_normal, ↓seqK_exit, ↓blockK_same, ↓loopK_exit, ↓getK_same, ↓getK_ne, ↓evK_tmp, ↓evK_int, ↓evK_bool, ↓condV_var, ↓gdV_var, ↓opsW_nil, ↓opsW_d, ↓opsW_gd, ↓opW_move, ↓opW_assign, ↓opW_pick, ↓opW_bin, ↓bin_lss, ↓bin_leq, ↓ld1_some, ↓fldA_some, ↓lenS_some, ↓resK_one, ↓ld_3, ↓fa_25_2, ↓fa_25_14, ↓ld_23, ↓len_23, ↓r15_0_w, ↓s15_1_w, ↓s15_7_w, ↓r15_8_w, ↓s15_9_w, ↓s15_10_w, onV_some', brK_true, brK_false, ne_eq, Nat.reduceEqDiff, Nat.reduceAdd, not_false_eq_true, Addr.add_lit, Bool.false_eq_true,  ↓e4, ↓e3, ↓a1, d14, d2]))
    all_goals exact hK _ h1 X
end Go.Proofs.Ytdjnedamphifcaa

