/- The map of who stands where, and how one more is counted. Conditions: each theorem's own. -/
import Derived.Test.YtdjnedamphifcaaWG
set_option linter.unusedSimpArgs false
set_option linter.unusedVariables false
namespace Go.Proofs.Ytdjnedamphifcaa
open Go.Ev
set_option maxRecDepth 100000
set_option maxHeartbeats 400000
/-! the map of who stands where -/
def kvI (n : Int) : Value := .int .i64 n
theorem und3 : und env 3 = some (.int .i64) := by kernel_rfl
theorem und67 : und env 67 = some (.map 3 71) := by kernel_rfl
theorem zero71 : zero env 71 = some (.agg ⟨[.int .i64 0, .int .i64 0, .int .i64 0]⟩) := by kernel_rfl
theorem keyI : KeyOK env 3 kvI where
  und := ⟨_, und3, fun a b => by simp [keyOk, akeyEq, kvI]; rfl⟩
  chk := fun a => by simp [acheck, und3, kvI]
  same := fun a => by simp [sameV, kvI]
def stv (q r t : Nat) : Value := .agg ⟨[.int .i64 q, .int .i64 r, .int .i64 t]⟩
def CMf (Q R S : List Int) (g : Int) : Option Value := if g ∈ Q ∨ g ∈ R ∨ g ∈ S then some (stv (Q.count g) (R.count g) (S.count g)) else none
theorem CMf_get (Q R S : List Int) (g : Int) : (CMf Q R S g).getD (.agg ⟨[.int .i64 0, .int .i64 0, .int .i64 0]⟩) = stv (Q.count g) (R.count g) (S.count g) := by
  unfold CMf
  split
  · rfl
  · rename_i h
    simp only [not_or] at h
    rw [List.count_eq_zero.2 h.1, List.count_eq_zero.2 h.2.1, List.count_eq_zero.2 h.2.2]; rfl
theorem CMf_q (Q R S : List Int) (g k : Int) : (if k = g then some (stv (Q.count g + 1) (R.count g) (S.count g)) else CMf Q R S k) = CMf (Q ++ [g]) R S k := by
  unfold CMf
  by_cases h : k = g
  · subst h; simp [List.count_append]
  · simp [h, List.count_append, Ne.symm h]
theorem CMf_r (Q R S : List Int) (g k : Int) : (if k = g then some (stv (Q.count g) (R.count g + 1) (S.count g)) else CMf Q R S k) = CMf Q (R ++ [g]) S k := by
  unfold CMf
  by_cases h : k = g
  · subst h; simp [List.count_append]
  · simp [h, List.count_append, Ne.symm h]
theorem CMf_t (Q R S : List Int) (g k : Int) : (if k = g then some (stv (Q.count g) (R.count g) (S.count g + 1)) else CMf Q R S k) = CMf Q R (S ++ [g]) k := by
  unfold CMf
  by_cases h : k = g
  · subst h; simp [List.count_append]
  · simp [h, List.count_append, Ne.symm h]

/-! the closures that add one -/
def IncOK (f : FuncId) (dq dr dt : Nat) : Prop := ∀ (x q r t : Nat) (h : Heap) (K : Value → Heap → Prop), q ≤ 1000 → r ≤ 1000 → t ≤ 1000 → x < h.n → h.b.get x = some (.cells [.int .i64 q, .int .i64 r, .int .i64 t] 71 true) →
  (∀ v, K v { h with b := h.b.set x (.cells [.int .i64 (q + dq : Nat), .int .i64 (r + dr : Nat), .int .i64 (t + dt : Nat)] 71 true) }) → Ret env (.func f) [.pointer (some ⟨x, 0, none⟩)] h K
theorem inc44 : IncOK 44 1 0 0 := by
  intro x q r t h K hq hr ht hx hb hK
  have c0 := cellAt_blk (off := 0) hx hb rfl
  refine F44 rfl ?_
  repeat' (first | done | ((with_reducible refine brK_yes ?_ ?_); (· omega)) | ((with_reducible refine brK_no ?_ ?_); (· omega)) | (with_reducible refine brK_both (fun _ => ?_) (fun _ => ?_)) | ((with_reducible refine And.intro (And.intro ?_ ?_) ?_); (· omega); (· omega)) | ((with_reducible refine And.intro ?_ ?_); (· omega)) | ((with_reducible refine st_newM ?_ ?_); (· rfl)) | ((with_reducible refine bs_oneM ?_ ?_); (· rfl)) | (with_reducible refine bd_of (by with_unfolding_all (simp only [fillL_cons, fillL_nil, nth_eq, blt_eq, cond_beq, over, Value.cells, List.getElem?_cons_zero, List.getElem?_cons_succ, List.length_cons, List.length_nil, Nat.reduceAdd, Nat.reduceSub, Nat.reduceLT, Nat.reduceEqDiff, decide_true, cond_true, Option.map_some, if_true, if_false, Nat.add_one_sub_one, Nat.succ_ne_zero, reduceCtorEq, OfNat.ofNat]; rfl)) ?_) | (with_reducible refine bda_of (by with_unfolding_all rfl) ?_) | (simp -dsimp only [↓cw_ops, ↓getK_same, ↓getK_ne, ↓evK_tmp, ↓evK_int, ↓opsW_d, ↓opsW_n, ↓opW_move, ↓opW_bin, ↓bin_add, ↓ld1_some, ↓fldA_some, ↓setAll_cons, ↓setAll_nil, ↓opW_nilCheck, ↓ld_3, ↓fa_71_0, ↓st_3, ↓r44_0_w, ↓s44_1_w, onV_some', ne_eq, Nat.reduceEqDiff, not_false_eq_true, Nat.add_zero, Addr.add_lit, c0, wrap_succ (show q ≤ 4611686018427387904 by omega)]))
  refine st_at (off := 0) (cs' := [.int .i64 (q + 1 : Nat), .int .i64 r, .int .i64 t]) hb rfl rfl rfl rfl (by decide) ?_
  repeat' (first | done | ((with_reducible refine brK_yes ?_ ?_); (· omega)) | ((with_reducible refine brK_no ?_ ?_); (· omega)) | (with_reducible refine brK_both (fun _ => ?_) (fun _ => ?_)) | ((with_reducible refine And.intro (And.intro ?_ ?_) ?_); (· omega); (· omega)) | ((with_reducible refine And.intro ?_ ?_); (· omega)) | ((with_reducible refine st_newM ?_ ?_); (· rfl)) | ((with_reducible refine bs_oneM ?_ ?_); (· rfl)) | (with_reducible refine bd_of (by with_unfolding_all (simp only [fillL_cons, fillL_nil, nth_eq, blt_eq, cond_beq, over, Value.cells, List.getElem?_cons_zero, List.getElem?_cons_succ, List.length_cons, List.length_nil, Nat.reduceAdd, Nat.reduceSub, Nat.reduceLT, Nat.reduceEqDiff, decide_true, cond_true, Option.map_some, if_true, if_false, Nat.add_one_sub_one, Nat.succ_ne_zero, reduceCtorEq, OfNat.ofNat]; rfl)) ?_) | (with_reducible refine bda_of (by with_unfolding_all rfl) ?_) | (simp -dsimp only [↓opsW_nil, ↓resK_nil]))
  exact hK _
theorem inc48 : IncOK 48 0 1 0 := by
  intro x q r t h K hq hr ht hx hb hK
  have c0 := cellAt_blk (off := 1) hx hb rfl
  refine F48 rfl ?_
  repeat' (first | done | ((with_reducible refine brK_yes ?_ ?_); (· omega)) | ((with_reducible refine brK_no ?_ ?_); (· omega)) | (with_reducible refine brK_both (fun _ => ?_) (fun _ => ?_)) | ((with_reducible refine And.intro (And.intro ?_ ?_) ?_); (· omega); (· omega)) | ((with_reducible refine And.intro ?_ ?_); (· omega)) | ((with_reducible refine st_newM ?_ ?_); (· rfl)) | ((with_reducible refine bs_oneM ?_ ?_); (· rfl)) | (with_reducible refine bd_of (by with_unfolding_all (simp only [fillL_cons, fillL_nil, nth_eq, blt_eq, cond_beq, over, Value.cells, List.getElem?_cons_zero, List.getElem?_cons_succ, List.length_cons, List.length_nil, Nat.reduceAdd, Nat.reduceSub, Nat.reduceLT, Nat.reduceEqDiff, decide_true, cond_true, Option.map_some, if_true, if_false, Nat.add_one_sub_one, Nat.succ_ne_zero, reduceCtorEq, OfNat.ofNat]; rfl)) ?_) | (with_reducible refine bda_of (by with_unfolding_all rfl) ?_) | (simp -dsimp only [↓cw_ops, ↓getK_same, ↓getK_ne, ↓evK_tmp, ↓evK_int, ↓opsW_d, ↓opsW_n, ↓opW_move, ↓opW_bin, ↓bin_add, ↓ld1_some, ↓fldA_some, ↓setAll_cons, ↓setAll_nil, ↓opW_nilCheck, ↓ld_3, ↓st_3, ↓fa_71_1, ↓r48_0_w, ↓s48_1_w, onV_some', ne_eq, Nat.reduceEqDiff, Nat.reduceAdd, not_false_eq_true, Addr.add_lit, c0, wrap_succ (show r ≤ 4611686018427387904 by omega)]))
  refine st_at (off := 1) (cs' := [.int .i64 q, .int .i64 (r + 1 : Nat), .int .i64 t]) hb rfl rfl rfl rfl (by decide) ?_
  repeat' (first | done | ((with_reducible refine brK_yes ?_ ?_); (· omega)) | ((with_reducible refine brK_no ?_ ?_); (· omega)) | (with_reducible refine brK_both (fun _ => ?_) (fun _ => ?_)) | ((with_reducible refine And.intro (And.intro ?_ ?_) ?_); (· omega); (· omega)) | ((with_reducible refine And.intro ?_ ?_); (· omega)) | ((with_reducible refine st_newM ?_ ?_); (· rfl)) | ((with_reducible refine bs_oneM ?_ ?_); (· rfl)) | (with_reducible refine bd_of (by with_unfolding_all (simp only [fillL_cons, fillL_nil, nth_eq, blt_eq, cond_beq, over, Value.cells, List.getElem?_cons_zero, List.getElem?_cons_succ, List.length_cons, List.length_nil, Nat.reduceAdd, Nat.reduceSub, Nat.reduceLT, Nat.reduceEqDiff, decide_true, cond_true, Option.map_some, if_true, if_false, Nat.add_one_sub_one, Nat.succ_ne_zero, reduceCtorEq, OfNat.ofNat]; rfl)) ?_) | (with_reducible refine bda_of (by with_unfolding_all rfl) ?_) | (simp -dsimp only [↓opsW_nil, ↓resK_nil]))
  exact hK _
theorem inc52 : IncOK 52 0 0 1 := by
  intro x q r t h K hq hr ht hx hb hK
  have c0 := cellAt_blk (off := 2) hx hb rfl
  refine F52 rfl ?_
  repeat' (first | done | ((with_reducible refine brK_yes ?_ ?_); (· omega)) | ((with_reducible refine brK_no ?_ ?_); (· omega)) | (with_reducible refine brK_both (fun _ => ?_) (fun _ => ?_)) | ((with_reducible refine And.intro (And.intro ?_ ?_) ?_); (· omega); (· omega)) | ((with_reducible refine And.intro ?_ ?_); (· omega)) | ((with_reducible refine st_newM ?_ ?_); (· rfl)) | ((with_reducible refine bs_oneM ?_ ?_); (· rfl)) | (with_reducible refine bd_of (by with_unfolding_all (simp only [fillL_cons, fillL_nil, nth_eq, blt_eq, cond_beq, over, Value.cells, List.getElem?_cons_zero, List.getElem?_cons_succ, List.length_cons, List.length_nil, Nat.reduceAdd, Nat.reduceSub, Nat.reduceLT, Nat.reduceEqDiff, decide_true, cond_true, Option.map_some, if_true, if_false, Nat.add_one_sub_one, Nat.succ_ne_zero, reduceCtorEq, OfNat.ofNat]; rfl)) ?_) | (with_reducible refine bda_of (by with_unfolding_all rfl) ?_) | (simp -dsimp only [↓cw_ops, ↓getK_same, ↓getK_ne, ↓evK_tmp, ↓evK_int, ↓opsW_d, ↓opsW_n, ↓opW_move, ↓opW_bin, ↓bin_add, ↓ld1_some, ↓fldA_some, ↓setAll_cons, ↓setAll_nil, ↓opW_nilCheck, ↓ld_3, ↓st_3, ↓fa_71_2, ↓r52_0_w, ↓s52_1_w, onV_some', ne_eq, Nat.reduceEqDiff, Nat.reduceAdd, not_false_eq_true, Addr.add_lit, c0, wrap_succ (show t ≤ 4611686018427387904 by omega)]))
  refine st_at (off := 2) (cs' := [.int .i64 q, .int .i64 r, .int .i64 (t + 1 : Nat)]) hb rfl rfl rfl rfl (by decide) ?_
  repeat' (first | done | ((with_reducible refine brK_yes ?_ ?_); (· omega)) | ((with_reducible refine brK_no ?_ ?_); (· omega)) | (with_reducible refine brK_both (fun _ => ?_) (fun _ => ?_)) | ((with_reducible refine And.intro (And.intro ?_ ?_) ?_); (· omega); (· omega)) | ((with_reducible refine And.intro ?_ ?_); (· omega)) | ((with_reducible refine st_newM ?_ ?_); (· rfl)) | ((with_reducible refine bs_oneM ?_ ?_); (· rfl)) | (with_reducible refine bd_of (by with_unfolding_all (simp only [fillL_cons, fillL_nil, nth_eq, blt_eq, cond_beq, over, Value.cells, List.getElem?_cons_zero, List.getElem?_cons_succ, List.length_cons, List.length_nil, Nat.reduceAdd, Nat.reduceSub, Nat.reduceLT, Nat.reduceEqDiff, decide_true, cond_true, Option.map_some, if_true, if_false, Nat.add_one_sub_one, Nat.succ_ne_zero, reduceCtorEq, OfNat.ofNat]; rfl)) ?_) | (with_reducible refine bda_of (by with_unfolding_all rfl) ?_) | (simp -dsimp only [↓opsW_nil, ↓resK_nil]))
  exact hK _

/-- add -/
theorem add_ret {f : FuncId} {dq dr dt : Nat} (hi : IncOK f dq dr dt) {Q R S : List Int} {g : Int} {c r : Nat} {h : Heap} {K : Value → Heap → Prop} (hm : MapAt kvI h r (CMf Q R S)) (hc : c < h.n) (hcr : cellAt h ⟨c, 0, none⟩ = some (.map (some r))) (hne : c ≠ r)
    (hq : Q.length ≤ 1000) (hr : R.length ≤ 1000) (ht : S.length ≤ 1000)
    (hK : ∀ v h', MapAt kvI h' r (fun k => if k = g then some (stv (Q.count g + dq) (R.count g + dr) (S.count g + dt)) else CMf Q R S k) → h.n ≤ h'.n → (∀ j, j < h.n → j ≠ r → h'.b.get j = h.b.get j) → K v h') :
    Ret env (.func 43) [.int .i64 g, .func (.func f) ⟨[]⟩ ⟨[]⟩, .pointer (some ⟨c, 0, none⟩)] h K := by
  have q1 : Q.count g ≤ 1000 := Nat.le_trans List.count_le_length hq
  have r1 : R.count g ≤ 1000 := Nat.le_trans List.count_le_length hr
  have t1 : S.count g ≤ 1000 := Nat.le_trans List.count_le_length ht
  refine F43 rfl ?_
  repeat' (first | done | ((with_reducible refine brK_yes ?_ ?_); (· omega)) | ((with_reducible refine brK_no ?_ ?_); (· omega)) | (with_reducible refine brK_both (fun _ => ?_) (fun _ => ?_)) | ((with_reducible refine And.intro (And.intro ?_ ?_) ?_); (· omega); (· omega)) | ((with_reducible refine And.intro ?_ ?_); (· omega)) | ((with_reducible refine st_newM ?_ ?_); (· rfl)) | ((with_reducible refine bs_oneM ?_ ?_); (· rfl)) | (with_reducible refine bd_of (by with_unfolding_all (simp only [fillL_cons, fillL_nil, nth_eq, blt_eq, cond_beq, over, Value.cells, List.getElem?_cons_zero, List.getElem?_cons_succ, List.length_cons, List.length_nil, Nat.reduceAdd, Nat.reduceSub, Nat.reduceLT, Nat.reduceEqDiff, decide_true, cond_true, Option.map_some, if_true, if_false, Nat.add_one_sub_one, Nat.succ_ne_zero, reduceCtorEq, OfNat.ofNat]; rfl)) ?_) | (with_reducible refine bda_of (by with_unfolding_all rfl) ?_) | (simp -dsimp only [↓cw_ops, ↓cw_seq, ↓getK_same, ↓getK_ne, ↓evK_tmp, ↓opsW_d, ↓opW_move, ↓ld1_some, ↓setAll_cons, ↓setAll_nil, ↓opW_lookup, ↓ld_67, ↓r43_4_w, ↓s43_5_w, onV_some', ne_eq, Nat.reduceEqDiff, Nat.reduceAdd, not_false_eq_true, Nat.one_ne_zero, hcr]))
  refine look_map (kv := kvI) (k := g) hm und67 keyI zero71 ?_
  rw [CMf_get]
  simp only [stv]
  repeat' (first | done | ((with_reducible refine brK_yes ?_ ?_); (· omega)) | ((with_reducible refine brK_no ?_ ?_); (· omega)) | (with_reducible refine brK_both (fun _ => ?_) (fun _ => ?_)) | ((with_reducible refine And.intro (And.intro ?_ ?_) ?_); (· omega); (· omega)) | ((with_reducible refine And.intro ?_ ?_); (· omega)) | ((with_reducible refine st_newM ?_ ?_); (· rfl)) | ((with_reducible refine bs_oneM ?_ ?_); (· rfl)) | (with_reducible refine bd_of (by with_unfolding_all (simp only [fillL_cons, fillL_nil, nth_eq, blt_eq, cond_beq, over, Value.cells, List.getElem?_cons_zero, List.getElem?_cons_succ, List.length_cons, List.length_nil, Nat.reduceAdd, Nat.reduceSub, Nat.reduceLT, Nat.reduceEqDiff, decide_true, cond_true, Option.map_some, if_true, if_false, Nat.add_one_sub_one, Nat.succ_ne_zero, reduceCtorEq, OfNat.ofNat]; rfl)) ?_) | (with_reducible refine bda_of (by with_unfolding_all rfl) ?_) | (simp -dsimp only [↓cw_ops, ↓cw_seq, ↓seqK_normal, ↓getK_same, ↓getK_ne, ↓evK_tmp, ↓opsW_nil, ↓opsW_d, ↓opsW_n, ↓opW_move, ↓evs_nil, ↓evs_cons, ↓opW_callV, ↓setAll_cons, ↓setAll_nil, ↓callV_some, ↓al_71, ↓st_71, ↓r43_2_w, ↓s43_3_w, ne_eq, Nat.reduceEqDiff, Nat.reduceAdd, not_false_eq_true]))
  refine hi h.n _ _ _ (newBlk h _) _ q1 r1 t1 (by simp [newBlk]) (newBlk_same _ _) fun v => ?_
  have hh : ∀ (A B : List Value), ({ newBlk h (.cells A 71 true) with b := (newBlk h (.cells A 71 true)).b.set h.n (.cells B 71 true) } : Heap) = newBlk h (.cells B 71 true) := fun A B => by simp [newBlk, T.set_set]
  rw [hh]
  have hm' : ∀ b, MapAt kvI (newBlk h b) r (CMf Q R S) := fun b => hm.ext (by simp [newBlk]) (newBlk_old _ hm.1)
  repeat' (first | done | ((with_reducible refine brK_yes ?_ ?_); (· omega)) | ((with_reducible refine brK_no ?_ ?_); (· omega)) | (with_reducible refine brK_both (fun _ => ?_) (fun _ => ?_)) | ((with_reducible refine And.intro (And.intro ?_ ?_) ?_); (· omega); (· omega)) | ((with_reducible refine And.intro ?_ ?_); (· omega)) | ((with_reducible refine st_newM ?_ ?_); (· rfl)) | ((with_reducible refine bs_oneM ?_ ?_); (· rfl)) | (with_reducible refine bd_of (by with_unfolding_all (simp only [fillL_cons, fillL_nil, nth_eq, blt_eq, cond_beq, over, Value.cells, List.getElem?_cons_zero, List.getElem?_cons_succ, List.length_cons, List.length_nil, Nat.reduceAdd, Nat.reduceSub, Nat.reduceLT, Nat.reduceEqDiff, decide_true, cond_true, Option.map_some, if_true, if_false, Nat.add_one_sub_one, Nat.succ_ne_zero, reduceCtorEq, OfNat.ofNat]; rfl)) ?_) | (with_reducible refine bda_of (by with_unfolding_all rfl) ?_) | (simp -dsimp only [↓cw_ops, ↓seqK_normal, ↓getK_same, ↓getK_ne, ↓evK_tmp, ↓opsW_nil, ↓opsW_d, ↓opsW_n, ↓opW_move, ↓ld1_some, ↓ldN_some, ↓setAll_cons, ↓setAll_nil, ↓opW_mapUpdate, ↓ld_71, ↓ld_67, ↓r43_0_w, ↓s43_1_w, cellAt_newO, cellsAt_newE, List.length_cons, List.length_nil, onV_some', ne_eq, Nat.reduceEqDiff, Nat.reduceAdd, not_false_eq_true, Nat.one_ne_zero, hcr, hc]))
  refine upd_map (kv := kvI) (k := g) (hm' _) und67 keyI fun b m2 => ?_
  repeat' (first | done | ((with_reducible refine brK_yes ?_ ?_); (· omega)) | ((with_reducible refine brK_no ?_ ?_); (· omega)) | (with_reducible refine brK_both (fun _ => ?_) (fun _ => ?_)) | ((with_reducible refine And.intro (And.intro ?_ ?_) ?_); (· omega); (· omega)) | ((with_reducible refine And.intro ?_ ?_); (· omega)) | ((with_reducible refine st_newM ?_ ?_); (· rfl)) | ((with_reducible refine bs_oneM ?_ ?_); (· rfl)) | (with_reducible refine bd_of (by with_unfolding_all (simp only [fillL_cons, fillL_nil, nth_eq, blt_eq, cond_beq, over, Value.cells, List.getElem?_cons_zero, List.getElem?_cons_succ, List.length_cons, List.length_nil, Nat.reduceAdd, Nat.reduceSub, Nat.reduceLT, Nat.reduceEqDiff, decide_true, cond_true, Option.map_some, if_true, if_false, Nat.add_one_sub_one, Nat.succ_ne_zero, reduceCtorEq, OfNat.ofNat]; rfl)) ?_) | (with_reducible refine bda_of (by with_unfolding_all rfl) ?_) | (simp -dsimp only [↓opsW_nil, ↓resK_nil, newBlk_n]))
  refine hK _ _ m2 (by simp []) fun j hj hjr => ?_
  simp only [newBlk]
  rw [T.get_set_ne _ _ (Ne.symm hjr), T.get_set_ne _ _ (by omega)]
end Go.Proofs.Ytdjnedamphifcaa
