/- 'counted': the rings. Conditions: each theorem's own. -/
import Derived.Test.YtdjnedamphifcaaWK
set_option linter.unusedSimpArgs false
set_option linter.unusedVariables false
namespace Go.Proofs.Ytdjnedamphifcaa
open Go.Ev
set_option maxRecDepth 100000
set_option maxHeartbeats 400000
theorem RowAt.frame {α : Type} [DecidableEq α] {kv : α → Value} {f : α → Option Value} {B r sz : Nat} {h h' : Heap} {a : Option Addr} {rows : List (List Value)} (ra : RowAt B h a sz rows) (hz : sz ≠ 0) (m : MapAt kv h r f) (hn : h.n ≤ h'.n) (hf : ∀ j, j < h.n → j ≠ r → h'.b.get j = h.b.get j) : RowAt B h' a sz rows := by
  intro i hi
  obtain ⟨b, off, e1, e2, e3⟩ := ra i hi
  refine ⟨b, off, e1, e2, ?_⟩
  obtain ⟨_, M, c, hm, _⟩ := m
  have h0 : Nat.beq sz 0 = false := by cases hs : Nat.beq sz 0 with | true => exact absurd (Nat.eq_of_beq_eq_true hs) hz | false => rfl
  unfold cellsAt at e3 ⊢
  simp only [h0, cond_false] at e3 ⊢
  cases hlt : Nat.blt b h.n with
  | false => rw [hlt] at e3; cases e3
  | true =>
    rw [hlt] at e3
    have hb : b < h.n := by rw [blt_eq, decide_eq_true_eq] at hlt; exact hlt
    have hne : b ≠ r := by rintro rfl; simp only [cond_true, hm] at e3; cases e3
    have hlt' : Nat.blt b h'.n = true := by rw [blt_eq, decide_eq_true_eq]; omega
    rw [hlt', hf b hb hne]
    exact e3
theorem rings_phase2 {B i c r : Nat} {h : Heap} {a : VA} {d : ViewD} {Q R : List Int} {fr : Fr} {b : Bool} {Kr : Ex → Fr → Heap → Prop} (ho : OnceP d) (x : CI B i c r h a d Q R []) (cf : CF fr i c) (f3 : fr.get 3 = some (.bool b)) (hQ : Q.length ≤ 8) (hR : R.length ≤ 8)
    (hsl : sameV 50 (.slice a.la d.global.length a.lc) (.slice a.la d.global.length a.lc) = true)
    (hK : ∀ fr' h', CI B i c r h' a d (Q ++ (ringsOf d ++ d.global)) R [] → ExtB r h h' → CF fr' i c → fr'.get 3 = some (.bool b) → s21_19.wp env 102 none fr' h' Kr) : s21_35.wp env 102 none fr h Kr := by
  have hl := ho.rings
  have hsum := ho.sum
  have f1 := getK_of cf.f1
  have d7 := x.V.get 7 _ rfl
  have d10 := x.V.get 10 _ rfl
  have hin := x.V.lt
  have hrn0 := x.m.1
  have hsl' : (sameV 50 (.slice a.la d.global.length a.lc) (.slice a.la d.global.length a.lc) = true) = True := by simp [hsl]
  repeat' (first | done | ((with_reducible refine brK_yes ?_ ?_); (· omega)) | ((with_reducible refine brK_no ?_ ?_); (· omega)) | (with_reducible refine brK_both (fun _ => ?_) (fun _ => ?_)) | ((with_reducible refine And.intro (And.intro ?_ ?_) ?_); (· omega); (· omega)) | ((with_reducible refine And.intro ?_ ?_); (· omega)) | ((with_reducible refine st_newM ?_ ?_); (· rfl)) | ((with_reducible refine bs_oneM ?_ ?_); (· rfl)) | (with_reducible refine bd_of (by with_unfolding_all (simp only [fillL_cons, fillL_nil, nth_eq, blt_eq, cond_beq, over, Value.cells, List.getElem?_cons_zero, List.getElem?_cons_succ, List.length_cons, List.length_nil, Nat.reduceAdd, Nat.reduceSub, Nat.reduceLT, Nat.reduceEqDiff, decide_true, cond_true, Option.map_some, if_true, if_false, Nat.add_one_sub_one, Nat.succ_ne_zero, reduceCtorEq, OfNat.ofNat]; rfl)) ?_) | (with_reducible refine bda_of (by with_unfolding_all rfl) ?_) | (simp -dsimp only [↓cw_plan, ↓cw_seq, ↓getK_same, ↓getK_ne, ↓evK_tmp, ↓evK_int, ↓planW_d, ↓agK_nil, ↓opW_move, ↓ld1_some, ↓fldA_some, ↓evs_nil, ↓evs_cons, ↓opW_call, ↓evp_nil, ↓evp_cons, ↓fa_45_5, ↓fa_42_5, ↓ld_38, ↓fa_42_2, ↓ld_39, ↓bsl_39_1, ↓p21_33_w, ↓s21_34_w, ↓s21_35_w, newBlk_n, onV_some', Nat.le_refl, true_and, ne_eq, Nat.reduceEqDiff, Nat.reduceAdd, not_false_eq_true, Addr.add_lit, ↓f1, d7, d10]))
  have hBn : B ≤ h.n := by have := x.m.1; have := x.hB; omega
  have X1 : ExtB h.n h (newBlk h (.cells [.slice a.la d.global.length a.lc] 38 true)) := ExtB.new _ (Nat.le_refl _)
  have hb1 : (newBlk h (.cells [.slice a.la d.global.length a.lc] 38 true)).b.get h.n = some (.cells [.slice a.la d.global.length a.lc] 38 true) := newBlk_same _ _
  have hn1 : (newBlk h (.cells [.slice a.la d.global.length a.lc] 38 true)).n = h.n + 1 := rfl
  have d10' : cellAt (newBlk h (.cells [.slice a.la d.global.length a.lc] 38 true)) ⟨i, 10, none⟩ = some (.slice a.la d.global.length a.lc) := by rw [cellAt_newO hin]; exact d10
  have he : Blk.cells (Value.slice a.la d.global.length a.lc).cells.toList 38 true = .cells [.slice a.la d.global.length a.lc] 38 true := rfl
  rw [he]
  generalize newBlk h (.cells [.slice a.la d.global.length a.lc] 38 true) = h1 at X1 hb1 hn1 d10' ⊢
  have hl1 : (d.rings.map RingD.cells).length = d.rings.length := List.length_map ..
  rw [← hl1]
  have hone : ∀ l : List RingD, ((l.map RingD.cells).flatten).all oneCell = true := by
    intro l
    induction l with
    | nil => rfl
    | cons y l ih => simp only [List.map_cons, List.flatten_cons, List.all_append, ih, Bool.and_true]; rfl
  have hrow : ∀ l : List RingD, ∀ y ∈ l.map RingD.cells, y.length = 1 := by intro l y hy; obtain ⟨u, _, rfl⟩ := List.mem_map.1 hy; rfl
  refine clone_ret (B := B) (by rw [hl1]; omega) (by omega) ((x.ok.ext (X1.mono hBn)).rings) (hrow _) (hone _) fun v2 h2 o2 x2 => ?_
  have hn2 := x2.n
  have X2 : ExtB h.n h h2 := X1.trans (x2.mono (by omega))
  have dq := cellAt_ext x2 (by omega) d10'
  have hb2 : h2.b.get h.n = some (.cells [.slice a.la d.global.length a.lc] 38 true) := (x2.get _ (by omega)).trans hb1
  refine ⟨hn2, ?_, ?_⟩
  · repeat' (first | done | ((with_reducible refine brK_yes ?_ ?_); (· omega)) | ((with_reducible refine brK_no ?_ ?_); (· omega)) | (with_reducible refine brK_both (fun _ => ?_) (fun _ => ?_)) | ((with_reducible refine And.intro (And.intro ?_ ?_) ?_); (· omega); (· omega)) | ((with_reducible refine And.intro ?_ ?_); (· omega)) | ((with_reducible refine st_newM ?_ ?_); (· rfl)) | ((with_reducible refine bs_oneM ?_ ?_); (· rfl)) | (with_reducible refine bd_of (by with_unfolding_all (simp only [fillL_cons, fillL_nil, nth_eq, blt_eq, cond_beq, over, Value.cells, List.getElem?_cons_zero, List.getElem?_cons_succ, List.length_cons, List.length_nil, Nat.reduceAdd, Nat.reduceSub, Nat.reduceLT, Nat.reduceEqDiff, decide_true, cond_true, Option.map_some, if_true, if_false, Nat.add_one_sub_one, Nat.succ_ne_zero, reduceCtorEq, OfNat.ofNat]; rfl)) ?_) | (with_reducible refine bda_of (by with_unfolding_all rfl) ?_) | (simp -dsimp only [↓getK_same, ↓getK_ne, ↓evK_tmp, ↓agK_nil, ↓ld1_some, ↓agK_load, ↓agV_same, ↓agV_ne, ↓agl_38, onV_some', and_true, ne_eq, Nat.reduceEqDiff, Nat.reduceAdd, not_false_eq_true, Addr.add_lit, dq, hsl']))
  repeat' (first | done | ((with_reducible refine brK_yes ?_ ?_); (· omega)) | ((with_reducible refine brK_no ?_ ?_); (· omega)) | (with_reducible refine brK_both (fun _ => ?_) (fun _ => ?_)) | ((with_reducible refine And.intro (And.intro ?_ ?_) ?_); (· omega); (· omega)) | ((with_reducible refine And.intro ?_ ?_); (· omega)) | ((with_reducible refine st_newM ?_ ?_); (· rfl)) | ((with_reducible refine bs_oneM ?_ ?_); (· rfl)) | (with_reducible refine bd_of (by with_unfolding_all (simp only [fillL_cons, fillL_nil, nth_eq, blt_eq, cond_beq, over, Value.cells, List.getElem?_cons_zero, List.getElem?_cons_succ, List.length_cons, List.length_nil, Nat.reduceAdd, Nat.reduceSub, Nat.reduceLT, Nat.reduceEqDiff, decide_true, cond_true, Option.map_some, if_true, if_false, Nat.add_one_sub_one, Nat.succ_ne_zero, reduceCtorEq, OfNat.ofNat]; rfl)) ?_) | (with_reducible refine bda_of (by with_unfolding_all rfl) ?_) | (simp -dsimp only [↓getK_same, ↓getK_ne, ↓evK_tmp, ↓planW_d, ↓ap_39_39, ne_eq, Nat.reduceEqDiff, not_false_eq_true]))
  refine app_ownG (m := 1) (new := [.slice a.la d.global.length a.lc]) o2 hn2 (by rw [flat_len _ (hrow _)]) rfl (by rw [hl1]; omega) (fun _ => ?_) rfl rfl (by decide) fun v3 h3 o3 x3 => ?_
  · simp only [firstCells]
    exact cellsAt_blk (by omega) hb2 rfl rfl
  have hfl : (d.rings.map RingD.cells).flatten ++ [.slice a.la d.global.length a.lc] = ((d.rings ++ [(⟨a.la, a.lc, d.global⟩ : RingD)]).map RingD.cells).flatten := by
    simp only [List.map_append, List.flatten_append, List.map_cons, List.map_nil, List.flatten_cons, List.flatten_nil, List.append_nil, RingD.cells]
  rw [hfl] at o3
  obtain ⟨a3, c3, rfl, r3⟩ := OwnS.rowAt o3 (hrow _) (by simp)
  have hn3 := x3.n
  have X3 : ExtB h.n h h3 := X2.trans (x3.mono (by omega))
  generalize hRR : d.rings ++ [(⟨a.la, a.lc, d.global⟩ : RingD)] = RR at r3 ⊢
  have hRl : RR.length = d.rings.length + 1 := by rw [← hRR]; simp
  have hRf : (RR.map RingD.l).flatten = ringsOf d ++ d.global := by rw [← hRR]; simp [ringsOf]
  have hLlen : (ringsOf d ++ d.global).length ≤ 200 := by
    have := ringsUp_len ho d.rings.length
    have h2 : (ringsOf d).length = (d.rings.map (·.l.length)).sum := by unfold ringsOf; rw [List.length_flatten, List.map_map]; rfl
    rw [List.length_append]; omega
  have ok3 := x.ok.ext (X3.mono hBn)
  simp only [List.length_map]
  repeat' (first | done | ((with_reducible refine brK_yes ?_ ?_); (· omega)) | ((with_reducible refine brK_no ?_ ?_); (· omega)) | (with_reducible refine brK_both (fun _ => ?_) (fun _ => ?_)) | ((with_reducible refine And.intro (And.intro ?_ ?_) ?_); (· omega); (· omega)) | ((with_reducible refine And.intro ?_ ?_); (· omega)) | ((with_reducible refine st_newM ?_ ?_); (· rfl)) | ((with_reducible refine bs_oneM ?_ ?_); (· rfl)) | (with_reducible refine bd_of (by with_unfolding_all (simp only [fillL_cons, fillL_nil, nth_eq, blt_eq, cond_beq, over, Value.cells, List.getElem?_cons_zero, List.getElem?_cons_succ, List.length_cons, List.length_nil, Nat.reduceAdd, Nat.reduceSub, Nat.reduceLT, Nat.reduceEqDiff, decide_true, cond_true, Option.map_some, if_true, if_false, Nat.add_one_sub_one, Nat.succ_ne_zero, reduceCtorEq, OfNat.ofNat]; rfl)) ?_) | (with_reducible refine bda_of (by with_unfolding_all rfl) ?_) | (simp -dsimp only [↓getK_same, ↓evK_tmp, ↓planW_d, ↓agK_nil, ↓evs_nil, ↓evs_cons, ↓opW_call, true_and]))
  refine concat_ret (B := h3.n) (R := RR) (by omega) (by rw [hRf]; omega) (Nat.le_refl _) r3 (fun y hy => ?_) fun a4 c4 h4 r4 x4 => ?_
  · rw [← hRR] at hy
    rcases List.mem_append.1 hy with hy | hy
    · exact (ok3.ring y hy).mono (by omega)
    · simp only [List.mem_singleton] at hy
      subst hy
      exact ok3.global.mono (by omega)
  rw [hRf] at r4 ⊢
  have hn4 := x4.n
  have X4 : ExtB h.n h h4 := X3.trans (x4.mono (by omega))
  have x5 := x.ext X4
  generalize hLL : ringsOf d ++ d.global = L at r4 hLlen hK ⊢
  refine ⟨hn4, by repeat' (first | done | ((with_reducible refine brK_yes ?_ ?_); (· omega)) | ((with_reducible refine brK_no ?_ ?_); (· omega)) | (with_reducible refine brK_both (fun _ => ?_) (fun _ => ?_)) | ((with_reducible refine And.intro (And.intro ?_ ?_) ?_); (· omega); (· omega)) | ((with_reducible refine And.intro ?_ ?_); (· omega)) | ((with_reducible refine st_newM ?_ ?_); (· rfl)) | ((with_reducible refine bs_oneM ?_ ?_); (· rfl)) | (with_reducible refine bd_of (by with_unfolding_all (simp only [fillL_cons, fillL_nil, nth_eq, blt_eq, cond_beq, over, Value.cells, List.getElem?_cons_zero, List.getElem?_cons_succ, List.length_cons, List.length_nil, Nat.reduceAdd, Nat.reduceSub, Nat.reduceLT, Nat.reduceEqDiff, decide_true, cond_true, Option.map_some, if_true, if_false, Nat.add_one_sub_one, Nat.succ_ne_zero, reduceCtorEq, OfNat.ofNat]; rfl)) ?_) | (with_reducible refine bda_of (by with_unfolding_all rfl) ?_) | (simp -dsimp only [↓agK_nil])), ?_⟩
  repeat' (first | done | ((with_reducible refine brK_yes ?_ ?_); (· omega)) | ((with_reducible refine brK_no ?_ ?_); (· omega)) | (with_reducible refine brK_both (fun _ => ?_) (fun _ => ?_)) | ((with_reducible refine And.intro (And.intro ?_ ?_) ?_); (· omega); (· omega)) | ((with_reducible refine And.intro ?_ ?_); (· omega)) | ((with_reducible refine st_newM ?_ ?_); (· rfl)) | ((with_reducible refine bs_oneM ?_ ?_); (· rfl)) | (with_reducible refine bd_of (by with_unfolding_all (simp only [fillL_cons, fillL_nil, nth_eq, blt_eq, cond_beq, over, Value.cells, List.getElem?_cons_zero, List.getElem?_cons_succ, List.length_cons, List.length_nil, Nat.reduceAdd, Nat.reduceSub, Nat.reduceLT, Nat.reduceEqDiff, decide_true, cond_true, Option.map_some, if_true, if_false, Nat.add_one_sub_one, Nat.succ_ne_zero, reduceCtorEq, OfNat.ofNat]; rfl)) ?_) | (with_reducible refine bda_of (by with_unfolding_all rfl) ?_) | (simp -dsimp only [↓cw_block, ↓seqK_normal, ↓getK_same, ↓evK_tmp, ↓planW_nil, ↓planW_d, ↓agK_nil, ↓lenS_some, ↓len_38, ↓s21_31_w, ↓s21_32_w, Nat.le_refl, true_and, Nat.reduceAdd, Addr.add_lit]))
  refine cw_loopI (fun n fr' h' => ∃ k : Nat, k ≤ L.length ∧ n = L.length - k ∧ fr'.get 68 = some (.int .i64 k) ∧ CI B i c r h' a d (Q ++ L.take k) R [] ∧ ExtB r h4 h' ∧ RowAt h4.n h' a4 1 (L.map intCells)) L.length ?_ (by omega) ?_
  · exact ⟨0, by omega, by omega, by simp [T.get_set], by simpa using x5, ExtB.refl _ _, r4⟩
  rintro n fr2 h' ⟨k, hk, rfl, gk, x, X, rL⟩ hag
  have ek := getK_of gk
  have gt : ∀ t, s21_30.wr t = false → t < 50 → fr2.get t = fr.get t := fun t ht hlt => (hag t ht).trans (by simp only [T.get_set]; repeat' (first | rfl | (rw [if_neg (by omega)])))
  have b4 := getK_of ((gt 4 rfl (by decide)).trans cf.f4)
  have b5 := getK_of ((gt 5 rfl (by decide)).trans cf.f5)
  have b66 := getK_eq (hag 66 rfl)
  have b67 := getK_eq (hag 67 rfl)
  by_cases hlt : k < L.length
  · obtain ⟨b0, off, hra, hb, dd⟩ := rL k (by simpa using hlt)
    simp only [List.getElem_map, intCells] at dd
    have d0 := cellAt_of dd (j := 0) rfl
    simp only [Nat.add_zero] at d0
    rw [hra] at b66
    have hs : Q ++ L.take (k + 1) = (Q ++ L.take k) ++ [L[k]] := by rw [List.take_succ_eq_append_getElem hlt, List.append_assoc]
    repeat' (first | done | ((with_reducible refine brK_yes ?_ ?_); (· omega)) | ((with_reducible refine brK_no ?_ ?_); (· omega)) | (with_reducible refine brK_both (fun _ => ?_) (fun _ => ?_)) | ((with_reducible refine And.intro (And.intro ?_ ?_) ?_); (· omega); (· omega)) | ((with_reducible refine And.intro ?_ ?_); (· omega)) | ((with_reducible refine st_newM ?_ ?_); (· rfl)) | ((with_reducible refine bs_oneM ?_ ?_); (· rfl)) | (with_reducible refine bd_of (by with_unfolding_all (simp only [fillL_cons, fillL_nil, nth_eq, blt_eq, cond_beq, over, Value.cells, List.getElem?_cons_zero, List.getElem?_cons_succ, List.length_cons, List.length_nil, Nat.reduceAdd, Nat.reduceSub, Nat.reduceLT, Nat.reduceEqDiff, decide_true, cond_true, Option.map_some, if_true, if_false, Nat.add_one_sub_one, Nat.succ_ne_zero, reduceCtorEq, OfNat.ofNat]; rfl)) ?_) | (with_reducible refine bda_of (by with_unfolding_all rfl) ?_) | (simp -dsimp only [↓cw_skip, ↓cw_ops, ↓cw_seq, ↓cw_block, ↓cw_cond, ↓seqK_normal, ↓getK_same, ↓getK_ne, ↓evK_tmp, ↓condV_var, ↓opsW_nil, ↓opsW_d, ↓opW_move, ↓opW_assign, ↓opW_bin, ↓bin_lss, ↓ld1_some, ↓idxS_some, ↓evs_nil, ↓evs_cons, ↓opW_callV, ↓callV_some, ↓ld_3, ↓ia_38, ↓r21_22_w, ↓s21_23_w, ↓r21_24_w, ↓s21_25_w, ↓s21_26_w, ↓s21_27_w, ↓s21_28_w, ↓r21_29_w, ↓s21_30_w, onV_some', brK_true, ne_eq, Nat.reduceEqDiff, not_false_eq_true, Addr.add_lit, Int.toNat_natCast, ↓ek, ↓b4, ↓b5, ↓b66, ↓b67, d0]))
    refine add_ret inc44 x.m (Nat.lt_trans x.hc x.m.1) x.cm (by have := x.hc; omega) (by simp; omega) (by omega) (by simp) fun v h5 m5 hn5 hf5 => ?_
    have m6 := m5.congr (CMf_q _ _ _ _)
    rw [← hs] at m6
    obtain ⟨x6, e6⟩ := x.upd hn5 hf5 m6
    repeat' (first | done | ((with_reducible refine brK_yes ?_ ?_); (· omega)) | ((with_reducible refine brK_no ?_ ?_); (· omega)) | (with_reducible refine brK_both (fun _ => ?_) (fun _ => ?_)) | ((with_reducible refine And.intro (And.intro ?_ ?_) ?_); (· omega); (· omega)) | ((with_reducible refine And.intro ?_ ?_); (· omega)) | ((with_reducible refine st_newM ?_ ?_); (· rfl)) | ((with_reducible refine bs_oneM ?_ ?_); (· rfl)) | (with_reducible refine bd_of (by with_unfolding_all (simp only [fillL_cons, fillL_nil, nth_eq, blt_eq, cond_beq, over, Value.cells, List.getElem?_cons_zero, List.getElem?_cons_succ, List.length_cons, List.length_nil, Nat.reduceAdd, Nat.reduceSub, Nat.reduceLT, Nat.reduceEqDiff, decide_true, cond_true, Option.map_some, if_true, if_false, Nat.add_one_sub_one, Nat.succ_ne_zero, reduceCtorEq, OfNat.ofNat]; rfl)) ?_) | (with_reducible refine bda_of (by with_unfolding_all rfl) ?_) | (simp -dsimp only [↓cw_ops, ↓seqK_normal, ↓blockK_normal, ↓loopK_normal, ↓getK_same, ↓getK_ne, ↓evK_tmp, ↓evK_int, ↓opsW_nil, ↓opsW_d, ↓opW_move, ↓opW_bin, ↓bin_add, ↓r21_20_w, ↓s21_21_w, ne_eq, Nat.reduceEqDiff, not_false_eq_true, Addr.add_lit, Int.toNat_natCast, ↓ek]))
    exact ⟨L.length - (k + 1), by omega, k + 1, by omega, rfl, by simp [T.get_set, wrap_succ (show k ≤ 4611686018427387904 by omega)], x6, X.trans e6, RowAt.frame rL (by decide) x.m hn5 hf5⟩
  · have e : k = L.length := by omega
    subst e
    rw [List.take_length] at x
    repeat' (first | done | ((with_reducible refine brK_yes ?_ ?_); (· omega)) | ((with_reducible refine brK_no ?_ ?_); (· omega)) | (with_reducible refine brK_both (fun _ => ?_) (fun _ => ?_)) | ((with_reducible refine And.intro (And.intro ?_ ?_) ?_); (· omega); (· omega)) | ((with_reducible refine And.intro ?_ ?_); (· omega)) | ((with_reducible refine st_newM ?_ ?_); (· rfl)) | ((with_reducible refine bs_oneM ?_ ?_); (· rfl)) | (with_reducible refine bd_of (by with_unfolding_all (simp only [fillL_cons, fillL_nil, nth_eq, blt_eq, cond_beq, over, Value.cells, List.getElem?_cons_zero, List.getElem?_cons_succ, List.length_cons, List.length_nil, Nat.reduceAdd, Nat.reduceSub, Nat.reduceLT, Nat.reduceEqDiff, decide_true, cond_true, Option.map_some, if_true, if_false, Nat.add_one_sub_one, Nat.succ_ne_zero, reduceCtorEq, OfNat.ofNat]; rfl)) ?_) | (with_reducible refine bda_of (by with_unfolding_all rfl) ?_) | (simp -dsimp only [↓cw_ops, ↓cw_seq, ↓cw_exit, ↓cw_cond, ↓seqK_normal, ↓seqK_exit, ↓blockK_same, ↓loopK_exit, ↓getK_same, ↓evK_tmp, ↓condV_var, ↓opsW_nil, ↓opsW_d, ↓opW_bin, ↓bin_lss, ↓s21_27_w, ↓s21_28_w, ↓r21_29_w, ↓s21_30_w, brK_false, Bool.false_eq_true,  ↓ek, ↓b67]))
    refine hK _ h' x ((X4.mono (Nat.le_of_lt hrn0)).trans X) (cf.of ?_ ?_ ?_ ?_ ?_) ?_
    · simp only [T.get_set]; simpa using gt 1 rfl (by decide)
    · simp only [T.get_set]; simpa using gt 2 rfl (by decide)
    · simp only [T.get_set]; simpa using gt 4 rfl (by decide)
    · simp only [T.get_set]; simpa using gt 5 rfl (by decide)
    · simp only [T.get_set]; simpa using gt 6 rfl (by decide)
    · simp only [T.get_set]; simpa using (gt 3 rfl (by decide)).trans f3
end Go.Proofs.Ytdjnedamphifcaa
