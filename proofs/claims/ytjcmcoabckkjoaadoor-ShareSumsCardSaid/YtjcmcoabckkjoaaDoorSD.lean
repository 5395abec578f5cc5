/- Rows of numbers; the reference's sum, walked. Conditions: each theorem's own. -/
import Derived.Test.YtjcmcoabckkjoaaDoorSK
set_option linter.unusedSimpArgs false
set_option linter.unusedVariables false
namespace Go.Proofs.YtjcmcoabckkjoaaDoor
open Go.Ev
set_option maxRecDepth 100000
set_option maxHeartbeats 400000
theorem slice_from1 {E : Env} {t : TypeId} {sz : Nat} {a : Option Addr} {n : Nat} {k : IntKind} {K : Value → Prop} (hs : slzOf E t = some sz) (hz : sz ≠ 0)
    (q0 : n = 0 → K (.slice a 0 UNK2)) (q : 0 < n → K (.slice (a.map (·.add sz)) n UNK)) : sliceVK E t (.slice a (n + 1) UNK) (some (.int k 1)) none none K := by
  unfold slzOf at hs
  split at hs
  · rename_i e hu
    unfold sliceVK
    have hb : abounds (n + 1) (n + 1) (some (.int k 1)) none none = some (1, n + 1, n + 1) := by
      have h1 : (decide ((0 : Int) ≤ 1) && decide ((1 : Int) ≤ ((n + 1 : Nat) : Int))) = true := by
        simp only [Bool.and_eq_true, decide_eq_true_eq]; omega
      simp only [abounds, aboundsM, aboundsL, bound, h1, cond_true]
      rfl
    have hne : Nat.beq UNK UNK2 = false := by decide +kernel
    have heq : Nat.beq UNK UNK = true := by decide +kernel
    cases sz with
    | zero => exact absurd rfl hz
    | succ m =>
      by_cases h0 : n = 0
      · subst h0
        have : asliceS E t (.slice a 1 UNK) (some (.int k 1)) none none = some (.slice a 0 UNK2) := by
          simp only [asliceS, hu, hne, heq, cond_false, cond_true, hs]
          rw [show abounds 1 1 (some (.int k 1)) none none = some (1, 1, 1) from hb]
          rfl
        rw [this]; simp only [onV_some]; exact q0 rfl
      · have : asliceS E t (.slice a (n + 1) UNK) (some (.int k 1)) none none = some (.slice (a.map (·.add (m + 1))) n UNK) := by
          simp only [asliceS, hu, hne, heq, cond_false, cond_true, hs, hb]
          have e1 : Nat.beq 1 0 = false := rfl
          have e2 : Nat.beq 1 (n + 1) = false := beq_ne (by omega)
          simp only [e1, e2, cond_false, Nat.one_mul, Nat.add_sub_cancel]
        rw [this]; simp only [onV_some]; exact q (by omega)
  · cases hs
/-- a row of numbers -/
structure FR (h : Heap) (a : Option Addr) (c : Nat) (l : List Value) : Prop where
  row : RowAt h.n h a 1 (l.map fun v => [v])
  c : c = UNK ∨ l = []
  fb : ∀ v ∈ l, FB v
  len : l.length ≤ 100
theorem FR.ext {h h' : Heap} {a : Option Addr} {c : Nat} {l : List Value} (r : FR h a c l) (e : ExtB h.n h h') : FR h' a c l := ⟨(r.row.ext e).mono e.n, r.c, r.fb, r.len⟩
theorem FR.at {h : Heap} {a : Option Addr} {c : Nat} {l : List Value} (r : FR h a c l) {k : Nat} (hk : k < l.length) : ∃ b off, a = some ⟨b, off, none⟩ ∧ b < h.n ∧ cellAt h ⟨b, off + k * 1, none⟩ = some l[k] := by
  obtain ⟨b, off, e, hb, d⟩ := r.row k (by simpa using hk)
  have d := cellAt_of d (j := 0) (by simp only [List.getElem_map]; rfl)
  exact ⟨b, off, e, hb, d⟩
theorem FR.isF {h : Heap} {a : Option Addr} {c : Nat} {l : List Value} (r : FR h a c l) {k : Nat} (hk : k < l.length) : isF l[k] = true := (r.fb _ (List.getElem_mem hk)).isF
theorem flat_one (l : List Value) : (l.map fun v => [v]).flatten = l := by
  induction l with
  | nil => rfl
  | cons v l ih => simp [ih]
theorem FR.of {B : Nat} {h : Heap} {v : Value} {l : List Value} (o : OwnS B h 27 v l.length l) (fb : ∀ v ∈ l, FB v) (len : l.length ≤ 100) : ∃ a c, v = .slice a l.length c ∧ FR h a c l := by
  have h1 : ∀ c (a : Option Addr), v = .slice a l.length c → c = UNK ∨ l = [] := by
    have key : ∀ (n : Nat) (w : Value) (l : List Value), OwnS B h 27 w n l → n = l.length → ∀ c (a : Option Addr) m, w = .slice a m c → c = UNK ∨ l = [] := by
      intro n w l o hn c a m e
      cases o with
      | nil => exact .inr rfl
      | emp i hi => exact .inr rfl
      | row i n cs h1 h2 h3 => cases e; exact .inl rfl
    exact fun c a e => key _ _ _ o rfl c a _ e
  have o : OwnS B h 27 v l.length (l.map fun v => [v]).flatten := by rw [flat_one]; exact o
  obtain ⟨a, c, e, r⟩ := OwnS.rowAt (rows := l.map fun v => [v]) o (sz := 1) (by intro r hr; obtain ⟨x, _, rfl⟩ := List.mem_map.1 hr; rfl) (by simp [flat_one])
  rw [List.length_map] at e
  exact ⟨a, c, e, r, h1 _ _ e, fb, len⟩

def addV : Value → Value → Value := fA .add
theorem addV_def : fA .add = addV := rfl
def sumV : List Value → Value
  | [] => .float .f64 0
  | v :: l => l.foldl addV v
theorem addV_FB {v w : Value} (hv : FB v) (hw : FB w) : FB (addV v w) := fA_FB rfl hv hw
theorem foldl_FB : ∀ {l : List Value} {v : Value}, FB v → (∀ x ∈ l, FB x) → FB (l.foldl addV v)
  | [], v, hv, _ => hv
  | x :: l, v, hv, h => foldl_FB (l := l) (v := addV v x) (addV_FB hv (h x List.mem_cons_self)) fun y hy => h y (List.mem_cons_of_mem _ hy)
theorem FB0 : FB (.float .f64 0) := .inr ⟨0, by decide, rfl⟩
theorem sumV_FB : ∀ {l : List Value}, (∀ x ∈ l, FB x) → FB (sumV l)
  | [], _ => FB0
  | v :: l, h => foldl_FB (h v List.mem_cons_self) fun y hy => h y (List.mem_cons_of_mem _ hy)
theorem foldl_take {l : List Value} {v : Value} {k : Nat} (hk : k < l.length) : (l.take (k + 1)).foldl addV v = addV ((l.take k).foldl addV v) l[k] := by
  rw [List.take_succ_eq_append_getElem hk, List.foldl_append]; rfl

theorem refSum_ret {a : Option Addr} {c : Nat} {l : List Value} {h : Heap} {K : Value → Heap → Prop} (r : FR h a c l) (hK : K (sumV l) h) : Ret env (.func 11) [.slice a l.length c] h K := by
  refine F11 rfl ?_
  cases l with
  | nil =>
    repeat' (first | done | ((with_reducible refine brK_yes ?_ ?_); (· omega)) | ((with_reducible refine brK_no ?_ ?_); (· omega)) | (with_reducible refine brK_both (fun _ => ?_) (fun _ => ?_)) | ((with_reducible refine And.intro (And.intro ?_ ?_) ?_); (· omega); (· omega)) | ((with_reducible refine And.intro ?_ ?_); (· omega)) | (with_reducible refine And.intro (show List.all _ oneCell = true from rfl) ?_) | ((with_reducible refine st_newM ?_ ?_); (· rfl)) | ((with_reducible refine bs_oneM ?_ ?_); (· rfl)) | (with_reducible refine bd_of (by with_unfolding_all (simp only [fillL_cons, fillL_nil, nth_eq, blt_eq, cond_beq, over, Value.cells, List.getElem?_cons_zero, List.getElem?_cons_succ, List.length_cons, List.length_nil, Nat.reduceAdd, Nat.reduceSub, Nat.reduceLT, Nat.reduceEqDiff, decide_true, cond_true, Option.map_some, if_true, if_false, Nat.add_one_sub_one, Nat.succ_ne_zero, reduceCtorEq, OfNat.ofNat]; rfl)) ?_) | (with_reducible refine bda_of (by with_unfolding_all rfl) ?_) | (simp -dsimp only [↓cw_skip, ↓cw_ops, ↓cw_plan, ↓cw_seq, ↓cw_block, ↓cw_exit, ↓cw_ret, ↓cw_cond, ↓seqK_normal, ↓seqK_exit, ↓seqK_ret, ↓blockK_normal, ↓blockK_ret, ↓blockK_same, ↓blockK_ne, ↓loopK_normal, ↓loopK_exit, ↓loopK_ret, ↓getK_same, ↓getK_ne, ↓getK_leaf, ↓evK_tmp, ↓evK_int, ↓evK_bool, ↓evK_string, ↓evK_float, ↓evK_nilptr, ↓evK_nilslice, ↓evK_nilmap, ↓evK_nilFunc, ↓evK_nilIface, ↓evK_func, ↓condV_true, ↓condV_false, ↓condV_var, ↓gdV_tt, ↓gdV_tf, ↓gdV_ft, ↓gdV_ff, ↓gdV_var, ↓gdV_undef, ↓opsW_nil, ↓opsW_d, ↓opsW_n, ↓opsW_gd, ↓opsW_gn, ↓planW_nil, ↓planW_d, ↓planW_n, ↓planW_gd, ↓planW_gn, ↓agK_nil, ↓opW_move, ↓opW_assign, ↓opW_pick, ↓opW_bin, ↓bin_add, ↓bin_sub, ↓bin_mul, ↓bin_quo, ↓bin_rem, ↓bin_shl, ↓bin_shr, ↓bin_eql, ↓bin_neq, ↓bin_lss, ↓bin_leq, ↓bin_gtr, ↓bin_geq, ↓ld1_some, ↓ldN_some, ↓fldA_some, ↓idxS_some, ↓evs_nil, ↓evs_cons, ↓opW_call, ↓opW_callV, ↓lenS_some, ↓resK_one, ↓resK_one', ↓resK_two, ↓resK_two', ↓setAll_cons, ↓setAll_nil, ↓opW_box, ↓box_int, ↓box_bool, ↓box_string, ↓box_slice, ↓box_pointer, ↓box_map, ↓box_func, ↓box_agg, ↓evp_nil, ↓evp_cons, ↓idxA_some, ↓bin_eqlS, ↓bin_neqS, ↓evK_agg, ↓opW_un, ↓un_not, ↓un_neg, ↓cint_int, ↓part_one, ↓opW_extract, ↓ext_tuple, ↓opW_makeFuncF, ↓opW_nilCheck, ↓callV_some, ↓opW_lookup, ↓opW_mapUpdate, ↓opW_delete, ↓opW_slice, ↓evo_none, ↓evo_some, ↓agK_load, ↓agK_loadG, ↓resK_nil, ↓resK_nil', ↓resK_cellR, ↓resK_cellN, ↓resK_ct, ↓cap_nil, ↓bin_and, ↓agV_same, ↓agV_ne, ↓opW_max, ↓max_int, ↓bin_addF, ↓bin_subF, ↓bin_mulF, ↓bin_quoF, ↓isF_float, ↓isF_add, ↓isF_sub, ↓isF_mul, ↓isF_quo, ↓cf_F, ↓cif_int, ↓box_F, ↓resK_three, ↓agl_23, ↓len_22, ↓len_25, ↓cv_3_27, ↓ia_25, ↓ld_27, ↓ia_22, ↓ld_23, ↓bsl_25_1, ↓ap_25_25, ↓r11_0_w, ↓s11_1_w, ↓r11_2_w, ↓s11_3_w, ↓r11_4_w, ↓s11_5_w, ↓s11_6_w, ↓s11_7_w, ↓r11_8_w, ↓s11_9_w, ↓s11_10_w, ↓s11_11_w, ↓s11_12_w, ↓r11_13_w, ↓s11_14_w, ↓s11_15_w, ↓r11_16_w, ↓s11_17_w, ↓r11_18_w, ↓s11_19_w, ↓s11_20_w, ↓r11_21_w, ↓s11_22_w, ↓s11_23_w, ↓r11_24_w, ↓s11_25_w, cellAt_newE, cellAt_newO, cellsAt_newE, cellsAt_newO, newBlk_n, Nat.lt_add_one, List.getElem?_cons_zero, List.getElem?_cons_succ, List.length_cons, List.length_nil, onV_some', brK_true, brK_false, brK_not, Nat.le_refl, true_and, and_true, ne_eq, Nat.reduceEqDiff, Nat.reduceAdd, not_false_eq_true, not_true_eq_false, Nat.one_ne_zero, Nat.zero_ne_one, Nat.add_zero, Addr.add_lit, Int.toNat_natCast, Int.toNat_zero, Nat.zero_mul, Bool.true_eq_false, Bool.false_eq_true]))
    exact hK
  | cons v l =>
    have hlen := r.len
    simp only [List.length_cons] at hlen
    obtain ⟨b, off, rfl, hb, d0⟩ := r.at (k := 0) (by simp)
    simp only [Nat.zero_mul, Nat.add_zero, List.getElem_cons_zero] at d0
    have fb := r.fb
    repeat' (first | done | ((with_reducible refine brK_yes ?_ ?_); (· omega)) | ((with_reducible refine brK_no ?_ ?_); (· omega)) | (with_reducible refine brK_both (fun _ => ?_) (fun _ => ?_)) | ((with_reducible refine And.intro (And.intro ?_ ?_) ?_); (· omega); (· omega)) | ((with_reducible refine And.intro ?_ ?_); (· omega)) | (with_reducible refine And.intro (show List.all _ oneCell = true from rfl) ?_) | ((with_reducible refine st_newM ?_ ?_); (· rfl)) | ((with_reducible refine bs_oneM ?_ ?_); (· rfl)) | (with_reducible refine bd_of (by with_unfolding_all (simp only [fillL_cons, fillL_nil, nth_eq, blt_eq, cond_beq, over, Value.cells, List.getElem?_cons_zero, List.getElem?_cons_succ, List.length_cons, List.length_nil, Nat.reduceAdd, Nat.reduceSub, Nat.reduceLT, Nat.reduceEqDiff, decide_true, cond_true, Option.map_some, if_true, if_false, Nat.add_one_sub_one, Nat.succ_ne_zero, reduceCtorEq, OfNat.ofNat]; rfl)) ?_) | (with_reducible refine bda_of (by with_unfolding_all rfl) ?_) | (simp -dsimp only [↓cw_skip, ↓cw_ops, ↓cw_plan, ↓cw_seq, ↓cw_block, ↓cw_exit, ↓cw_ret, ↓cw_cond, ↓seqK_normal, ↓seqK_exit, ↓seqK_ret, ↓blockK_normal, ↓blockK_ret, ↓blockK_same, ↓blockK_ne, ↓loopK_normal, ↓loopK_exit, ↓loopK_ret, ↓getK_same, ↓getK_ne, ↓getK_leaf, ↓evK_tmp, ↓evK_int, ↓evK_bool, ↓evK_string, ↓evK_float, ↓evK_nilptr, ↓evK_nilslice, ↓evK_nilmap, ↓evK_nilFunc, ↓evK_nilIface, ↓evK_func, ↓condV_true, ↓condV_false, ↓condV_var, ↓gdV_tt, ↓gdV_tf, ↓gdV_ft, ↓gdV_ff, ↓gdV_var, ↓gdV_undef, ↓opsW_nil, ↓opsW_d, ↓opsW_n, ↓opsW_gd, ↓opsW_gn, ↓planW_nil, ↓planW_d, ↓planW_n, ↓planW_gd, ↓planW_gn, ↓agK_nil, ↓opW_move, ↓opW_assign, ↓opW_pick, ↓opW_bin, ↓bin_add, ↓bin_sub, ↓bin_mul, ↓bin_quo, ↓bin_rem, ↓bin_shl, ↓bin_shr, ↓bin_eql, ↓bin_neq, ↓bin_lss, ↓bin_leq, ↓bin_gtr, ↓bin_geq, ↓ld1_some, ↓ldN_some, ↓fldA_some, ↓idxS_some, ↓evs_nil, ↓evs_cons, ↓opW_call, ↓opW_callV, ↓lenS_some, ↓resK_one, ↓resK_one', ↓resK_two, ↓resK_two', ↓setAll_cons, ↓setAll_nil, ↓opW_box, ↓box_int, ↓box_bool, ↓box_string, ↓box_slice, ↓box_pointer, ↓box_map, ↓box_func, ↓box_agg, ↓evp_nil, ↓evp_cons, ↓idxA_some, ↓bin_eqlS, ↓bin_neqS, ↓evK_agg, ↓opW_un, ↓un_not, ↓un_neg, ↓cint_int, ↓part_one, ↓opW_extract, ↓ext_tuple, ↓opW_makeFuncF, ↓opW_nilCheck, ↓callV_some, ↓opW_lookup, ↓opW_mapUpdate, ↓opW_delete, ↓opW_slice, ↓evo_none, ↓evo_some, ↓agK_load, ↓agK_loadG, ↓resK_nil, ↓resK_nil', ↓resK_cellR, ↓resK_cellN, ↓resK_ct, ↓cap_nil, ↓bin_and, ↓agV_same, ↓agV_ne, ↓opW_max, ↓max_int, ↓bin_addF, ↓bin_subF, ↓bin_mulF, ↓bin_quoF, ↓isF_float, ↓isF_add, ↓isF_sub, ↓isF_mul, ↓isF_quo, ↓cf_F, ↓cif_int, ↓box_F, ↓resK_three, ↓agl_23, ↓len_22, ↓len_25, ↓cv_3_27, ↓ia_25, ↓ld_27, ↓ia_22, ↓ld_23, ↓bsl_25_1, ↓ap_25_25, ↓r11_0_w, ↓s11_1_w, ↓r11_2_w, ↓s11_3_w, ↓r11_4_w, ↓s11_5_w, ↓s11_6_w, ↓s11_7_w, ↓r11_8_w, ↓s11_9_w, ↓s11_10_w, ↓s11_11_w, ↓s11_12_w, ↓r11_13_w, ↓s11_14_w, ↓s11_15_w, ↓r11_16_w, ↓s11_17_w, ↓r11_18_w, ↓s11_19_w, ↓s11_20_w, ↓r11_21_w, ↓s11_22_w, ↓s11_23_w, ↓r11_24_w, ↓s11_25_w, cellAt_newE, cellAt_newO, cellsAt_newE, cellsAt_newO, newBlk_n, Nat.lt_add_one, List.getElem?_cons_zero, List.getElem?_cons_succ, List.length_cons, List.length_nil, onV_some', brK_true, brK_false, brK_not, Nat.le_refl, true_and, and_true, ne_eq, Nat.reduceEqDiff, Nat.reduceAdd, not_false_eq_true, not_true_eq_false, Nat.one_ne_zero, Nat.zero_ne_one, Nat.add_zero, Addr.add_lit, Int.toNat_natCast, Int.toNat_zero, Nat.zero_mul, Bool.true_eq_false, Bool.false_eq_true,  d0]))
    refine cw_loopI (fun n fr h' => h' = h ∧ ∃ k : Nat, k ≤ l.length ∧ n = l.length - k ∧ fr.get 4 = some (.int .i64 (k + 1 : Nat)) ∧ fr.get 3 = some ((l.take k).foldl addV v)) l.length ?_ (by omega) ?_
    · exact ⟨rfl, 0, by omega, by omega, by simp [T.get_set], by simp [T.get_set]⟩
    rintro n fr h' ⟨rfl, k, hk, rfl, g4, g3⟩ hag
    have g4 := getK_of g4
    have g3 := getK_of g3
    have a0 := getK_eq (hag 0 rfl)
    by_cases hlt : k < l.length
    · obtain ⟨b2, off2, e2, hb2, d⟩ := r.at (k := k + 1) (by simpa using hlt)
      cases e2
      simp only [List.getElem_cons_succ] at d
      have i1 : isF ((l.take k).foldl addV v) = true := (foldl_FB (fb _ (by simp)) fun y hy => fb y (by simp [List.mem_of_mem_take hy])).isF
      have i2 : isF l[k] = true := (fb _ (by simp)).isF
      repeat' (first | done | ((with_reducible refine brK_yes ?_ ?_); (· omega)) | ((with_reducible refine brK_no ?_ ?_); (· omega)) | (with_reducible refine brK_both (fun _ => ?_) (fun _ => ?_)) | ((with_reducible refine And.intro (And.intro ?_ ?_) ?_); (· omega); (· omega)) | ((with_reducible refine And.intro ?_ ?_); (· omega)) | (with_reducible refine And.intro (show List.all _ oneCell = true from rfl) ?_) | ((with_reducible refine st_newM ?_ ?_); (· rfl)) | ((with_reducible refine bs_oneM ?_ ?_); (· rfl)) | (with_reducible refine bd_of (by with_unfolding_all (simp only [fillL_cons, fillL_nil, nth_eq, blt_eq, cond_beq, over, Value.cells, List.getElem?_cons_zero, List.getElem?_cons_succ, List.length_cons, List.length_nil, Nat.reduceAdd, Nat.reduceSub, Nat.reduceLT, Nat.reduceEqDiff, decide_true, cond_true, Option.map_some, if_true, if_false, Nat.add_one_sub_one, Nat.succ_ne_zero, reduceCtorEq, OfNat.ofNat]; rfl)) ?_) | (with_reducible refine bda_of (by with_unfolding_all rfl) ?_) | (simp -dsimp only [↓cw_skip, ↓cw_ops, ↓cw_plan, ↓cw_seq, ↓cw_block, ↓cw_exit, ↓cw_ret, ↓cw_cond, ↓seqK_normal, ↓seqK_exit, ↓seqK_ret, ↓blockK_normal, ↓blockK_ret, ↓blockK_same, ↓blockK_ne, ↓loopK_normal, ↓loopK_exit, ↓loopK_ret, ↓getK_same, ↓getK_ne, ↓getK_leaf, ↓evK_tmp, ↓evK_int, ↓evK_bool, ↓evK_string, ↓evK_float, ↓evK_nilptr, ↓evK_nilslice, ↓evK_nilmap, ↓evK_nilFunc, ↓evK_nilIface, ↓evK_func, ↓condV_true, ↓condV_false, ↓condV_var, ↓gdV_tt, ↓gdV_tf, ↓gdV_ft, ↓gdV_ff, ↓gdV_var, ↓gdV_undef, ↓opsW_nil, ↓opsW_d, ↓opsW_n, ↓opsW_gd, ↓opsW_gn, ↓planW_nil, ↓planW_d, ↓planW_n, ↓planW_gd, ↓planW_gn, ↓agK_nil, ↓opW_move, ↓opW_assign, ↓opW_pick, ↓opW_bin, ↓bin_add, ↓bin_sub, ↓bin_mul, ↓bin_quo, ↓bin_rem, ↓bin_shl, ↓bin_shr, ↓bin_eql, ↓bin_neq, ↓bin_lss, ↓bin_leq, ↓bin_gtr, ↓bin_geq, ↓ld1_some, ↓ldN_some, ↓fldA_some, ↓idxS_some, ↓evs_nil, ↓evs_cons, ↓opW_call, ↓opW_callV, ↓lenS_some, ↓resK_one, ↓resK_one', ↓resK_two, ↓resK_two', ↓setAll_cons, ↓setAll_nil, ↓opW_box, ↓box_int, ↓box_bool, ↓box_string, ↓box_slice, ↓box_pointer, ↓box_map, ↓box_func, ↓box_agg, ↓evp_nil, ↓evp_cons, ↓idxA_some, ↓bin_eqlS, ↓bin_neqS, ↓evK_agg, ↓opW_un, ↓un_not, ↓un_neg, ↓cint_int, ↓part_one, ↓opW_extract, ↓ext_tuple, ↓opW_makeFuncF, ↓opW_nilCheck, ↓callV_some, ↓opW_lookup, ↓opW_mapUpdate, ↓opW_delete, ↓opW_slice, ↓evo_none, ↓evo_some, ↓agK_load, ↓agK_loadG, ↓resK_nil, ↓resK_nil', ↓resK_cellR, ↓resK_cellN, ↓resK_ct, ↓cap_nil, ↓bin_and, ↓agV_same, ↓agV_ne, ↓opW_max, ↓max_int, ↓bin_addF, ↓bin_subF, ↓bin_mulF, ↓bin_quoF, ↓isF_float, ↓isF_add, ↓isF_sub, ↓isF_mul, ↓isF_quo, ↓cf_F, ↓cif_int, ↓box_F, ↓resK_three, ↓agl_23, ↓len_22, ↓len_25, ↓cv_3_27, ↓ia_25, ↓ld_27, ↓ia_22, ↓ld_23, ↓bsl_25_1, ↓ap_25_25, ↓r11_0_w, ↓s11_1_w, ↓r11_2_w, ↓s11_3_w, ↓r11_4_w, ↓s11_5_w, ↓s11_6_w, ↓s11_7_w, ↓r11_8_w, ↓s11_9_w, ↓s11_10_w, ↓s11_11_w, ↓s11_12_w, ↓r11_13_w, ↓s11_14_w, ↓s11_15_w, ↓r11_16_w, ↓s11_17_w, ↓r11_18_w, ↓s11_19_w, ↓s11_20_w, ↓r11_21_w, ↓s11_22_w, ↓s11_23_w, ↓r11_24_w, ↓s11_25_w, cellAt_newE, cellAt_newO, cellsAt_newE, cellsAt_newO, newBlk_n, Nat.lt_add_one, List.getElem?_cons_zero, List.getElem?_cons_succ, List.length_cons, List.length_nil, onV_some', brK_true, brK_false, brK_not, Nat.le_refl, true_and, and_true, ne_eq, Nat.reduceEqDiff, Nat.reduceAdd, not_false_eq_true, not_true_eq_false, Nat.one_ne_zero, Nat.zero_ne_one, Nat.add_zero, Addr.add_lit, Int.toNat_natCast, Int.toNat_zero, Nat.zero_mul, Bool.true_eq_false, Bool.false_eq_true,  ↓g4, ↓g3, ↓a0, d, i1, i2]))
      refine ⟨l.length - (k + 1), by omega, k + 1, by omega, by omega, by simp [T.get_set]; rw [wrap_i64 (by omega) (by omega)], by simp [T.get_set, foldl_take hlt, addV_def]⟩
    · have e : k = l.length := by omega
      subst e
      repeat' (first | done | ((with_reducible refine brK_yes ?_ ?_); (· omega)) | ((with_reducible refine brK_no ?_ ?_); (· omega)) | (with_reducible refine brK_both (fun _ => ?_) (fun _ => ?_)) | ((with_reducible refine And.intro (And.intro ?_ ?_) ?_); (· omega); (· omega)) | ((with_reducible refine And.intro ?_ ?_); (· omega)) | (with_reducible refine And.intro (show List.all _ oneCell = true from rfl) ?_) | ((with_reducible refine st_newM ?_ ?_); (· rfl)) | ((with_reducible refine bs_oneM ?_ ?_); (· rfl)) | (with_reducible refine bd_of (by with_unfolding_all (simp only [fillL_cons, fillL_nil, nth_eq, blt_eq, cond_beq, over, Value.cells, List.getElem?_cons_zero, List.getElem?_cons_succ, List.length_cons, List.length_nil, Nat.reduceAdd, Nat.reduceSub, Nat.reduceLT, Nat.reduceEqDiff, decide_true, cond_true, Option.map_some, if_true, if_false, Nat.add_one_sub_one, Nat.succ_ne_zero, reduceCtorEq, OfNat.ofNat]; rfl)) ?_) | (with_reducible refine bda_of (by with_unfolding_all rfl) ?_) | (simp -dsimp only [↓cw_skip, ↓cw_ops, ↓cw_plan, ↓cw_seq, ↓cw_block, ↓cw_exit, ↓cw_ret, ↓cw_cond, ↓seqK_normal, ↓seqK_exit, ↓seqK_ret, ↓blockK_normal, ↓blockK_ret, ↓blockK_same, ↓blockK_ne, ↓loopK_normal, ↓loopK_exit, ↓loopK_ret, ↓getK_same, ↓getK_ne, ↓getK_leaf, ↓evK_tmp, ↓evK_int, ↓evK_bool, ↓evK_string, ↓evK_float, ↓evK_nilptr, ↓evK_nilslice, ↓evK_nilmap, ↓evK_nilFunc, ↓evK_nilIface, ↓evK_func, ↓condV_true, ↓condV_false, ↓condV_var, ↓gdV_tt, ↓gdV_tf, ↓gdV_ft, ↓gdV_ff, ↓gdV_var, ↓gdV_undef, ↓opsW_nil, ↓opsW_d, ↓opsW_n, ↓opsW_gd, ↓opsW_gn, ↓planW_nil, ↓planW_d, ↓planW_n, ↓planW_gd, ↓planW_gn, ↓agK_nil, ↓opW_move, ↓opW_assign, ↓opW_pick, ↓opW_bin, ↓bin_add, ↓bin_sub, ↓bin_mul, ↓bin_quo, ↓bin_rem, ↓bin_shl, ↓bin_shr, ↓bin_eql, ↓bin_neq, ↓bin_lss, ↓bin_leq, ↓bin_gtr, ↓bin_geq, ↓ld1_some, ↓ldN_some, ↓fldA_some, ↓idxS_some, ↓evs_nil, ↓evs_cons, ↓opW_call, ↓opW_callV, ↓lenS_some, ↓resK_one, ↓resK_one', ↓resK_two, ↓resK_two', ↓setAll_cons, ↓setAll_nil, ↓opW_box, ↓box_int, ↓box_bool, ↓box_string, ↓box_slice, ↓box_pointer, ↓box_map, ↓box_func, ↓box_agg, ↓evp_nil, ↓evp_cons, ↓idxA_some, ↓bin_eqlS, ↓bin_neqS, ↓evK_agg, ↓opW_un, ↓un_not, ↓un_neg, ↓cint_int, ↓part_one, ↓opW_extract, ↓ext_tuple, ↓opW_makeFuncF, ↓opW_nilCheck, ↓callV_some, ↓opW_lookup, ↓opW_mapUpdate, ↓opW_delete, ↓opW_slice, ↓evo_none, ↓evo_some, ↓agK_load, ↓agK_loadG, ↓resK_nil, ↓resK_nil', ↓resK_cellR, ↓resK_cellN, ↓resK_ct, ↓cap_nil, ↓bin_and, ↓agV_same, ↓agV_ne, ↓opW_max, ↓max_int, ↓bin_addF, ↓bin_subF, ↓bin_mulF, ↓bin_quoF, ↓isF_float, ↓isF_add, ↓isF_sub, ↓isF_mul, ↓isF_quo, ↓cf_F, ↓cif_int, ↓box_F, ↓resK_three, ↓agl_23, ↓len_22, ↓len_25, ↓cv_3_27, ↓ia_25, ↓ld_27, ↓ia_22, ↓ld_23, ↓bsl_25_1, ↓ap_25_25, ↓r11_0_w, ↓s11_1_w, ↓r11_2_w, ↓s11_3_w, ↓r11_4_w, ↓s11_5_w, ↓s11_6_w, ↓s11_7_w, ↓r11_8_w, ↓s11_9_w, ↓s11_10_w, ↓s11_11_w, ↓s11_12_w, ↓r11_13_w, ↓s11_14_w, ↓s11_15_w, ↓r11_16_w, ↓s11_17_w, ↓r11_18_w, ↓s11_19_w, ↓s11_20_w, ↓r11_21_w, ↓s11_22_w, ↓s11_23_w, ↓r11_24_w, ↓s11_25_w, cellAt_newE, cellAt_newO, cellsAt_newE, cellsAt_newO, newBlk_n, Nat.lt_add_one, List.getElem?_cons_zero, List.getElem?_cons_succ, List.length_cons, List.length_nil, onV_some', brK_true, brK_false, brK_not, Nat.le_refl, true_and, and_true, ne_eq, Nat.reduceEqDiff, Nat.reduceAdd, not_false_eq_true, not_true_eq_false, Nat.one_ne_zero, Nat.zero_ne_one, Nat.add_zero, Addr.add_lit, Int.toNat_natCast, Int.toNat_zero, Nat.zero_mul, Bool.true_eq_false, Bool.false_eq_true,  ↓g4, ↓g3, ↓a0]))
      rw [List.take_length]
      exact hK
end Go.Proofs.YtjcmcoabckkjoaaDoor
