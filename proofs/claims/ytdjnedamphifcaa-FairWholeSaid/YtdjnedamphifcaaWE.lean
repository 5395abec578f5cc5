/- The second half of the reference's Whole. Conditions: each theorem's own. -/
import Derived.Test.YtdjnedamphifcaaWD
set_option linter.unusedSimpArgs false
set_option linter.unusedVariables false
namespace Go.Proofs.Ytdjnedamphifcaa
open Go.Ev
set_option maxRecDepth 100000
set_option maxHeartbeats 400000
def ints (l : List Int) : List Value := l.map fun n => .int .i64 n
theorem ints_flat (l : List Int) : (l.map intCells).flatten = ints l := by
  induction l with
  | nil => rfl
  | cons x l ih => simp only [List.map_cons, List.flatten_cons, ih, intCells, ints, List.cons_append, List.nil_append]
theorem ints_len (l : List Int) : (ints l).length = l.length := by simp [ints]
theorem ints_one (l : List Int) : (ints l).all oneCell = true := by
  induction l with
  | nil => rfl
  | cons x l ih => simp only [ints, List.map_cons, List.all_cons] at ih ⊢; simp only [ih, Bool.and_true]; rfl
theorem ints_append (l m : List Int) : ints l ++ ints m = ints (l ++ m) := by simp [ints]
theorem ints_rows (l : List Int) : ∀ r ∈ l.map intCells, r.length = 1 := by intro r hr; obtain ⟨u, _, rfl⟩ := List.mem_map.1 hr; rfl
theorem own_rows {B : Nat} {h : Heap} {e : TypeId} {v : Value} {n : Nat} {l : List Int} (o : OwnS B h e v n (ints l)) (hn : n = l.length) : ∃ a c, v = .slice a l.length c ∧ RowAt h.n h a 1 (l.map intCells) := by
  rw [← ints_flat] at o
  have := OwnS.rowAt o (ints_rows l) (by simpa using hn)
  simpa using this
/-- a row of ints handed in, appended -/
theorem firstCells_row {B : Nat} {h : Heap} {a : Option Addr} {c : Nat} {l : List Int} (r : RowAt B h a 1 (l.map intCells)) (hl : l.length ≠ 0) : firstCells h 1 l.length (.slice a l.length c) = some (ints l) := by
  obtain ⟨b, off, rfl, _, hc⟩ := r.cells (ints_rows l) (by decide) (by intro he; simp at he; subst he; exact hl rfl)
  rw [ints_flat, List.length_map] at hc
  exact hc

/-- what stands through the second half of the reference's Whole -/
structure Ctx (B i N : Nat) (h : Heap) (a : VA) (d : ViewD) (at_ : Option Addr) (S : List Int) : Prop where
  V : VBox h i a d
  hi : i < N
  hB : B ≤ N
  hN : N ≤ h.n
  ok : VOK B h a d
  rt : RowAt N h at_ 1 (S.map intCells)
theorem Ctx.ext {B i N : Nat} {h h' : Heap} {a : VA} {d : ViewD} {at_ : Option Addr} {S : List Int} (c : Ctx B i N h a d at_ S) (x : ExtB N h h') : Ctx B i N h' a d at_ S :=
  ⟨c.V.ext x c.hi, c.hi, c.hB, Nat.le_trans c.hN x.n, c.ok.ext (x.mono c.hB), c.rt.ext x⟩

theorem find_phase {N : Nat} {S L : List Int} {h : Heap} {fr : Fr} {K : Value → Heap → Prop} {at_ al : Option Addr} {ct cl : Nat} (f3 : ∀ K, getK fr 3 K = K (.slice at_ S.length ct)) (f13 : ∀ K, getK fr 13 K = K (.slice al L.length cl))
    (rt : RowAt N h at_ 1 (S.map intCells)) (rl : RowAt N h al 1 (L.map intCells)) (hT : S.length ≤ 1000) (hL : L.length ≤ 1000) (hK : ∀ b, (b = true ↔ ∀ x ∈ L, x ∈ S) → K (.bool b) h) :
    s14_18.wp env 185 none fr h (resK env [.tmp 2] K) := by
  repeat' (first | done | ((with_reducible refine brK_yes ?_ ?_); (· omega)) | ((with_reducible refine brK_no ?_ ?_); (· omega)) | (with_reducible refine brK_both (fun _ => ?_) (fun _ => ?_)) | ((with_reducible refine And.intro (And.intro ?_ ?_) ?_); (· omega); (· omega)) | ((with_reducible refine And.intro ?_ ?_); (· omega)) | ((with_reducible refine st_newM ?_ ?_); (· rfl)) | ((with_reducible refine bs_oneM ?_ ?_); (· rfl)) | (with_reducible refine bd_of (by with_unfolding_all (simp only [fillL_cons, fillL_nil, nth_eq, blt_eq, cond_beq, over, Value.cells, List.getElem?_cons_zero, List.getElem?_cons_succ, List.length_cons, List.length_nil, Nat.reduceAdd, Nat.reduceSub, Nat.reduceLT, Nat.reduceEqDiff, decide_true, cond_true, Option.map_some, if_true, if_false, Nat.add_one_sub_one, Nat.succ_ne_zero, reduceCtorEq, OfNat.ofNat]; rfl)) ?_) | (with_reducible refine bda_of (by with_unfolding_all rfl) ?_) | (simp -dsimp only [↓cw_ops, ↓cw_seq, ↓cw_block, ↓seqK_normal, ↓evK_int, ↓opsW_nil, ↓opsW_d, ↓opW_assign, ↓s14_14_w, ↓s14_15_w, ↓r14_16_w, ↓s14_17_w, ↓s14_18_w]))
  refine cw_loopI (fun n fr h' => h = h' ∧ ∃ k : Nat, k ≤ L.length ∧ n = L.length - k ∧ fr.get 18 = some (.int .i64 k) ∧ ∀ i (hi : i < L.length), i < k → L[i] ∈ S) L.length ?_ (by omega) ?_
  · exact ⟨rfl, 0, by omega, by omega, by simp [T.get_set], fun i _ h => by omega⟩
  rintro n fr2 h' ⟨rfl, k, hk, rfl, g18, hin⟩ hag
  have e18 := getK_of g18
  have a3 := getK_eq (hag 3 rfl)
  have a13 := getK_eq (hag 13 rfl)
  by_cases hlt : k < L.length
  · obtain ⟨b0, off, hra, hb, dd⟩ := rl k (by simpa using hlt)
    simp only [List.getElem_map, intCells] at dd
    have d0 := cellAt_of dd (j := 0) rfl
    simp only [Nat.add_zero] at d0
    rw [hra] at f13
    repeat' (first | done | ((with_reducible refine brK_yes ?_ ?_); (· omega)) | ((with_reducible refine brK_no ?_ ?_); (· omega)) | (with_reducible refine brK_both (fun _ => ?_) (fun _ => ?_)) | ((with_reducible refine And.intro (And.intro ?_ ?_) ?_); (· omega); (· omega)) | ((with_reducible refine And.intro ?_ ?_); (· omega)) | ((with_reducible refine st_newM ?_ ?_); (· rfl)) | ((with_reducible refine bs_oneM ?_ ?_); (· rfl)) | (with_reducible refine bd_of (by with_unfolding_all (simp only [fillL_cons, fillL_nil, nth_eq, blt_eq, cond_beq, over, Value.cells, List.getElem?_cons_zero, List.getElem?_cons_succ, List.length_cons, List.length_nil, Nat.reduceAdd, Nat.reduceSub, Nat.reduceLT, Nat.reduceEqDiff, decide_true, cond_true, Option.map_some, if_true, if_false, Nat.add_one_sub_one, Nat.succ_ne_zero, reduceCtorEq, OfNat.ofNat]; rfl)) ?_) | (with_reducible refine bda_of (by with_unfolding_all rfl) ?_) | (simp -dsimp only [↓cw_skip, ↓cw_ops, ↓cw_seq, ↓cw_block, ↓cw_cond, ↓seqK_normal, ↓getK_same, ↓getK_ne, ↓evK_tmp, ↓condV_var, ↓opsW_nil, ↓opsW_d, ↓opW_move, ↓opW_bin, ↓bin_lss, ↓ld1_some, ↓idxS_some, ↓evs_nil, ↓evs_cons, ↓opW_call, ↓lenS_some, ↓ld_3, ↓len_38, ↓ia_38, ↓r14_7_w, ↓s14_8_w, ↓s14_9_w, ↓s14_10_w, ↓r14_11_w, ↓s14_12_w, ↓s14_13_w, onV_some', brK_true, ne_eq, Nat.reduceEqDiff, not_false_eq_true, Addr.add_lit, Int.toNat_natCast, ↓e18, ↓a3, ↓a13, ↓f3, ↓f13, d0]))
    refine find_ret hT rt fun r hr => ?_
    repeat' (first | done | ((with_reducible refine brK_yes ?_ ?_); (· omega)) | ((with_reducible refine brK_no ?_ ?_); (· omega)) | (with_reducible refine brK_both (fun _ => ?_) (fun _ => ?_)) | ((with_reducible refine And.intro (And.intro ?_ ?_) ?_); (· omega); (· omega)) | ((with_reducible refine And.intro ?_ ?_); (· omega)) | ((with_reducible refine st_newM ?_ ?_); (· rfl)) | ((with_reducible refine bs_oneM ?_ ?_); (· rfl)) | (with_reducible refine bd_of (by with_unfolding_all (simp only [fillL_cons, fillL_nil, nth_eq, blt_eq, cond_beq, over, Value.cells, List.getElem?_cons_zero, List.getElem?_cons_succ, List.length_cons, List.length_nil, Nat.reduceAdd, Nat.reduceSub, Nat.reduceLT, Nat.reduceEqDiff, decide_true, cond_true, Option.map_some, if_true, if_false, Nat.add_one_sub_one, Nat.succ_ne_zero, reduceCtorEq, OfNat.ofNat]; rfl)) ?_) | (with_reducible refine bda_of (by with_unfolding_all rfl) ?_) | (simp -dsimp only [↓cw_skip, ↓cw_ops, ↓cw_seq, ↓cw_ret, ↓cw_cond, ↓seqK_normal, ↓seqK_ret, ↓blockK_normal, ↓blockK_ret, ↓loopK_normal, ↓loopK_ret, ↓getK_same, ↓getK_ne, ↓evK_tmp, ↓evK_int, ↓evK_bool, ↓condV_var, ↓opsW_nil, ↓opsW_d, ↓opW_move, ↓opW_assign, ↓opW_bin, ↓bin_add, ↓bin_lss, ↓resK_one, ↓r14_2_w, ↓s14_3_w, ↓r14_4_w, ↓s14_5_w, ↓s14_6_w, brK_true, brK_false, true_and, ne_eq, Nat.reduceEqDiff, not_false_eq_true, Addr.add_lit, Int.toNat_natCast, Bool.false_eq_true,  ↓e18]))
    · rename_i hneg
      refine hK false ⟨fun e => (by cases e), fun hall => absurd (hall _ (List.getElem_mem hlt)) (hr.1 hneg)⟩
    · rename_i hneg
      refine ⟨L.length - (k + 1), by omega, k + 1, by omega, rfl, by simp [T.get_set, wrap_succ (show k ≤ 4611686018427387904 by omega)], fun i hi hik => ?_⟩
      by_cases hi' : i < k
      · exact hin i hi hi'
      · have : i = k := by omega
        subst this
        exact Classical.byContradiction fun hno => hneg (hr.2 hno)
  · repeat' (first | done | ((with_reducible refine brK_yes ?_ ?_); (· omega)) | ((with_reducible refine brK_no ?_ ?_); (· omega)) | (with_reducible refine brK_both (fun _ => ?_) (fun _ => ?_)) | ((with_reducible refine And.intro (And.intro ?_ ?_) ?_); (· omega); (· omega)) | ((with_reducible refine And.intro ?_ ?_); (· omega)) | ((with_reducible refine st_newM ?_ ?_); (· rfl)) | ((with_reducible refine bs_oneM ?_ ?_); (· rfl)) | (with_reducible refine bd_of (by with_unfolding_all (simp only [fillL_cons, fillL_nil, nth_eq, blt_eq, cond_beq, over, Value.cells, List.getElem?_cons_zero, List.getElem?_cons_succ, List.length_cons, List.length_nil, Nat.reduceAdd, Nat.reduceSub, Nat.reduceLT, Nat.reduceEqDiff, decide_true, cond_true, Option.map_some, if_true, if_false, Nat.add_one_sub_one, Nat.succ_ne_zero, reduceCtorEq, OfNat.ofNat]; rfl)) ?_) | (with_reducible refine bda_of (by with_unfolding_all rfl) ?_) | (simp -dsimp only [↓cw_ops, ↓cw_seq, ↓cw_exit, ↓cw_ret, ↓cw_cond, ↓seqK_normal, ↓seqK_exit, ↓blockK_same, ↓loopK_exit, ↓getK_same, ↓getK_ne, ↓evK_tmp, ↓evK_bool, ↓condV_var, ↓opsW_nil, ↓opsW_d, ↓opW_move, ↓opW_assign, ↓opW_bin, ↓bin_lss, ↓lenS_some, ↓resK_one, ↓len_38, ↓r14_0_w, ↓s14_1_w, ↓s14_10_w, ↓r14_11_w, ↓s14_12_w, ↓s14_13_w, brK_false, ne_eq, Nat.reduceEqDiff, not_false_eq_true, Bool.false_eq_true,  ↓e18, ↓a13, ↓f13]))
    refine hK true ⟨fun _ x hx => ?_, fun _ => rfl⟩
    obtain ⟨i, hi, rfl⟩ := List.getElem_of_mem hx
    exact hin i hi (by omega)

theorem timers_phase {B i N : Nat} {h : Heap} {a : VA} {d : ViewD} {at_ : Option Addr} {ct : Nat} {S L : List Int} {fr : Fr} {v : Value} {K : Value → Heap → Prop} (ho : OnceP d) (c : Ctx B i N h a d at_ S) (hT : S.length ≤ 1000) (hL : L.length ≤ 500)
    (f1 : ∀ K, getK fr 1 K = K (.pointer (some ⟨i, 0, none⟩))) (f3 : ∀ K, getK fr 3 K = K (.slice at_ S.length ct)) (f13 : fr.get 13 = some v) (own : OwnS N h 3 v L.length (ints L))
    (hK : ∀ b h', (b = true ↔ ∀ x ∈ L ++ d.timers.map TimerD.id, x ∈ S) → ExtB N h h' → K (.bool b) h') : s14_32.wp env 185 none fr h (resK env [.tmp 2] K) := by
  have hl : d.timers.length ≤ 200 := by have := ho.sum; omega
  repeat' (first | done | ((with_reducible refine brK_yes ?_ ?_); (· omega)) | ((with_reducible refine brK_no ?_ ?_); (· omega)) | (with_reducible refine brK_both (fun _ => ?_) (fun _ => ?_)) | ((with_reducible refine And.intro (And.intro ?_ ?_) ?_); (· omega); (· omega)) | ((with_reducible refine And.intro ?_ ?_); (· omega)) | ((with_reducible refine st_newM ?_ ?_); (· rfl)) | ((with_reducible refine bs_oneM ?_ ?_); (· rfl)) | (with_reducible refine bd_of (by with_unfolding_all (simp only [fillL_cons, fillL_nil, nth_eq, blt_eq, cond_beq, over, Value.cells, List.getElem?_cons_zero, List.getElem?_cons_succ, List.length_cons, List.length_nil, Nat.reduceAdd, Nat.reduceSub, Nat.reduceLT, Nat.reduceEqDiff, decide_true, cond_true, Option.map_some, if_true, if_false, Nat.add_one_sub_one, Nat.succ_ne_zero, reduceCtorEq, OfNat.ofNat]; rfl)) ?_) | (with_reducible refine bda_of (by with_unfolding_all rfl) ?_) | (simp -dsimp only [↓cw_ops, ↓cw_seq, ↓cw_block, ↓seqK_normal, ↓evK_int, ↓opsW_nil, ↓opsW_d, ↓opW_assign, ↓s14_28_w, ↓s14_29_w, ↓r14_30_w, ↓s14_31_w, ↓s14_32_w]))
  refine cw_loopI (fun n fr h' => ∃ k : Nat, k ≤ d.timers.length ∧ n = d.timers.length - k ∧ fr.get 17 = some (.int .i64 k) ∧ (∃ v, fr.get 13 = some v ∧ OwnS N h' 3 v (L ++ (d.timers.map TimerD.id).take k).length (ints (L ++ (d.timers.map TimerD.id).take k))) ∧ ExtB N h h') d.timers.length ?_ (by omega) ?_
  · exact ⟨0, by omega, by omega, by simp [T.get_set], ⟨v, by simpa [T.get_set] using f13, by simpa using own⟩, ExtB.refl _ _⟩
  rintro n fr2 h' ⟨k, hk, rfl, g17, ⟨v, g13, own⟩, X⟩ hag
  have e17 := getK_of g17
  have e13 := getK_of g13
  have a1 := getK_eq (hag 1 rfl)
  have a3 := getK_eq (hag 3 rfl)
  have c := c.ext X
  have d11 := c.V.get 11 _ rfl
  have hin := c.V.lt
  by_cases hlt : k < d.timers.length
  · obtain ⟨b0, off, hra, hb, dd⟩ := c.ok.timers k (by simpa using hlt)
    simp only [List.getElem_map, TimerD.cells] at dd
    have d1 := cellAt_of dd (j := 1) rfl
    have d11' := d11
    rw [hra] at d11'
    have hb' : b0 < h'.n := by have := c.hN; have := c.hB; omega
    repeat' (first | done | ((with_reducible refine brK_yes ?_ ?_); (· omega)) | ((with_reducible refine brK_no ?_ ?_); (· omega)) | (with_reducible refine brK_both (fun _ => ?_) (fun _ => ?_)) | ((with_reducible refine And.intro (And.intro ?_ ?_) ?_); (· omega); (· omega)) | ((with_reducible refine And.intro ?_ ?_); (· omega)) | ((with_reducible refine st_newM ?_ ?_); (· rfl)) | ((with_reducible refine bs_oneM ?_ ?_); (· rfl)) | (with_reducible refine bd_of (by with_unfolding_all (simp only [fillL_cons, fillL_nil, nth_eq, blt_eq, cond_beq, over, Value.cells, List.getElem?_cons_zero, List.getElem?_cons_succ, List.length_cons, List.length_nil, Nat.reduceAdd, Nat.reduceSub, Nat.reduceLT, Nat.reduceEqDiff, decide_true, cond_true, Option.map_some, if_true, if_false, Nat.add_one_sub_one, Nat.succ_ne_zero, reduceCtorEq, OfNat.ofNat]; rfl)) ?_) | (with_reducible refine bda_of (by with_unfolding_all rfl) ?_) | (simp -dsimp only [↓cw_skip, ↓cw_ops, ↓cw_seq, ↓cw_block, ↓cw_cond, ↓seqK_normal, ↓getK_same, ↓getK_ne, ↓evK_tmp, ↓condV_var, ↓opsW_nil, ↓opsW_d, ↓opW_move, ↓opW_bin, ↓bin_lss, ↓ld1_some, ↓fldA_some, ↓idxS_some, ↓lenS_some, ↓evp_nil, ↓evp_cons, ↓ld_3, ↓fa_45_6, ↓ld_43, ↓len_43, ↓bsl_38_1, ↓ap_38_38, ↓ia_43, ↓fa_78_1, ↓r14_21_w, ↓s14_22_w, ↓s14_23_w, ↓s14_24_w, ↓r14_25_w, ↓s14_26_w, ↓s14_27_w, onV_some', brK_true, ne_eq, Nat.reduceEqDiff, Nat.reduceAdd, not_false_eq_true, Addr.add_lit, Int.toNat_natCast, ↓e17, ↓e13, ↓a1, ↓f1, ↓d11', d1]))
    refine app_one own c.hN (by rw [ints_len, Nat.mul_one]) (by simp; omega) rfl rfl (by decide) rfl fun v' h2 o2 x2 => ?_
    repeat' (first | done | ((with_reducible refine brK_yes ?_ ?_); (· omega)) | ((with_reducible refine brK_no ?_ ?_); (· omega)) | (with_reducible refine brK_both (fun _ => ?_) (fun _ => ?_)) | ((with_reducible refine And.intro (And.intro ?_ ?_) ?_); (· omega); (· omega)) | ((with_reducible refine And.intro ?_ ?_); (· omega)) | ((with_reducible refine st_newM ?_ ?_); (· rfl)) | ((with_reducible refine bs_oneM ?_ ?_); (· rfl)) | (with_reducible refine bd_of (by with_unfolding_all (simp only [fillL_cons, fillL_nil, nth_eq, blt_eq, cond_beq, over, Value.cells, List.getElem?_cons_zero, List.getElem?_cons_succ, List.length_cons, List.length_nil, Nat.reduceAdd, Nat.reduceSub, Nat.reduceLT, Nat.reduceEqDiff, decide_true, cond_true, Option.map_some, if_true, if_false, Nat.add_one_sub_one, Nat.succ_ne_zero, reduceCtorEq, OfNat.ofNat]; rfl)) ?_) | (with_reducible refine bda_of (by with_unfolding_all rfl) ?_) | (simp -dsimp only [↓cw_ops, ↓seqK_normal, ↓blockK_normal, ↓loopK_normal, ↓getK_same, ↓getK_ne, ↓evK_tmp, ↓evK_int, ↓opsW_nil, ↓opsW_d, ↓opW_move, ↓opW_assign, ↓opW_bin, ↓bin_add, ↓r14_19_w, ↓s14_20_w, ne_eq, Nat.reduceEqDiff, Nat.reduceAdd, not_false_eq_true, Addr.add_lit, Int.toNat_natCast, ↓e17]))
    have hs : L ++ (d.timers.map TimerD.id).take (k + 1) = L ++ (d.timers.map TimerD.id).take k ++ [d.timers[k].id] := by
      rw [List.take_succ_eq_append_getElem (by simpa using hlt), List.append_assoc]; simp only [List.getElem_map]
    refine ⟨d.timers.length - (k + 1), by omega, k + 1, by omega, rfl, by simp [T.get_set, wrap_succ (show k ≤ 4611686018427387904 by omega)], ⟨v', by simp [T.get_set], ?_⟩, X.trans x2⟩
    rw [hs, List.length_append]
    have := ints_append (L ++ (d.timers.map TimerD.id).take k) [d.timers[k].id]
    rw [← this]
    exact o2
  · have e : k = d.timers.length := by omega
    subst e
    rw [List.take_of_length_le (by simp)] at own
    obtain ⟨al, cl, rfl, rl⟩ := own_rows own rfl
    repeat' (first | done | ((with_reducible refine brK_yes ?_ ?_); (· omega)) | ((with_reducible refine brK_no ?_ ?_); (· omega)) | (with_reducible refine brK_both (fun _ => ?_) (fun _ => ?_)) | ((with_reducible refine And.intro (And.intro ?_ ?_) ?_); (· omega); (· omega)) | ((with_reducible refine And.intro ?_ ?_); (· omega)) | ((with_reducible refine st_newM ?_ ?_); (· rfl)) | ((with_reducible refine bs_oneM ?_ ?_); (· rfl)) | (with_reducible refine bd_of (by with_unfolding_all (simp only [fillL_cons, fillL_nil, nth_eq, blt_eq, cond_beq, over, Value.cells, List.getElem?_cons_zero, List.getElem?_cons_succ, List.length_cons, List.length_nil, Nat.reduceAdd, Nat.reduceSub, Nat.reduceLT, Nat.reduceEqDiff, decide_true, cond_true, Option.map_some, if_true, if_false, Nat.add_one_sub_one, Nat.succ_ne_zero, reduceCtorEq, OfNat.ofNat]; rfl)) ?_) | (with_reducible refine bda_of (by with_unfolding_all rfl) ?_) | (simp -dsimp only [↓cw_ops, ↓cw_seq, ↓cw_exit, ↓cw_cond, ↓seqK_normal, ↓seqK_exit, ↓blockK_same, ↓loopK_exit, ↓getK_same, ↓getK_ne, ↓evK_tmp, ↓condV_var, ↓opsW_nil, ↓opsW_d, ↓opW_move, ↓opW_bin, ↓bin_lss, ↓ld1_some, ↓fldA_some, ↓lenS_some, ↓fa_45_6, ↓ld_43, ↓len_43, ↓s14_24_w, ↓r14_25_w, ↓s14_26_w, ↓s14_27_w, onV_some', brK_false, ne_eq, Nat.reduceEqDiff, Nat.reduceAdd, not_false_eq_true, Addr.add_lit, Bool.false_eq_true,  ↓e17, ↓a1, ↓f1, ↓d11]))
    refine find_phase (N := h'.n) (S := S) (L := L ++ d.timers.map TimerD.id) (at_ := at_) (ct := ct) (al := al) (cl := cl) ?_ ?_ (c.rt.mono c.hN) rl hT (by simp; omega) fun b hb => hK b h' hb X
    · intro K; simp -dsimp only [getK_ne, ne_eq, Nat.reduceEqDiff, not_false_eq_true, ↓a3, ↓f3]
    · intro K; simp -dsimp only [getK_ne, ne_eq, Nat.reduceEqDiff, not_false_eq_true, ↓e13]

theorem global_phase {B i N : Nat} {h : Heap} {a : VA} {d : ViewD} {at_ : Option Addr} {ct : Nat} {S L : List Int} {fr : Fr} {v : Value} {K : Value → Heap → Prop} (ho : OnceP d) (c : Ctx B i N h a d at_ S) (hT : S.length ≤ 1000) (hL : L.length ≤ 300)
    (f1 : ∀ K, getK fr 1 K = K (.pointer (some ⟨i, 0, none⟩))) (f3 : ∀ K, getK fr 3 K = K (.slice at_ S.length ct)) (f13 : fr.get 13 = some v) (own : OwnS N h 3 v L.length (ints L))
    (hK : ∀ b h', (b = true ↔ ∀ x ∈ L ++ (d.global ++ d.timers.map TimerD.id), x ∈ S) → ExtB N h h' → K (.bool b) h') : s14_34.wp env 185 none fr h (resK env [.tmp 2] K) := by
  have hl : d.global.length ≤ 200 := by have := ho.sum; omega
  have e13 := getK_of f13
  have d10 := c.V.get 10 _ rfl
  repeat' (first | done | ((with_reducible refine brK_yes ?_ ?_); (· omega)) | ((with_reducible refine brK_no ?_ ?_); (· omega)) | (with_reducible refine brK_both (fun _ => ?_) (fun _ => ?_)) | ((with_reducible refine And.intro (And.intro ?_ ?_) ?_); (· omega); (· omega)) | ((with_reducible refine And.intro ?_ ?_); (· omega)) | ((with_reducible refine st_newM ?_ ?_); (· rfl)) | ((with_reducible refine bs_oneM ?_ ?_); (· rfl)) | (with_reducible refine bd_of (by with_unfolding_all (simp only [fillL_cons, fillL_nil, nth_eq, blt_eq, cond_beq, over, Value.cells, List.getElem?_cons_zero, List.getElem?_cons_succ, List.length_cons, List.length_nil, Nat.reduceAdd, Nat.reduceSub, Nat.reduceLT, Nat.reduceEqDiff, decide_true, cond_true, Option.map_some, if_true, if_false, Nat.add_one_sub_one, Nat.succ_ne_zero, reduceCtorEq, OfNat.ofNat]; rfl)) ?_) | (with_reducible refine bda_of (by with_unfolding_all rfl) ?_) | (simp -dsimp only [↓cw_ops, ↓cw_seq, ↓getK_same, ↓getK_ne, ↓evK_tmp, ↓opsW_d, ↓opW_move, ↓ld1_some, ↓fldA_some, ↓fa_45_5, ↓fa_42_5, ↓ld_38, ↓ap_38_38, ↓r14_33_w, ↓s14_34_w, onV_some', ne_eq, Nat.reduceEqDiff, Nat.reduceAdd, not_false_eq_true, Addr.add_lit, ↓f1, ↓e13, ↓d10]))
  refine app_ownG own c.hN (by rw [ints_len, Nat.mul_one]) rfl (by omega) (new := ints d.global) (fun hm => firstCells_row c.ok.global hm) (by rw [ints_len, Nat.mul_one]) (ints_one _) (by decide) fun v' h2 o2 x2 => ?_
  rw [ints_append, ← List.length_append] at o2
  repeat' (first | done | ((with_reducible refine brK_yes ?_ ?_); (· omega)) | ((with_reducible refine brK_no ?_ ?_); (· omega)) | (with_reducible refine brK_both (fun _ => ?_) (fun _ => ?_)) | ((with_reducible refine And.intro (And.intro ?_ ?_) ?_); (· omega); (· omega)) | ((with_reducible refine And.intro ?_ ?_); (· omega)) | ((with_reducible refine st_newM ?_ ?_); (· rfl)) | ((with_reducible refine bs_oneM ?_ ?_); (· rfl)) | (with_reducible refine bd_of (by with_unfolding_all (simp only [fillL_cons, fillL_nil, nth_eq, blt_eq, cond_beq, over, Value.cells, List.getElem?_cons_zero, List.getElem?_cons_succ, List.length_cons, List.length_nil, Nat.reduceAdd, Nat.reduceSub, Nat.reduceLT, Nat.reduceEqDiff, decide_true, cond_true, Option.map_some, if_true, if_false, Nat.add_one_sub_one, Nat.succ_ne_zero, reduceCtorEq, OfNat.ofNat]; rfl)) ?_) | (with_reducible refine bda_of (by with_unfolding_all rfl) ?_) | (simp -dsimp only [↓seqK_normal, ↓getK_same, ↓evK_tmp, ↓opsW_nil, ↓opsW_d, ↓opW_assign, Nat.reduceAdd, Addr.add_lit]))
  refine timers_phase (ct := ct) (v := v') ho (c.ext x2) hT (by simp; omega) ?_ ?_ (by simp [T.get_set]) o2 fun b h3 hb hx => hK b h3 (by rw [hb, List.append_assoc]) (x2.trans hx)
  · intro K; simp -dsimp only [getK_ne, ne_eq, Nat.reduceEqDiff, not_false_eq_true, ↓f1]
  · intro K; simp -dsimp only [getK_ne, ne_eq, Nat.reduceEqDiff, not_false_eq_true, ↓f3]

theorem rings_phase {B i N : Nat} {h : Heap} {a : VA} {d : ViewD} {at_ : Option Addr} {ct : Nat} {S L : List Int} {fr : Fr} {v : Value} {K : Value → Heap → Prop} (ho : OnceP d) (c : Ctx B i N h a d at_ S) (hT : S.length ≤ 1000) (hL : L.length ≤ 50)
    (f1 : ∀ K, getK fr 1 K = K (.pointer (some ⟨i, 0, none⟩))) (f3 : ∀ K, getK fr 3 K = K (.slice at_ S.length ct)) (f13 : fr.get 13 = some v) (own : OwnS N h 3 v L.length (ints L))
    (hK : ∀ b h', (b = true ↔ ∀ x ∈ L ++ (ringsOf d ++ (d.global ++ d.timers.map TimerD.id)), x ∈ S) → ExtB N h h' → K (.bool b) h') : s14_48.wp env 185 none fr h (resK env [.tmp 2] K) := by
  have hl := ho.rings
  repeat' (first | done | ((with_reducible refine brK_yes ?_ ?_); (· omega)) | ((with_reducible refine brK_no ?_ ?_); (· omega)) | (with_reducible refine brK_both (fun _ => ?_) (fun _ => ?_)) | ((with_reducible refine And.intro (And.intro ?_ ?_) ?_); (· omega); (· omega)) | ((with_reducible refine And.intro ?_ ?_); (· omega)) | ((with_reducible refine st_newM ?_ ?_); (· rfl)) | ((with_reducible refine bs_oneM ?_ ?_); (· rfl)) | (with_reducible refine bd_of (by with_unfolding_all (simp only [fillL_cons, fillL_nil, nth_eq, blt_eq, cond_beq, over, Value.cells, List.getElem?_cons_zero, List.getElem?_cons_succ, List.length_cons, List.length_nil, Nat.reduceAdd, Nat.reduceSub, Nat.reduceLT, Nat.reduceEqDiff, decide_true, cond_true, Option.map_some, if_true, if_false, Nat.add_one_sub_one, Nat.succ_ne_zero, reduceCtorEq, OfNat.ofNat]; rfl)) ?_) | (with_reducible refine bda_of (by with_unfolding_all rfl) ?_) | (simp -dsimp only [↓cw_ops, ↓cw_seq, ↓cw_block, ↓seqK_normal, ↓evK_int, ↓opsW_nil, ↓opsW_d, ↓opW_assign, ↓s14_44_w, ↓s14_45_w, ↓r14_46_w, ↓s14_47_w, ↓s14_48_w]))
  refine cw_loopI (fun n fr h' => ∃ k : Nat, k ≤ d.rings.length ∧ n = d.rings.length - k ∧ fr.get 16 = some (.int .i64 k) ∧ (∃ v, fr.get 13 = some v ∧ OwnS N h' 3 v (L ++ ((d.rings.take k).map RingD.l).flatten).length (ints (L ++ ((d.rings.take k).map RingD.l).flatten))) ∧ ExtB N h h') d.rings.length ?_ (by omega) ?_
  · exact ⟨0, by omega, by omega, by simp [T.get_set], ⟨v, by simpa [T.get_set] using f13, by simpa using own⟩, ExtB.refl _ _⟩
  rintro n fr2 h' ⟨k, hk, rfl, gk, ⟨v, g13, own⟩, X⟩ hag
  have ek := getK_of gk
  have e13 := getK_of g13
  have a1 := getK_eq (hag 1 rfl)
  have a3 := getK_eq (hag 3 rfl)
  have c := c.ext X
  have d7 := c.V.get 7 _ rfl
  have hin := c.V.lt
  by_cases hlt : k < d.rings.length
  · obtain ⟨b0, off, hra, hb, dd⟩ := c.ok.rings k (by simpa using hlt)
    simp only [List.getElem_map, RingD.cells] at dd
    have dr := cellAt_of dd (j := 0) rfl
    simp only [Nat.add_zero] at dr
    have d7' := d7
    rw [hra] at d7'
    have hmem : d.rings[k] ∈ d.rings := List.getElem_mem _
    have hring := c.ok.ring _ hmem
    have hup := ringsUp_len ho (k + 1)
    have hsucc : ((d.rings.take (k + 1)).map RingD.l).flatten = ((d.rings.take k).map RingD.l).flatten ++ d.rings[k].l := by
      rw [List.take_succ_eq_append_getElem hlt]; simp only [List.map_append, List.flatten_append, List.map_cons, List.map_nil, List.flatten_cons, List.flatten_nil, List.append_nil]
    rw [hsucc, List.length_append] at hup
    repeat' (first | done | ((with_reducible refine brK_yes ?_ ?_); (· omega)) | ((with_reducible refine brK_no ?_ ?_); (· omega)) | (with_reducible refine brK_both (fun _ => ?_) (fun _ => ?_)) | ((with_reducible refine And.intro (And.intro ?_ ?_) ?_); (· omega); (· omega)) | ((with_reducible refine And.intro ?_ ?_); (· omega)) | ((with_reducible refine st_newM ?_ ?_); (· rfl)) | ((with_reducible refine bs_oneM ?_ ?_); (· rfl)) | (with_reducible refine bd_of (by with_unfolding_all (simp only [fillL_cons, fillL_nil, nth_eq, blt_eq, cond_beq, over, Value.cells, List.getElem?_cons_zero, List.getElem?_cons_succ, List.length_cons, List.length_nil, Nat.reduceAdd, Nat.reduceSub, Nat.reduceLT, Nat.reduceEqDiff, decide_true, cond_true, Option.map_some, if_true, if_false, Nat.add_one_sub_one, Nat.succ_ne_zero, reduceCtorEq, OfNat.ofNat]; rfl)) ?_) | (with_reducible refine bda_of (by with_unfolding_all rfl) ?_) | (simp -dsimp only [↓cw_skip, ↓cw_ops, ↓cw_seq, ↓cw_block, ↓cw_cond, ↓seqK_normal, ↓getK_same, ↓getK_ne, ↓evK_tmp, ↓condV_var, ↓opsW_nil, ↓opsW_d, ↓opW_move, ↓opW_bin, ↓bin_lss, ↓ld1_some, ↓fldA_some, ↓idxS_some, ↓lenS_some, ↓fa_45_5, ↓ld_38, ↓fa_42_2, ↓ld_39, ↓len_39, ↓ia_39, ↓ap_38_38, ↓r14_37_w, ↓s14_38_w, ↓s14_39_w, ↓s14_40_w, ↓r14_41_w, ↓s14_42_w, ↓s14_43_w, onV_some', brK_true, ne_eq, Nat.reduceEqDiff, Nat.reduceAdd, not_false_eq_true, Addr.add_lit, Int.toNat_natCast, ↓ek, ↓e13, ↓a1, ↓f1, ↓d7', dr]))
    refine app_ownG own c.hN (by rw [ints_len, Nat.mul_one]) rfl (by rw [List.length_append]; omega) (new := ints d.rings[k].l) (fun hm => firstCells_row hring hm) (by rw [ints_len, Nat.mul_one]) (ints_one _) (by decide) fun v' h2 o2 x2 => ?_
    rw [ints_append, ← List.length_append, List.append_assoc, ← hsucc] at o2
    repeat' (first | done | ((with_reducible refine brK_yes ?_ ?_); (· omega)) | ((with_reducible refine brK_no ?_ ?_); (· omega)) | (with_reducible refine brK_both (fun _ => ?_) (fun _ => ?_)) | ((with_reducible refine And.intro (And.intro ?_ ?_) ?_); (· omega); (· omega)) | ((with_reducible refine And.intro ?_ ?_); (· omega)) | ((with_reducible refine st_newM ?_ ?_); (· rfl)) | ((with_reducible refine bs_oneM ?_ ?_); (· rfl)) | (with_reducible refine bd_of (by with_unfolding_all (simp only [fillL_cons, fillL_nil, nth_eq, blt_eq, cond_beq, over, Value.cells, List.getElem?_cons_zero, List.getElem?_cons_succ, List.length_cons, List.length_nil, Nat.reduceAdd, Nat.reduceSub, Nat.reduceLT, Nat.reduceEqDiff, decide_true, cond_true, Option.map_some, if_true, if_false, Nat.add_one_sub_one, Nat.succ_ne_zero, reduceCtorEq, OfNat.ofNat]; rfl)) ?_) | (with_reducible refine bda_of (by with_unfolding_all rfl) ?_) | (simp -dsimp only [↓cw_ops, ↓seqK_normal, ↓blockK_normal, ↓loopK_normal, ↓getK_same, ↓getK_ne, ↓evK_tmp, ↓evK_int, ↓opsW_nil, ↓opsW_d, ↓opW_move, ↓opW_assign, ↓opW_bin, ↓bin_add, ↓r14_35_w, ↓s14_36_w, ne_eq, Nat.reduceEqDiff, Nat.reduceAdd, not_false_eq_true, Addr.add_lit, Int.toNat_natCast, ↓ek]))
    exact ⟨d.rings.length - (k + 1), by omega, k + 1, by omega, rfl, by simp [T.get_set, wrap_succ (show k ≤ 4611686018427387904 by omega)], ⟨v', by simp [T.get_set], o2⟩, X.trans x2⟩
  · have e : k = d.rings.length := by omega
    subst e
    have hup := ringsUp_len ho d.rings.length
    rw [List.take_length] at own hup
    repeat' (first | done | ((with_reducible refine brK_yes ?_ ?_); (· omega)) | ((with_reducible refine brK_no ?_ ?_); (· omega)) | (with_reducible refine brK_both (fun _ => ?_) (fun _ => ?_)) | ((with_reducible refine And.intro (And.intro ?_ ?_) ?_); (· omega); (· omega)) | ((with_reducible refine And.intro ?_ ?_); (· omega)) | ((with_reducible refine st_newM ?_ ?_); (· rfl)) | ((with_reducible refine bs_oneM ?_ ?_); (· rfl)) | (with_reducible refine bd_of (by with_unfolding_all (simp only [fillL_cons, fillL_nil, nth_eq, blt_eq, cond_beq, over, Value.cells, List.getElem?_cons_zero, List.getElem?_cons_succ, List.length_cons, List.length_nil, Nat.reduceAdd, Nat.reduceSub, Nat.reduceLT, Nat.reduceEqDiff, decide_true, cond_true, Option.map_some, if_true, if_false, Nat.add_one_sub_one, Nat.succ_ne_zero, reduceCtorEq, OfNat.ofNat]; rfl)) ?_) | (with_reducible refine bda_of (by with_unfolding_all rfl) ?_) | (simp -dsimp only [↓cw_ops, ↓cw_seq, ↓cw_exit, ↓cw_cond, ↓seqK_normal, ↓seqK_exit, ↓blockK_same, ↓loopK_exit, ↓getK_same, ↓getK_ne, ↓evK_tmp, ↓condV_var, ↓opsW_nil, ↓opsW_d, ↓opW_move, ↓opW_bin, ↓bin_lss, ↓ld1_some, ↓fldA_some, ↓lenS_some, ↓fa_45_5, ↓fa_42_2, ↓ld_39, ↓len_39, ↓s14_40_w, ↓r14_41_w, ↓s14_42_w, ↓s14_43_w, onV_some', brK_false, ne_eq, Nat.reduceEqDiff, Nat.reduceAdd, not_false_eq_true, Addr.add_lit, Bool.false_eq_true,  ↓ek, ↓a1, ↓f1, ↓d7]))
    refine global_phase (ct := ct) (v := v) ho c hT (by rw [List.length_append]; omega) ?_ ?_ (by simp only [T.get_set]; simpa using g13) own fun b h2 hb hx => hK b h2 (by rw [hb, List.append_assoc]; rfl) (X.trans hx)
    · intro K; simp -dsimp only [getK_ne, ne_eq, Nat.reduceEqDiff, not_false_eq_true, ↓a1, ↓f1]
    · intro K; simp -dsimp only [getK_ne, ne_eq, Nat.reduceEqDiff, not_false_eq_true, ↓a3, ↓f3]

theorem next_phase {B i N : Nat} {h : Heap} {a : VA} {d : ViewD} {at_ : Option Addr} {ct : Nat} {S L : List Int} {fr : Fr} {v : Value} {K : Value → Heap → Prop} (ho : OnceP d) (c : Ctx B i N h a d at_ S) (hT : S.length ≤ 1000) (hL : L.length ≤ 30)
    (f1 : ∀ K, getK fr 1 K = K (.pointer (some ⟨i, 0, none⟩))) (f3 : ∀ K, getK fr 3 K = K (.slice at_ S.length ct)) (f13 : fr.get 13 = some v) (own : OwnS N h 3 v L.length (ints L))
    (hK : ∀ b h', (b = true ↔ ∀ x ∈ L ++ (d.next.filter (0 ≤ ·) ++ (ringsOf d ++ (d.global ++ d.timers.map TimerD.id))), x ∈ S) → ExtB N h h' → K (.bool b) h') : s14_65.wp env 185 none fr h (resK env [.tmp 2] K) := by
  have hl := ho.next
  repeat' (first | done | ((with_reducible refine brK_yes ?_ ?_); (· omega)) | ((with_reducible refine brK_no ?_ ?_); (· omega)) | (with_reducible refine brK_both (fun _ => ?_) (fun _ => ?_)) | ((with_reducible refine And.intro (And.intro ?_ ?_) ?_); (· omega); (· omega)) | ((with_reducible refine And.intro ?_ ?_); (· omega)) | ((with_reducible refine st_newM ?_ ?_); (· rfl)) | ((with_reducible refine bs_oneM ?_ ?_); (· rfl)) | (with_reducible refine bd_of (by with_unfolding_all (simp only [fillL_cons, fillL_nil, nth_eq, blt_eq, cond_beq, over, Value.cells, List.getElem?_cons_zero, List.getElem?_cons_succ, List.length_cons, List.length_nil, Nat.reduceAdd, Nat.reduceSub, Nat.reduceLT, Nat.reduceEqDiff, decide_true, cond_true, Option.map_some, if_true, if_false, Nat.add_one_sub_one, Nat.succ_ne_zero, reduceCtorEq, OfNat.ofNat]; rfl)) ?_) | (with_reducible refine bda_of (by with_unfolding_all rfl) ?_) | (simp -dsimp only [↓cw_ops, ↓cw_seq, ↓cw_block, ↓seqK_normal, ↓evK_int, ↓opsW_nil, ↓opsW_d, ↓opW_assign, ↓s14_61_w, ↓s14_62_w, ↓r14_63_w, ↓s14_64_w, ↓s14_65_w]))
  refine cw_loopI (fun n fr h' => ∃ k : Nat, k ≤ d.next.length ∧ n = d.next.length - k ∧ fr.get 15 = some (.int .i64 k) ∧ (∃ v, fr.get 13 = some v ∧ OwnS N h' 3 v (L ++ (d.next.take k).filter (0 ≤ ·)).length (ints (L ++ (d.next.take k).filter (0 ≤ ·)))) ∧ ExtB N h h') d.next.length ?_ (by omega) ?_
  · exact ⟨0, by omega, by omega, by simp [T.get_set], ⟨v, by simpa [T.get_set] using f13, by simpa using own⟩, ExtB.refl _ _⟩
  rintro n fr2 h' ⟨k, hk, rfl, gk, ⟨v, g13, own⟩, X⟩ hag
  have ek := getK_of gk
  have e13 := getK_of g13
  have a1 := getK_eq (hag 1 rfl)
  have a3 := getK_eq (hag 3 rfl)
  have c := c.ext X
  have dv := c.V.get 6 _ rfl
  have hin := c.V.lt
  have hfl : ((d.next.take k).filter (0 ≤ ·)).length ≤ 8 := Nat.le_trans (List.length_filter_le ..) (Nat.le_trans (List.length_take_le' ..) hl)
  by_cases hlt : k < d.next.length
  · obtain ⟨b0, off, hra, hb, dd⟩ := c.ok.next k (by simpa using hlt)
    simp only [List.getElem_map, intCells] at dd
    have d0 := cellAt_of dd (j := 0) rfl
    simp only [Nat.add_zero] at d0
    have dv' := dv
    rw [hra] at dv'
    have hb' : b0 < h'.n := by have := c.hN; have := c.hB; omega
    have hs : (d.next.take (k + 1)).filter (0 ≤ ·) = if 0 ≤ d.next[k] then (d.next.take k).filter (0 ≤ ·) ++ [d.next[k]] else (d.next.take k).filter (0 ≤ ·) := by
      rw [List.take_succ_eq_append_getElem hlt, List.filter_append]
      by_cases hp : 0 ≤ d.next[k] <;> simp [hp]
    repeat' (first | done | ((with_reducible refine brK_yes ?_ ?_); (· omega)) | ((with_reducible refine brK_no ?_ ?_); (· omega)) | (with_reducible refine brK_both (fun _ => ?_) (fun _ => ?_)) | ((with_reducible refine And.intro (And.intro ?_ ?_) ?_); (· omega); (· omega)) | ((with_reducible refine And.intro ?_ ?_); (· omega)) | ((with_reducible refine st_newM ?_ ?_); (· rfl)) | ((with_reducible refine bs_oneM ?_ ?_); (· rfl)) | (with_reducible refine bd_of (by with_unfolding_all (simp only [fillL_cons, fillL_nil, nth_eq, blt_eq, cond_beq, over, Value.cells, List.getElem?_cons_zero, List.getElem?_cons_succ, List.length_cons, List.length_nil, Nat.reduceAdd, Nat.reduceSub, Nat.reduceLT, Nat.reduceEqDiff, decide_true, cond_true, Option.map_some, if_true, if_false, Nat.add_one_sub_one, Nat.succ_ne_zero, reduceCtorEq, OfNat.ofNat]; rfl)) ?_) | (with_reducible refine bda_of (by with_unfolding_all rfl) ?_) | (simp -dsimp only [↓cw_skip, ↓cw_ops, ↓cw_seq, ↓cw_block, ↓cw_cond, ↓seqK_normal, ↓blockK_normal, ↓loopK_normal, ↓getK_same, ↓getK_ne, ↓evK_tmp, ↓evK_int, ↓condV_var, ↓opsW_nil, ↓opsW_d, ↓opW_move, ↓opW_assign, ↓opW_bin, ↓bin_add, ↓bin_lss, ↓bin_geq, ↓ld1_some, ↓fldA_some, ↓idxS_some, ↓lenS_some, ↓evp_nil, ↓evp_cons, ↓ld_3, ↓fa_45_5, ↓ld_38, ↓len_38, ↓fa_42_1, ↓bsl_38_1, ↓ap_38_38, ↓ia_38, ↓r14_49_w, ↓s14_50_w, ↓r14_51_w, ↓s14_52_w, ↓s14_53_w, ↓r14_54_w, ↓s14_55_w, ↓s14_56_w, ↓s14_57_w, ↓r14_58_w, ↓s14_59_w, ↓s14_60_w, onV_some', brK_true, brK_false, ne_eq, Nat.reduceEqDiff, Nat.reduceAdd, not_false_eq_true, Addr.add_lit, Int.toNat_natCast, Bool.false_eq_true,  ↓ek, ↓e13, ↓a1, ↓f1, ↓dv', d0]))
    · rename_i hge
      rw [if_pos (by omega)] at hs
      refine app_one own c.hN (by rw [ints_len, Nat.mul_one]) (by simp; omega) rfl rfl (by decide) rfl fun v' h2 o2 x2 => ?_
      repeat' (first | done | ((with_reducible refine brK_yes ?_ ?_); (· omega)) | ((with_reducible refine brK_no ?_ ?_); (· omega)) | (with_reducible refine brK_both (fun _ => ?_) (fun _ => ?_)) | ((with_reducible refine And.intro (And.intro ?_ ?_) ?_); (· omega); (· omega)) | ((with_reducible refine And.intro ?_ ?_); (· omega)) | ((with_reducible refine st_newM ?_ ?_); (· rfl)) | ((with_reducible refine bs_oneM ?_ ?_); (· rfl)) | (with_reducible refine bd_of (by with_unfolding_all (simp only [fillL_cons, fillL_nil, nth_eq, blt_eq, cond_beq, over, Value.cells, List.getElem?_cons_zero, List.getElem?_cons_succ, List.length_cons, List.length_nil, Nat.reduceAdd, Nat.reduceSub, Nat.reduceLT, Nat.reduceEqDiff, decide_true, cond_true, Option.map_some, if_true, if_false, Nat.add_one_sub_one, Nat.succ_ne_zero, reduceCtorEq, OfNat.ofNat]; rfl)) ?_) | (with_reducible refine bda_of (by with_unfolding_all rfl) ?_) | (simp -dsimp only [↓cw_ops, ↓seqK_normal, ↓blockK_normal, ↓loopK_normal, ↓getK_same, ↓getK_ne, ↓evK_tmp, ↓evK_int, ↓opsW_nil, ↓opsW_d, ↓opW_move, ↓opW_assign, ↓opW_bin, ↓bin_add, ↓r14_49_w, ↓s14_50_w, ne_eq, Nat.reduceEqDiff, Nat.reduceAdd, not_false_eq_true, Addr.add_lit, Int.toNat_natCast, ↓ek]))
      refine ⟨d.next.length - (k + 1), by omega, k + 1, by omega, rfl, by simp [T.get_set, wrap_succ (show k ≤ 4611686018427387904 by omega)], ⟨v', by simp [T.get_set], ?_⟩, X.trans x2⟩
      rw [hs, ← List.append_assoc, List.length_append, ← ints_append]
      exact o2
    · rename_i hge
      rw [if_neg (by omega)] at hs
      refine ⟨d.next.length - (k + 1), by omega, k + 1, by omega, rfl, by simp [T.get_set, wrap_succ (show k ≤ 4611686018427387904 by omega)], ⟨v, ?_, ?_⟩, X⟩
      · simp only [T.get_set]; simpa using g13
      · rw [hs]; exact own
  · have e : k = d.next.length := by omega
    subst e
    rw [List.take_length] at own hfl
    repeat' (first | done | ((with_reducible refine brK_yes ?_ ?_); (· omega)) | ((with_reducible refine brK_no ?_ ?_); (· omega)) | (with_reducible refine brK_both (fun _ => ?_) (fun _ => ?_)) | ((with_reducible refine And.intro (And.intro ?_ ?_) ?_); (· omega); (· omega)) | ((with_reducible refine And.intro ?_ ?_); (· omega)) | ((with_reducible refine st_newM ?_ ?_); (· rfl)) | ((with_reducible refine bs_oneM ?_ ?_); (· rfl)) | (with_reducible refine bd_of (by with_unfolding_all (simp only [fillL_cons, fillL_nil, nth_eq, blt_eq, cond_beq, over, Value.cells, List.getElem?_cons_zero, List.getElem?_cons_succ, List.length_cons, List.length_nil, Nat.reduceAdd, Nat.reduceSub, Nat.reduceLT, Nat.reduceEqDiff, decide_true, cond_true, Option.map_some, if_true, if_false, Nat.add_one_sub_one, Nat.succ_ne_zero, reduceCtorEq, OfNat.ofNat]; rfl)) ?_) | (with_reducible refine bda_of (by with_unfolding_all rfl) ?_) | (simp -dsimp only [↓cw_ops, ↓cw_seq, ↓cw_exit, ↓cw_cond, ↓seqK_normal, ↓seqK_exit, ↓blockK_same, ↓loopK_exit, ↓getK_same, ↓getK_ne, ↓evK_tmp, ↓condV_var, ↓opsW_nil, ↓opsW_d, ↓opW_move, ↓opW_bin, ↓bin_lss, ↓ld1_some, ↓fldA_some, ↓lenS_some, ↓fa_45_5, ↓ld_38, ↓len_38, ↓fa_42_1, ↓s14_57_w, ↓r14_58_w, ↓s14_59_w, ↓s14_60_w, onV_some', brK_false, ne_eq, Nat.reduceEqDiff, Nat.reduceAdd, not_false_eq_true, Addr.add_lit, Bool.false_eq_true,  ↓ek, ↓a1, ↓f1, ↓dv]))
    refine rings_phase (ct := ct) (v := v) ho c hT (by simp; omega) ?_ ?_ (by simp only [T.get_set]; simpa using g13) own fun b h2 hb hx => hK b h2 (by rw [hb, List.append_assoc]) (X.trans hx)
    · intro K; simp -dsimp only [getK_ne, ne_eq, Nat.reduceEqDiff, not_false_eq_true, ↓a1, ↓f1]
    · intro K; simp -dsimp only [getK_ne, ne_eq, Nat.reduceEqDiff, not_false_eq_true, ↓a3, ↓f3]

theorem runs_phase {B i N : Nat} {h : Heap} {a : VA} {d : ViewD} {at_ : Option Addr} {ct : Nat} {S L : List Int} {fr : Fr} {v : Value} {K : Value → Heap → Prop} (ho : OnceP d) (c : Ctx B i N h a d at_ S) (hT : S.length ≤ 1000) (hL : L.length ≤ 10)
    (f1 : ∀ K, getK fr 1 K = K (.pointer (some ⟨i, 0, none⟩))) (f3 : ∀ K, getK fr 3 K = K (.slice at_ S.length ct)) (f13 : fr.get 13 = some v) (own : OwnS N h 3 v L.length (ints L))
    (hK : ∀ b h', (b = true ↔ ∀ x ∈ L ++ (d.runs.filter (0 ≤ ·) ++ (d.next.filter (0 ≤ ·) ++ (ringsOf d ++ (d.global ++ d.timers.map TimerD.id)))), x ∈ S) → ExtB N h h' → K (.bool b) h') : s14_82.wp env 185 none fr h (resK env [.tmp 2] K) := by
  have hl := ho.runs
  repeat' (first | done | ((with_reducible refine brK_yes ?_ ?_); (· omega)) | ((with_reducible refine brK_no ?_ ?_); (· omega)) | (with_reducible refine brK_both (fun _ => ?_) (fun _ => ?_)) | ((with_reducible refine And.intro (And.intro ?_ ?_) ?_); (· omega); (· omega)) | ((with_reducible refine And.intro ?_ ?_); (· omega)) | ((with_reducible refine st_newM ?_ ?_); (· rfl)) | ((with_reducible refine bs_oneM ?_ ?_); (· rfl)) | (with_reducible refine bd_of (by with_unfolding_all (simp only [fillL_cons, fillL_nil, nth_eq, blt_eq, cond_beq, over, Value.cells, List.getElem?_cons_zero, List.getElem?_cons_succ, List.length_cons, List.length_nil, Nat.reduceAdd, Nat.reduceSub, Nat.reduceLT, Nat.reduceEqDiff, decide_true, cond_true, Option.map_some, if_true, if_false, Nat.add_one_sub_one, Nat.succ_ne_zero, reduceCtorEq, OfNat.ofNat]; rfl)) ?_) | (with_reducible refine bda_of (by with_unfolding_all rfl) ?_) | (simp -dsimp only [↓cw_ops, ↓cw_seq, ↓cw_block, ↓seqK_normal, ↓evK_int, ↓opsW_nil, ↓opsW_d, ↓opW_assign, ↓s14_78_w, ↓s14_79_w, ↓r14_80_w, ↓s14_81_w, ↓s14_82_w]))
  refine cw_loopI (fun n fr h' => ∃ k : Nat, k ≤ d.runs.length ∧ n = d.runs.length - k ∧ fr.get 14 = some (.int .i64 k) ∧ (∃ v, fr.get 13 = some v ∧ OwnS N h' 3 v (L ++ (d.runs.take k).filter (0 ≤ ·)).length (ints (L ++ (d.runs.take k).filter (0 ≤ ·)))) ∧ ExtB N h h') d.runs.length ?_ (by omega) ?_
  · exact ⟨0, by omega, by omega, by simp [T.get_set], ⟨v, by simpa [T.get_set] using f13, by simpa using own⟩, ExtB.refl _ _⟩
  rintro n fr2 h' ⟨k, hk, rfl, gk, ⟨v, g13, own⟩, X⟩ hag
  have ek := getK_of gk
  have e13 := getK_of g13
  have a1 := getK_eq (hag 1 rfl)
  have a3 := getK_eq (hag 3 rfl)
  have c := c.ext X
  have dv := c.V.get 5 _ rfl
  have hin := c.V.lt
  have hfl : ((d.runs.take k).filter (0 ≤ ·)).length ≤ 8 := Nat.le_trans (List.length_filter_le ..) (Nat.le_trans (List.length_take_le' ..) hl)
  by_cases hlt : k < d.runs.length
  · obtain ⟨b0, off, hra, hb, dd⟩ := c.ok.runs k (by simpa using hlt)
    simp only [List.getElem_map, intCells] at dd
    have d0 := cellAt_of dd (j := 0) rfl
    simp only [Nat.add_zero] at d0
    have dv' := dv
    rw [hra] at dv'
    have hb' : b0 < h'.n := by have := c.hN; have := c.hB; omega
    have hs : (d.runs.take (k + 1)).filter (0 ≤ ·) = if 0 ≤ d.runs[k] then (d.runs.take k).filter (0 ≤ ·) ++ [d.runs[k]] else (d.runs.take k).filter (0 ≤ ·) := by
      rw [List.take_succ_eq_append_getElem hlt, List.filter_append]
      by_cases hp : 0 ≤ d.runs[k] <;> simp [hp]
    repeat' (first | done | ((with_reducible refine brK_yes ?_ ?_); (· omega)) | ((with_reducible refine brK_no ?_ ?_); (· omega)) | (with_reducible refine brK_both (fun _ => ?_) (fun _ => ?_)) | ((with_reducible refine And.intro (And.intro ?_ ?_) ?_); (· omega); (· omega)) | ((with_reducible refine And.intro ?_ ?_); (· omega)) | ((with_reducible refine st_newM ?_ ?_); (· rfl)) | ((with_reducible refine bs_oneM ?_ ?_); (· rfl)) | (with_reducible refine bd_of (by with_unfolding_all (simp only [fillL_cons, fillL_nil, nth_eq, blt_eq, cond_beq, over, Value.cells, List.getElem?_cons_zero, List.getElem?_cons_succ, List.length_cons, List.length_nil, Nat.reduceAdd, Nat.reduceSub, Nat.reduceLT, Nat.reduceEqDiff, decide_true, cond_true, Option.map_some, if_true, if_false, Nat.add_one_sub_one, Nat.succ_ne_zero, reduceCtorEq, OfNat.ofNat]; rfl)) ?_) | (with_reducible refine bda_of (by with_unfolding_all rfl) ?_) | (simp -dsimp only [↓cw_skip, ↓cw_ops, ↓cw_seq, ↓cw_block, ↓cw_cond, ↓seqK_normal, ↓blockK_normal, ↓loopK_normal, ↓getK_same, ↓getK_ne, ↓evK_tmp, ↓evK_int, ↓condV_var, ↓opsW_nil, ↓opsW_d, ↓opW_move, ↓opW_assign, ↓opW_bin, ↓bin_add, ↓bin_lss, ↓bin_geq, ↓ld1_some, ↓fldA_some, ↓idxS_some, ↓lenS_some, ↓evp_nil, ↓evp_cons, ↓ld_3, ↓fa_45_5, ↓ld_38, ↓len_38, ↓fa_42_0, ↓bsl_38_1, ↓ap_38_38, ↓ia_38, ↓r14_66_w, ↓s14_67_w, ↓r14_68_w, ↓s14_69_w, ↓s14_70_w, ↓r14_71_w, ↓s14_72_w, ↓s14_73_w, ↓s14_74_w, ↓r14_75_w, ↓s14_76_w, ↓s14_77_w, onV_some', brK_true, brK_false, ne_eq, Nat.reduceEqDiff, Nat.reduceAdd, not_false_eq_true, Nat.add_zero, Addr.add_lit, Int.toNat_natCast, Bool.false_eq_true,  ↓ek, ↓e13, ↓a1, ↓f1, ↓dv', d0]))
    · rename_i hge
      rw [if_pos (by omega)] at hs
      refine app_one own c.hN (by rw [ints_len, Nat.mul_one]) (by simp; omega) rfl rfl (by decide) rfl fun v' h2 o2 x2 => ?_
      repeat' (first | done | ((with_reducible refine brK_yes ?_ ?_); (· omega)) | ((with_reducible refine brK_no ?_ ?_); (· omega)) | (with_reducible refine brK_both (fun _ => ?_) (fun _ => ?_)) | ((with_reducible refine And.intro (And.intro ?_ ?_) ?_); (· omega); (· omega)) | ((with_reducible refine And.intro ?_ ?_); (· omega)) | ((with_reducible refine st_newM ?_ ?_); (· rfl)) | ((with_reducible refine bs_oneM ?_ ?_); (· rfl)) | (with_reducible refine bd_of (by with_unfolding_all (simp only [fillL_cons, fillL_nil, nth_eq, blt_eq, cond_beq, over, Value.cells, List.getElem?_cons_zero, List.getElem?_cons_succ, List.length_cons, List.length_nil, Nat.reduceAdd, Nat.reduceSub, Nat.reduceLT, Nat.reduceEqDiff, decide_true, cond_true, Option.map_some, if_true, if_false, Nat.add_one_sub_one, Nat.succ_ne_zero, reduceCtorEq, OfNat.ofNat]; rfl)) ?_) | (with_reducible refine bda_of (by with_unfolding_all rfl) ?_) | (simp -dsimp only [↓cw_ops, ↓seqK_normal, ↓blockK_normal, ↓loopK_normal, ↓getK_same, ↓getK_ne, ↓evK_tmp, ↓evK_int, ↓opsW_nil, ↓opsW_d, ↓opW_move, ↓opW_assign, ↓opW_bin, ↓bin_add, ↓r14_66_w, ↓s14_67_w, ne_eq, Nat.reduceEqDiff, Nat.reduceAdd, not_false_eq_true, Nat.add_zero, Addr.add_lit, Int.toNat_natCast, ↓ek]))
      refine ⟨d.runs.length - (k + 1), by omega, k + 1, by omega, rfl, by simp [T.get_set, wrap_succ (show k ≤ 4611686018427387904 by omega)], ⟨v', by simp [T.get_set], ?_⟩, X.trans x2⟩
      rw [hs, ← List.append_assoc, List.length_append, ← ints_append]
      exact o2
    · rename_i hge
      rw [if_neg (by omega)] at hs
      refine ⟨d.runs.length - (k + 1), by omega, k + 1, by omega, rfl, by simp [T.get_set, wrap_succ (show k ≤ 4611686018427387904 by omega)], ⟨v, ?_, ?_⟩, X⟩
      · simp only [T.get_set]; simpa using g13
      · rw [hs]; exact own
  · have e : k = d.runs.length := by omega
    subst e
    rw [List.take_length] at own hfl
    repeat' (first | done | ((with_reducible refine brK_yes ?_ ?_); (· omega)) | ((with_reducible refine brK_no ?_ ?_); (· omega)) | (with_reducible refine brK_both (fun _ => ?_) (fun _ => ?_)) | ((with_reducible refine And.intro (And.intro ?_ ?_) ?_); (· omega); (· omega)) | ((with_reducible refine And.intro ?_ ?_); (· omega)) | ((with_reducible refine st_newM ?_ ?_); (· rfl)) | ((with_reducible refine bs_oneM ?_ ?_); (· rfl)) | (with_reducible refine bd_of (by with_unfolding_all (simp only [fillL_cons, fillL_nil, nth_eq, blt_eq, cond_beq, over, Value.cells, List.getElem?_cons_zero, List.getElem?_cons_succ, List.length_cons, List.length_nil, Nat.reduceAdd, Nat.reduceSub, Nat.reduceLT, Nat.reduceEqDiff, decide_true, cond_true, Option.map_some, if_true, if_false, Nat.add_one_sub_one, Nat.succ_ne_zero, reduceCtorEq, OfNat.ofNat]; rfl)) ?_) | (with_reducible refine bda_of (by with_unfolding_all rfl) ?_) | (simp -dsimp only [↓cw_ops, ↓cw_seq, ↓cw_exit, ↓cw_cond, ↓seqK_normal, ↓seqK_exit, ↓blockK_same, ↓loopK_exit, ↓getK_same, ↓getK_ne, ↓evK_tmp, ↓condV_var, ↓opsW_nil, ↓opsW_d, ↓opW_move, ↓opW_bin, ↓bin_lss, ↓ld1_some, ↓fldA_some, ↓lenS_some, ↓fa_45_5, ↓ld_38, ↓len_38, ↓fa_42_0, ↓s14_74_w, ↓r14_75_w, ↓s14_76_w, ↓s14_77_w, onV_some', brK_false, ne_eq, Nat.reduceEqDiff, Nat.reduceAdd, not_false_eq_true, Nat.add_zero, Addr.add_lit, Bool.false_eq_true,  ↓ek, ↓a1, ↓f1, ↓dv]))
    refine next_phase (ct := ct) (v := v) ho c hT (by simp; omega) ?_ ?_ (by simp only [T.get_set]; simpa using g13) own fun b h2 hb hx => hK b h2 (by rw [hb, List.append_assoc]) (X.trans hx)
    · intro K; simp -dsimp only [getK_ne, ne_eq, Nat.reduceEqDiff, not_false_eq_true, ↓a1, ↓f1]
    · intro K; simp -dsimp only [getK_ne, ne_eq, Nat.reduceEqDiff, not_false_eq_true, ↓a3, ↓f3]
end Go.Proofs.Ytdjnedamphifcaa
