/- 'counted': who runs, who is next. Conditions: each theorem's own. -/
import Derived.Test.YtdjnedamphifcaaWI
set_option linter.unusedSimpArgs false
set_option linter.unusedVariables false
namespace Go.Proofs.Ytdjnedamphifcaa
open Go.Ev
set_option maxRecDepth 100000
set_option maxHeartbeats 400000
def noTask : TaskD := ⟨0, 0, 0, false, 0, 0, 0, 0, 0, 0, 0, 0, 0, 0, 0, 0, 0, 0, 0, 0, 0⟩
theorem task_is {l : List TaskD} (hnd : (l.map TaskD.idx).Nodup) {g : Int} {x : TaskD} (h : (x ∈ l ∧ x.idx = g) ∨ ((∀ y ∈ l, y.idx ≠ g) ∧ x = noTask)) : x = taskOf l g := by
  unfold taskOf
  rcases h with ⟨h1, h2⟩ | ⟨h1, h2⟩
  · induction l with
    | nil => cases h1
    | cons y l ih =>
      simp only [List.map_cons, List.nodup_cons] at hnd
      by_cases hy : y.idx = g
      · simp only [List.find?_cons, hy, decide_true, Option.getD_some]
        rcases List.mem_cons.1 h1 with rfl | h1
        · rfl
        · exact absurd (List.mem_map.2 ⟨x, h1, h2.trans hy.symm⟩) hnd.1
      · simp only [List.find?_cons, decide_eq_false hy]
        rcases List.mem_cons.1 h1 with rfl | h1
        · exact absurd h2 hy
        · exact ih hnd.2 h1
  · rw [List.find?_eq_none.2 fun y hy => by simpa using h1 y hy]
    exact h2
/-- what stands while 'counted' counts -/
structure CI (B i c r : Nat) (h : Heap) (a : VA) (d : ViewD) (Q R S : List Int) : Prop where
  V : VBox h i a d
  hi : i < r
  hc : c < r
  hB : B ≤ r
  ok : VOK B h a d
  cb : h.b.get c = some (.cells [.map (some r)] 67 true)
  m : MapAt kvI h r (CMf Q R S)
theorem CI.cm {B i c r : Nat} {h : Heap} {a : VA} {d : ViewD} {Q R S : List Int} (x : CI B i c r h a d Q R S) : cellAt h ⟨c, 0, none⟩ = some (.map (some r)) := cellAt_blk (Nat.lt_trans x.hc x.m.1) x.cb rfl
theorem CI.ext {B i c r : Nat} {h h' : Heap} {a : VA} {d : ViewD} {Q R S : List Int} (x : CI B i c r h a d Q R S) (e : ExtB h.n h h') : CI B i c r h' a d Q R S :=
  have hr := x.m.1
  ⟨x.V.ext e (Nat.lt_trans x.hi hr), x.hi, x.hc, x.hB, x.ok.ext (e.mono (Nat.le_trans x.hB (Nat.le_of_lt hr))), (e.get c (Nat.lt_trans x.hc hr)).trans x.cb, x.m.ext e.n (e.get r hr)⟩
theorem CI.upd {B i c r : Nat} {h h' : Heap} {a : VA} {d : ViewD} {Q R S Q' R' S' : List Int} (x : CI B i c r h a d Q R S) (hn : h.n ≤ h'.n) (hf : ∀ j, j < h.n → j ≠ r → h'.b.get j = h.b.get j) (m : MapAt kvI h' r (CMf Q' R' S')) : CI B i c r h' a d Q' R' S' ∧ ExtB r h h' :=
  have hr := x.m.1
  have e : ExtB r h h' := ⟨hn, fun j hj => hf j (by omega) (by omega)⟩
  ⟨⟨x.V.ext e x.hi, x.hi, x.hc, x.hB, x.ok.ext (e.mono x.hB), (e.get c x.hc).trans x.cb, m⟩, e⟩
def fineRun (d : ViewD) (p : Nat) : Bool := match d.runs[p]? with | some g => decide (0 ≤ g → hasB (taskOf d.tasks g).aff p = true) | none => true
def fineTim (d : ViewD) (p : Nat) : Bool := match d.timers[p]? with | some t => decide ((taskOf d.tasks t.id).untl = t.at_) | none => true
theorem taskOf_aff {d : ViewD} (hr : Ranges d) (g : Int) : 0 ≤ (taskOf d.tasks g).aff ∧ (taskOf d.tasks g).aff ≤ 255 := by
  unfold taskOf
  cases h : d.tasks.find? (fun x => decide (x.idx = g)) with
  | none => exact ⟨by decide, by decide⟩
  | some x => exact hr.aff x (List.mem_of_find?_eq_some h)
/-- the slots -/
structure CF (fr : Fr) (i c : Nat) : Prop where
  f1 : fr.get 1 = some (.pointer (some ⟨i, 0, none⟩))
  f2 : fr.get 2 = some (.pointer (some ⟨c, 0, none⟩))
  f4 : fr.get 4 = some (.func (.func 43) ⟨[]⟩ ⟨[.pointer (some ⟨c, 0, none⟩)]⟩)
  f5 : fr.get 5 = some (.func (.func 44) ⟨[]⟩ ⟨[]⟩)
  f6 : fr.get 6 = some (.func (.func 45) ⟨[]⟩ ⟨[.pointer (some ⟨i, 0, none⟩)]⟩)
theorem CF.of {fr fr' : Fr} {i c : Nat} (cf : CF fr i c) (h1 : fr'.get 1 = fr.get 1) (h2 : fr'.get 2 = fr.get 2) (h4 : fr'.get 4 = fr.get 4) (h5 : fr'.get 5 = fr.get 5) (h6 : fr'.get 6 = fr.get 6) : CF fr' i c :=
  ⟨h1.trans cf.f1, h2.trans cf.f2, h4.trans cf.f4, h5.trans cf.f5, h6.trans cf.f6⟩
def CK (d : ViewD) (b : Bool) (Q R S : List Int) (r0 : Nat) (h0 : Heap) (K : Value → Heap → Prop) : Prop := ∀ r h', MapAt kvI h' r (CMf Q R S) → r0 ≤ r → ExtB r0 h0 h' → K (.tuple #[.map (some r), .bool b]) h'

theorem next_phase2 {B i c r : Nat} {h : Heap} {a : VA} {d : ViewD} {Q R : List Int} {fr : Fr} {b : Bool} {Kr : Ex → Fr → Heap → Prop} (ho : OnceP d) (x : CI B i c r h a d Q R []) (cf : CF fr i c) (f3 : fr.get 3 = some (.bool b)) (hQ : Q = [])
    (hR : R.length ≤ 8)
    (hK : ∀ fr' h', CI B i c r h' a d (d.next.filter (0 ≤ ·)) R [] → ExtB r h h' → CF fr' i c → fr'.get 3 = some (.bool b) → s21_35.wp env 102 none fr' h' Kr) : s21_54.wp env 102 none fr h Kr := by
  subst hQ
  have hl := ho.next
  have f1 := getK_of cf.f1
  have d6 := x.V.get 6 _ rfl
  repeat' (first | done | ((with_reducible refine brK_yes ?_ ?_); (· omega)) | ((with_reducible refine brK_no ?_ ?_); (· omega)) | (with_reducible refine brK_both (fun _ => ?_) (fun _ => ?_)) | ((with_reducible refine And.intro (And.intro ?_ ?_) ?_); (· omega); (· omega)) | ((with_reducible refine And.intro ?_ ?_); (· omega)) | ((with_reducible refine st_newM ?_ ?_); (· rfl)) | ((with_reducible refine bs_oneM ?_ ?_); (· rfl)) | (with_reducible refine bd_of (by with_unfolding_all (simp only [fillL_cons, fillL_nil, nth_eq, blt_eq, cond_beq, over, Value.cells, List.getElem?_cons_zero, List.getElem?_cons_succ, List.length_cons, List.length_nil, Nat.reduceAdd, Nat.reduceSub, Nat.reduceLT, Nat.reduceEqDiff, decide_true, cond_true, Option.map_some, if_true, if_false, Nat.add_one_sub_one, Nat.succ_ne_zero, reduceCtorEq, OfNat.ofNat]; rfl)) ?_) | (with_reducible refine bda_of (by with_unfolding_all rfl) ?_) | (simp -dsimp only [↓cw_ops, ↓cw_seq, ↓cw_block, ↓seqK_normal, ↓getK_same, ↓evK_tmp, ↓evK_int, ↓opsW_nil, ↓opsW_d, ↓opW_move, ↓ld1_some, ↓fldA_some, ↓lenS_some, ↓fa_45_5, ↓ld_38, ↓len_38, ↓fa_42_1, ↓s21_50_w, ↓s21_51_w, ↓r21_52_w, ↓s21_53_w, ↓s21_54_w, onV_some', Nat.reduceAdd, Addr.add_lit, ↓f1, d6]))
  refine cw_loopI (fun n fr' h' => ∃ k : Nat, k ≤ d.next.length ∧ n = d.next.length - k ∧ fr'.get 46 = some (.int .i64 k) ∧ CI B i c r h' a d ((d.next.take k).filter (0 ≤ ·)) R [] ∧ ExtB r h h') d.next.length ?_ (by omega) ?_
  · exact ⟨0, by omega, by omega, by simp [T.get_set], by simpa using x, ExtB.refl _ _⟩
  rintro n fr2 h' ⟨k, hk, rfl, gk, x, X⟩ hag
  have ek := getK_of gk
  have a1 := getK_of ((hag 1 rfl).trans (by simpa [T.get_set] using cf.f1))
  have a4 := getK_of ((hag 4 rfl).trans (by simpa [T.get_set] using cf.f4))
  have a5 := getK_of ((hag 5 rfl).trans (by simpa [T.get_set] using cf.f5))
  have a44 := getK_eq (hag 44 rfl)
  have a45 := getK_eq (hag 45 rfl)
  have hfl : ((d.next.take k).filter (0 ≤ ·)).length ≤ 8 := Nat.le_trans (List.length_filter_le ..) (Nat.le_trans (List.length_take_le' ..) hl)
  by_cases hlt : k < d.next.length
  · obtain ⟨b0, off, hra, hb, dd⟩ := x.ok.next k (by simpa using hlt)
    simp only [List.getElem_map, intCells] at dd
    have d0 := cellAt_of dd (j := 0) rfl
    simp only [Nat.add_zero] at d0
    have hs : (d.next.take (k + 1)).filter (0 ≤ ·) = if 0 ≤ d.next[k] then (d.next.take k).filter (0 ≤ ·) ++ [d.next[k]] else (d.next.take k).filter (0 ≤ ·) := by
      rw [List.take_succ_eq_append_getElem hlt, List.filter_append]
      by_cases hp : 0 ≤ d.next[k] <;> simp [hp]
    rw [hra] at a44
    repeat' (first | done | ((with_reducible refine brK_yes ?_ ?_); (· omega)) | ((with_reducible refine brK_no ?_ ?_); (· omega)) | (with_reducible refine brK_both (fun _ => ?_) (fun _ => ?_)) | ((with_reducible refine And.intro (And.intro ?_ ?_) ?_); (· omega); (· omega)) | ((with_reducible refine And.intro ?_ ?_); (· omega)) | ((with_reducible refine st_newM ?_ ?_); (· rfl)) | ((with_reducible refine bs_oneM ?_ ?_); (· rfl)) | (with_reducible refine bd_of (by with_unfolding_all (simp only [fillL_cons, fillL_nil, nth_eq, blt_eq, cond_beq, over, Value.cells, List.getElem?_cons_zero, List.getElem?_cons_succ, List.length_cons, List.length_nil, Nat.reduceAdd, Nat.reduceSub, Nat.reduceLT, Nat.reduceEqDiff, decide_true, cond_true, Option.map_some, if_true, if_false, Nat.add_one_sub_one, Nat.succ_ne_zero, reduceCtorEq, OfNat.ofNat]; rfl)) ?_) | (with_reducible refine bda_of (by with_unfolding_all rfl) ?_) | (simp -dsimp only [↓cw_skip, ↓cw_ops, ↓cw_seq, ↓cw_block, ↓cw_cond, ↓seqK_normal, ↓blockK_normal, ↓loopK_normal, ↓getK_same, ↓getK_ne, ↓evK_tmp, ↓evK_int, ↓condV_var, ↓opsW_nil, ↓opsW_d, ↓opW_move, ↓opW_assign, ↓opW_bin, ↓bin_add, ↓bin_lss, ↓bin_geq, ↓ld1_some, ↓idxS_some, ↓evs_nil, ↓evs_cons, ↓opW_callV, ↓callV_some, ↓ld_3, ↓ia_38, ↓r21_36_w, ↓s21_37_w, ↓r21_38_w, ↓s21_39_w, ↓s21_40_w, ↓r21_41_w, ↓s21_42_w, ↓r21_43_w, ↓s21_44_w, ↓s21_45_w, ↓s21_46_w, ↓s21_47_w, ↓r21_48_w, ↓s21_49_w, onV_some', brK_true, brK_false, ne_eq, Nat.reduceEqDiff, not_false_eq_true, Addr.add_lit, Int.toNat_natCast, Bool.false_eq_true,  ↓ek, ↓a4, ↓a5, ↓a44, ↓a45, d0]))
    · rename_i hge
      rw [if_pos (by omega)] at hs
      refine add_ret inc44 x.m (Nat.lt_trans x.hc x.m.1) x.cm (by have := x.hc; omega) (by omega) (by omega) (by simp) fun v h2 m2 hn2 hf2 => ?_
      have m3 := m2.congr (CMf_q _ _ _ _)
      rw [← hs] at m3
      obtain ⟨x2, e2⟩ := x.upd hn2 hf2 m3
      repeat' (first | done | ((with_reducible refine brK_yes ?_ ?_); (· omega)) | ((with_reducible refine brK_no ?_ ?_); (· omega)) | (with_reducible refine brK_both (fun _ => ?_) (fun _ => ?_)) | ((with_reducible refine And.intro (And.intro ?_ ?_) ?_); (· omega); (· omega)) | ((with_reducible refine And.intro ?_ ?_); (· omega)) | ((with_reducible refine st_newM ?_ ?_); (· rfl)) | ((with_reducible refine bs_oneM ?_ ?_); (· rfl)) | (with_reducible refine bd_of (by with_unfolding_all (simp only [fillL_cons, fillL_nil, nth_eq, blt_eq, cond_beq, over, Value.cells, List.getElem?_cons_zero, List.getElem?_cons_succ, List.length_cons, List.length_nil, Nat.reduceAdd, Nat.reduceSub, Nat.reduceLT, Nat.reduceEqDiff, decide_true, cond_true, Option.map_some, if_true, if_false, Nat.add_one_sub_one, Nat.succ_ne_zero, reduceCtorEq, OfNat.ofNat]; rfl)) ?_) | (with_reducible refine bda_of (by with_unfolding_all rfl) ?_) | (simp -dsimp only [↓cw_ops, ↓seqK_normal, ↓blockK_normal, ↓loopK_normal, ↓getK_same, ↓getK_ne, ↓evK_tmp, ↓evK_int, ↓opsW_nil, ↓opsW_d, ↓opW_move, ↓opW_bin, ↓bin_add, ↓r21_36_w, ↓s21_37_w, ne_eq, Nat.reduceEqDiff, not_false_eq_true, Addr.add_lit, Int.toNat_natCast, ↓ek]))
      exact ⟨d.next.length - (k + 1), by omega, k + 1, by omega, rfl, by simp [T.get_set, wrap_succ (show k ≤ 4611686018427387904 by omega)], x2, X.trans e2⟩
    · rename_i hge
      rw [if_neg (by omega)] at hs
      exact ⟨d.next.length - (k + 1), by omega, k + 1, by omega, rfl, by simp [T.get_set, wrap_succ (show k ≤ 4611686018427387904 by omega)], by rw [hs]; exact x, X⟩
  · have e : k = d.next.length := by omega
    subst e
    rw [List.take_length] at x
    repeat' (first | done | ((with_reducible refine brK_yes ?_ ?_); (· omega)) | ((with_reducible refine brK_no ?_ ?_); (· omega)) | (with_reducible refine brK_both (fun _ => ?_) (fun _ => ?_)) | ((with_reducible refine And.intro (And.intro ?_ ?_) ?_); (· omega); (· omega)) | ((with_reducible refine And.intro ?_ ?_); (· omega)) | ((with_reducible refine st_newM ?_ ?_); (· rfl)) | ((with_reducible refine bs_oneM ?_ ?_); (· rfl)) | (with_reducible refine bd_of (by with_unfolding_all (simp only [fillL_cons, fillL_nil, nth_eq, blt_eq, cond_beq, over, Value.cells, List.getElem?_cons_zero, List.getElem?_cons_succ, List.length_cons, List.length_nil, Nat.reduceAdd, Nat.reduceSub, Nat.reduceLT, Nat.reduceEqDiff, decide_true, cond_true, Option.map_some, if_true, if_false, Nat.add_one_sub_one, Nat.succ_ne_zero, reduceCtorEq, OfNat.ofNat]; rfl)) ?_) | (with_reducible refine bda_of (by with_unfolding_all rfl) ?_) | (simp -dsimp only [↓cw_ops, ↓cw_seq, ↓cw_exit, ↓cw_cond, ↓seqK_normal, ↓seqK_exit, ↓blockK_same, ↓loopK_exit, ↓getK_same, ↓getK_ne, ↓evK_tmp, ↓condV_var, ↓opsW_nil, ↓opsW_d, ↓opW_bin, ↓bin_lss, ↓s21_46_w, ↓s21_47_w, ↓r21_48_w, ↓s21_49_w, brK_false, ne_eq, Nat.reduceEqDiff, not_false_eq_true, Bool.false_eq_true,  ↓ek, ↓a45]))
    have gt : ∀ t, s21_49.wr t = false → t < 40 → fr2.get t = fr.get t := fun t ht hlt => (hag t ht).trans (by simp only [T.get_set]; repeat' (first | rfl | (rw [if_neg (by omega)])))
    refine hK _ h' x X (cf.of ?_ ?_ ?_ ?_ ?_) ?_
    · simp only [T.get_set]; simpa using gt 1 rfl (by decide)
    · simp only [T.get_set]; simpa using gt 2 rfl (by decide)
    · simp only [T.get_set]; simpa using gt 4 rfl (by decide)
    · simp only [T.get_set]; simpa using gt 5 rfl (by decide)
    · simp only [T.get_set]; simpa using gt 6 rfl (by decide)
    · simp only [T.get_set]; simpa using (gt 3 rfl (by decide)).trans f3

theorem runs_phase2 {B i c r : Nat} {h : Heap} {a : VA} {d : ViewD} {fr : Fr} {Kr : Ex → Fr → Heap → Prop} (ho : OnceP d) (hr : Ranges d) (x : CI B i c r h a d [] [] []) (cf : CF fr i c) (f3 : fr.get 3 = some (.bool true))
    (hK : ∀ fr' h', CI B i c r h' a d [] (d.runs.filter (0 ≤ ·)) [] → ExtB r h h' → CF fr' i c → fr'.get 3 = some (.bool (allUp (fineRun d) d.runs.length)) → s21_54.wp env 102 none fr' h' Kr) : s21_75.wp env 102 none fr h Kr := by
  have hl := ho.runs
  have f1 := getK_of cf.f1
  have d5 := x.V.get 5 _ rfl
  repeat' (first | done | ((with_reducible refine brK_yes ?_ ?_); (· omega)) | ((with_reducible refine brK_no ?_ ?_); (· omega)) | (with_reducible refine brK_both (fun _ => ?_) (fun _ => ?_)) | ((with_reducible refine And.intro (And.intro ?_ ?_) ?_); (· omega); (· omega)) | ((with_reducible refine And.intro ?_ ?_); (· omega)) | ((with_reducible refine st_newM ?_ ?_); (· rfl)) | ((with_reducible refine bs_oneM ?_ ?_); (· rfl)) | (with_reducible refine bd_of (by with_unfolding_all (simp only [fillL_cons, fillL_nil, nth_eq, blt_eq, cond_beq, over, Value.cells, List.getElem?_cons_zero, List.getElem?_cons_succ, List.length_cons, List.length_nil, Nat.reduceAdd, Nat.reduceSub, Nat.reduceLT, Nat.reduceEqDiff, decide_true, cond_true, Option.map_some, if_true, if_false, Nat.add_one_sub_one, Nat.succ_ne_zero, reduceCtorEq, OfNat.ofNat]; rfl)) ?_) | (with_reducible refine bda_of (by with_unfolding_all rfl) ?_) | (simp -dsimp only [↓cw_ops, ↓cw_seq, ↓cw_block, ↓seqK_normal, ↓getK_same, ↓evK_tmp, ↓evK_int, ↓opsW_nil, ↓opsW_d, ↓opW_move, ↓ld1_some, ↓fldA_some, ↓lenS_some, ↓fa_45_5, ↓ld_38, ↓len_38, ↓fa_42_0, ↓s21_71_w, ↓s21_72_w, ↓r21_73_w, ↓s21_74_w, ↓s21_75_w, onV_some', Nat.reduceAdd, Nat.add_zero, Addr.add_lit, ↓f1, d5]))
  refine cw_loopI (fun n fr' h' => ∃ k : Nat, k ≤ d.runs.length ∧ n = d.runs.length - k ∧ fr'.get 22 = some (.int .i64 k) ∧ fr'.get 3 = some (.bool (allUp (fineRun d) k)) ∧ CI B i c r h' a d [] ((d.runs.take k).filter (0 ≤ ·)) [] ∧ ExtB r h h') d.runs.length ?_ (by omega) ?_
  · exact ⟨0, by omega, by omega, by simp [T.get_set], by simpa [T.get_set, allUp] using f3, by simpa using x, ExtB.refl _ _⟩
  rintro n fr2 h' ⟨k, hk, rfl, gk, g3, x, X⟩ hag
  have ek := getK_of gk
  have e3 := getK_of g3
  have gt : ∀ t, s21_70.wr t = false → t < 18 → fr2.get t = fr.get t := fun t ht hlt => (hag t ht).trans (by simp only [T.get_set]; repeat' (first | rfl | (rw [if_neg (by omega)])))
  have a1 := getK_of ((gt 1 rfl (by decide)).trans cf.f1)
  have a4 := getK_of ((gt 4 rfl (by decide)).trans cf.f4)
  have a6 := getK_of ((gt 6 rfl (by decide)).trans cf.f6)
  have a20 := getK_eq (hag 20 rfl)
  have a21 := getK_eq (hag 21 rfl)
  have hfl : ((d.runs.take k).filter (0 ≤ ·)).length ≤ 8 := Nat.le_trans (List.length_filter_le ..) (Nat.le_trans (List.length_take_le' ..) hl)
  have hu := allUp_succ (fineRun d) k
  by_cases hlt : k < d.runs.length
  · obtain ⟨b0, off, hra, hb, dd⟩ := x.ok.runs k (by simpa using hlt)
    simp only [List.getElem_map, intCells] at dd
    have d0 := cellAt_of dd (j := 0) rfl
    simp only [Nat.add_zero] at d0
    have hk? : d.runs[k]? = some d.runs[k] := List.getElem?_eq_getElem hlt
    have hs : (d.runs.take (k + 1)).filter (0 ≤ ·) = if 0 ≤ d.runs[k] then (d.runs.take k).filter (0 ≤ ·) ++ [d.runs[k]] else (d.runs.take k).filter (0 ≤ ·) := by
      rw [List.take_succ_eq_append_getElem hlt, List.filter_append]
      by_cases hp : 0 ≤ d.runs[k] <;> simp [hp]
    rw [hra] at a20
    repeat' (first | done | ((with_reducible refine brK_yes ?_ ?_); (· omega)) | ((with_reducible refine brK_no ?_ ?_); (· omega)) | (with_reducible refine brK_both (fun _ => ?_) (fun _ => ?_)) | ((with_reducible refine And.intro (And.intro ?_ ?_) ?_); (· omega); (· omega)) | ((with_reducible refine And.intro ?_ ?_); (· omega)) | ((with_reducible refine st_newM ?_ ?_); (· rfl)) | ((with_reducible refine bs_oneM ?_ ?_); (· rfl)) | (with_reducible refine bd_of (by with_unfolding_all (simp only [fillL_cons, fillL_nil, nth_eq, blt_eq, cond_beq, over, Value.cells, List.getElem?_cons_zero, List.getElem?_cons_succ, List.length_cons, List.length_nil, Nat.reduceAdd, Nat.reduceSub, Nat.reduceLT, Nat.reduceEqDiff, decide_true, cond_true, Option.map_some, if_true, if_false, Nat.add_one_sub_one, Nat.succ_ne_zero, reduceCtorEq, OfNat.ofNat]; rfl)) ?_) | (with_reducible refine bda_of (by with_unfolding_all rfl) ?_) | (simp -dsimp only [↓cw_skip, ↓cw_ops, ↓cw_seq, ↓cw_block, ↓cw_cond, ↓seqK_normal, ↓blockK_normal, ↓loopK_normal, ↓getK_same, ↓getK_ne, ↓evK_tmp, ↓evK_int, ↓evK_func, ↓condV_var, ↓opsW_nil, ↓opsW_d, ↓opW_move, ↓opW_assign, ↓opW_bin, ↓bin_add, ↓bin_lss, ↓bin_geq, ↓ld1_some, ↓idxS_some, ↓evs_nil, ↓evs_cons, ↓opW_callV, ↓callV_some, ↓ld_3, ↓ia_38, ↓r21_55_w, ↓s21_56_w, ↓r21_59_w, ↓s21_60_w, ↓s21_61_w, ↓r21_62_w, ↓s21_63_w, ↓r21_64_w, ↓s21_65_w, ↓s21_66_w, ↓s21_67_w, ↓s21_68_w, ↓r21_69_w, ↓s21_70_w, onV_some', brK_true, brK_false, ne_eq, Nat.reduceEqDiff, not_false_eq_true, Addr.add_lit, Int.toNat_natCast, Bool.false_eq_true,  ↓ek, ↓a4, ↓a20, ↓a21, d0]))
    · rename_i hge
      rw [if_pos (by omega)] at hs
      have hfk : fineRun d k = hasB (taskOf d.tasks d.runs[k]).aff k := by
        unfold fineRun; rw [hk?]
        simp only [show 0 ≤ d.runs[k] by omega, true_implies]
        cases hasB (taskOf d.tasks d.runs[k]).aff k <;> rfl
      refine add_ret inc48 x.m (Nat.lt_trans x.hc x.m.1) x.cm (by have := x.hc; omega) (by simp) (by omega) (by simp) fun v h2 m2 hn2 hf2 => ?_
      have m3 := m2.congr (CMf_r _ _ _ _)
      rw [← hs] at m3
      obtain ⟨x2, e2⟩ := x.upd hn2 hf2 m3
      cases hfb : allUp (fineRun d) k with
      | false =>
        rw [hfb] at e3
        repeat' (first | done | ((with_reducible refine brK_yes ?_ ?_); (· omega)) | ((with_reducible refine brK_no ?_ ?_); (· omega)) | (with_reducible refine brK_both (fun _ => ?_) (fun _ => ?_)) | ((with_reducible refine And.intro (And.intro ?_ ?_) ?_); (· omega); (· omega)) | ((with_reducible refine And.intro ?_ ?_); (· omega)) | ((with_reducible refine st_newM ?_ ?_); (· rfl)) | ((with_reducible refine bs_oneM ?_ ?_); (· rfl)) | (with_reducible refine bd_of (by with_unfolding_all (simp only [fillL_cons, fillL_nil, nth_eq, blt_eq, cond_beq, over, Value.cells, List.getElem?_cons_zero, List.getElem?_cons_succ, List.length_cons, List.length_nil, Nat.reduceAdd, Nat.reduceSub, Nat.reduceLT, Nat.reduceEqDiff, decide_true, cond_true, Option.map_some, if_true, if_false, Nat.add_one_sub_one, Nat.succ_ne_zero, reduceCtorEq, OfNat.ofNat]; rfl)) ?_) | (with_reducible refine bda_of (by with_unfolding_all rfl) ?_) | (simp -dsimp only [↓cw_ops, ↓seqK_normal, ↓blockK_normal, ↓loopK_normal, ↓getK_same, ↓getK_ne, ↓evK_tmp, ↓evK_int, ↓evK_bool, ↓condV_var, ↓gdV_var, ↓opsW_nil, ↓opsW_d, ↓opsW_gd, ↓opW_move, ↓opW_assign, ↓opW_pick, ↓opW_bin, ↓bin_add, ↓r21_55_w, ↓s21_56_w, ↓r21_57_w, ↓s21_58_w, brK_false, ne_eq, Nat.reduceEqDiff, not_false_eq_true, Addr.add_lit, Int.toNat_natCast, Bool.false_eq_true,  ↓ek, ↓e3]))
        exact ⟨d.runs.length - (k + 1), by omega, k + 1, by omega, rfl, by simp [T.get_set, wrap_succ (show k ≤ 4611686018427387904 by omega)], by simp [T.get_set, hu, hfb], x2, X.trans e2⟩
      | true =>
        rw [hfb] at e3
        repeat' (first | done | ((with_reducible refine brK_yes ?_ ?_); (· omega)) | ((with_reducible refine brK_no ?_ ?_); (· omega)) | (with_reducible refine brK_both (fun _ => ?_) (fun _ => ?_)) | ((with_reducible refine And.intro (And.intro ?_ ?_) ?_); (· omega); (· omega)) | ((with_reducible refine And.intro ?_ ?_); (· omega)) | ((with_reducible refine st_newM ?_ ?_); (· rfl)) | ((with_reducible refine bs_oneM ?_ ?_); (· rfl)) | (with_reducible refine bd_of (by with_unfolding_all (simp only [fillL_cons, fillL_nil, nth_eq, blt_eq, cond_beq, over, Value.cells, List.getElem?_cons_zero, List.getElem?_cons_succ, List.length_cons, List.length_nil, Nat.reduceAdd, Nat.reduceSub, Nat.reduceLT, Nat.reduceEqDiff, decide_true, cond_true, Option.map_some, if_true, if_false, Nat.add_one_sub_one, Nat.succ_ne_zero, reduceCtorEq, OfNat.ofNat]; rfl)) ?_) | (with_reducible refine bda_of (by with_unfolding_all rfl) ?_) | (simp -dsimp only [↓cw_ops, ↓seqK_normal, ↓getK_same, ↓getK_ne, ↓evK_tmp, ↓gdV_var, ↓opsW_nil, ↓opsW_d, ↓opsW_gd, ↓opW_move, ↓evs_nil, ↓evs_cons, ↓opW_callV, ↓callV_some, ↓r21_57_w, ↓s21_58_w, brK_true, ne_eq, Nat.reduceEqDiff, not_false_eq_true, ↓e3, ↓a6]))
        refine task_ret (B := B) ho (by have := x2.m.1; have := x2.hB; omega) x2.V x2.ok fun h3 y hy x3 => ?_
        have hy := task_is ho.nodup hy
        subst hy
        simp only [TaskD.g]
        repeat' (first | done | ((with_reducible refine brK_yes ?_ ?_); (· omega)) | ((with_reducible refine brK_no ?_ ?_); (· omega)) | (with_reducible refine brK_both (fun _ => ?_) (fun _ => ?_)) | ((with_reducible refine And.intro (And.intro ?_ ?_) ?_); (· omega); (· omega)) | ((with_reducible refine And.intro ?_ ?_); (· omega)) | ((with_reducible refine st_newM ?_ ?_); (· rfl)) | ((with_reducible refine bs_oneM ?_ ?_); (· rfl)) | (with_reducible refine bd_of (by with_unfolding_all (simp only [fillL_cons, fillL_nil, nth_eq, blt_eq, cond_beq, over, Value.cells, List.getElem?_cons_zero, List.getElem?_cons_succ, List.length_cons, List.length_nil, Nat.reduceAdd, Nat.reduceSub, Nat.reduceLT, Nat.reduceEqDiff, decide_true, cond_true, Option.map_some, if_true, if_false, Nat.add_one_sub_one, Nat.succ_ne_zero, reduceCtorEq, OfNat.ofNat]; rfl)) ?_) | (with_reducible refine bda_of (by with_unfolding_all rfl) ?_) | (simp -dsimp only [↓getK_same, ↓getK_ne, ↓evK_tmp, ↓gdV_var, ↓opsW_gd, ↓opW_move, ↓evs_nil, ↓evs_cons, ↓opW_call, ↓part_one, ↓fd_64_4, List.getElem?_cons_zero, List.getElem?_cons_succ, onV_some', brK_true, ne_eq, Nat.reduceEqDiff, not_false_eq_true]))
        refine has_ret (taskOf_aff hr _) ?_
        repeat' (first | done | ((with_reducible refine brK_yes ?_ ?_); (· omega)) | ((with_reducible refine brK_no ?_ ?_); (· omega)) | (with_reducible refine brK_both (fun _ => ?_) (fun _ => ?_)) | ((with_reducible refine And.intro (And.intro ?_ ?_) ?_); (· omega); (· omega)) | ((with_reducible refine And.intro ?_ ?_); (· omega)) | ((with_reducible refine st_newM ?_ ?_); (· rfl)) | ((with_reducible refine bs_oneM ?_ ?_); (· rfl)) | (with_reducible refine bd_of (by with_unfolding_all (simp only [fillL_cons, fillL_nil, nth_eq, blt_eq, cond_beq, over, Value.cells, List.getElem?_cons_zero, List.getElem?_cons_succ, List.length_cons, List.length_nil, Nat.reduceAdd, Nat.reduceSub, Nat.reduceLT, Nat.reduceEqDiff, decide_true, cond_true, Option.map_some, if_true, if_false, Nat.add_one_sub_one, Nat.succ_ne_zero, reduceCtorEq, OfNat.ofNat]; rfl)) ?_) | (with_reducible refine bda_of (by with_unfolding_all rfl) ?_) | (simp -dsimp only [↓cw_ops, ↓seqK_normal, ↓blockK_normal, ↓loopK_normal, ↓getK_same, ↓getK_ne, ↓evK_tmp, ↓evK_int, ↓condV_var, ↓opsW_nil, ↓opsW_d, ↓opW_move, ↓opW_assign, ↓opW_pick, ↓opW_bin, ↓bin_add, ↓r21_55_w, ↓s21_56_w, brK_true, ne_eq, Nat.reduceEqDiff, not_false_eq_true, Addr.add_lit, Int.toNat_natCast, ↓ek]))
        exact ⟨d.runs.length - (k + 1), by omega, k + 1, by omega, rfl, by simp [T.get_set, wrap_succ (show k ≤ 4611686018427387904 by omega)], by simp [T.get_set, hu, hfb, hfk], x2.ext x3, X.trans (e2.trans (x3.mono (Nat.le_of_lt x2.m.1)))⟩
    · rename_i hge
      rw [if_neg (by omega)] at hs
      have hfk : fineRun d k = true := by
        unfold fineRun; rw [hk?]
        simp only [show ¬ 0 ≤ d.runs[k] by omega, false_implies, decide_true]
      exact ⟨d.runs.length - (k + 1), by omega, k + 1, by omega, rfl, by simp [T.get_set, wrap_succ (show k ≤ 4611686018427387904 by omega)], by simp only [T.get_set, hu, hfk, Bool.and_true]; simpa using g3, by rw [hs]; exact x, X⟩
  · have e : k = d.runs.length := by omega
    subst e
    rw [List.take_length] at x
    repeat' (first | done | ((with_reducible refine brK_yes ?_ ?_); (· omega)) | ((with_reducible refine brK_no ?_ ?_); (· omega)) | (with_reducible refine brK_both (fun _ => ?_) (fun _ => ?_)) | ((with_reducible refine And.intro (And.intro ?_ ?_) ?_); (· omega); (· omega)) | ((with_reducible refine And.intro ?_ ?_); (· omega)) | ((with_reducible refine st_newM ?_ ?_); (· rfl)) | ((with_reducible refine bs_oneM ?_ ?_); (· rfl)) | (with_reducible refine bd_of (by with_unfolding_all (simp only [fillL_cons, fillL_nil, nth_eq, blt_eq, cond_beq, over, Value.cells, List.getElem?_cons_zero, List.getElem?_cons_succ, List.length_cons, List.length_nil, Nat.reduceAdd, Nat.reduceSub, Nat.reduceLT, Nat.reduceEqDiff, decide_true, cond_true, Option.map_some, if_true, if_false, Nat.add_one_sub_one, Nat.succ_ne_zero, reduceCtorEq, OfNat.ofNat]; rfl)) ?_) | (with_reducible refine bda_of (by with_unfolding_all rfl) ?_) | (simp -dsimp only [↓cw_ops, ↓cw_seq, ↓cw_exit, ↓cw_cond, ↓seqK_normal, ↓seqK_exit, ↓blockK_same, ↓loopK_exit, ↓getK_same, ↓getK_ne, ↓evK_tmp, ↓condV_var, ↓opsW_nil, ↓opsW_d, ↓opW_bin, ↓bin_lss, ↓s21_67_w, ↓s21_68_w, ↓r21_69_w, ↓s21_70_w, brK_false, ne_eq, Nat.reduceEqDiff, not_false_eq_true, Bool.false_eq_true,  ↓ek, ↓a21]))
    refine hK _ h' x X (cf.of ?_ ?_ ?_ ?_ ?_) ?_
    · simp only [T.get_set]; simpa using gt 1 rfl (by decide)
    · simp only [T.get_set]; simpa using gt 2 rfl (by decide)
    · simp only [T.get_set]; simpa using gt 4 rfl (by decide)
    · simp only [T.get_set]; simpa using gt 5 rfl (by decide)
    · simp only [T.get_set]; simpa using gt 6 rfl (by decide)
    · simp only [T.get_set]; simpa using g3
end Go.Proofs.Ytdjnedamphifcaa
