/- The law walked. -/
import Derived.Test.YtjcmcoabckkjoaaDoorOV
set_option linter.unusedSimpArgs false
set_option linter.unusedVariables false
namespace Go.Proofs.YtjcmcoabckkjoaaDoor.Or
open Go.Ev
set_option maxRecDepth 100000
set_option maxHeartbeats 400000
theorem known_ret {h : Heap} {K : Value → Heap → Prop} (ht : tabsOk tabs h = true) (hK : K (.bool true) h) : Ret env (.func 8) [] h K := by
  refine Ret.ext (v := .bool true) ?_ hK
  show extTab tabs (extNan 19 (extFl 18 10 fun _ _ _ => none)) 8 8 [] h = _
  simp only [extTab, Nat.beq_refl, cond_true, ht]
theorem tabs_ext {B : Nat} {h h' : Heap} (hB : 1 < B) (e : ExtB B h h') (ht : tabsOk tabs h = true) : tabsOk tabs h' = true := by
  simp only [tabsOk, tabs, List.all_cons, List.all_nil, Bool.and_true] at ht ⊢
  rw [e.get 1 hB]; exact ht
abbrev TK : Value → Heap → Prop := fun v _ => v = .bool true
/-- the last round: nothing was done to what was handed in -/
theorem law_c {B : Nat} {a : Option Addr} {c : Nat} {l : List Int} {x : Value} {fr : Fr} {h : Heap} (r : URow B h a l) (hlen : l.length ≤ 60) (rx : Rd h x (fOf l) l.length) (ht : tabsOk tabs h = true)
    (g0 : fr.get 0 = some (.slice a l.length c)) (g3 : fr.get 3 = some x) : s4_18.wp env 223 none fr h (resK env [.tmp 2] TK) := by
  obtain ⟨xa, xc, rfl, q⟩ := rx
  repeat' (first | done | with_reducible (first | refine y1 ?_ (by omega) | refine y2 ?_ (by omega) | refine y3 (fun _ => ?_) (fun _ => ?_) | refine y4 ?_ (by omega) (by omega) | refine y5 ?_ (by omega) | refine y6 ?_ (by with_unfolding_all rfl) | refine y7 ?_ (by with_unfolding_all rfl) | refine y8 ?_ (by with_unfolding_all rfl) | refine y9 ?_ (by with_unfolding_all rfl) | refine ya ?_ (by with_unfolding_all rfl)) | ((with_reducible refine And.intro ?_ ?_); (· omega)) | (simp -dsimp only [↓cw_ops, ↓cw_seq, ↓cw_block, ↓seqK_normal, ↓evK_int, ↓opsW_nil, ↓opsW_d, ↓opW_assign, ↓s4_14_w, ↓s4_15_w, ↓r4_16_w, ↓s4_17_w, ↓s4_18_w]))
  refine cw_loopI (fun z fr' h' => h' = h ∧ ∃ k : Nat, k ≤ l.length ∧ z = l.length - k ∧ fr'.get 13 = some (.int .i64 (k : Nat))) l.length ?_ (by omega) ?_
  · exact ⟨rfl, 0, by omega, by omega, by simp [T.get_set]⟩
  rintro z fr1 h' ⟨rfl, k, hk, rfl, y13⟩ hag
  have g13 := getK_of y13
  have a0 := getK_of (((hag 0 rfl).trans (by simp [T.get_set])).trans g0)
  have a3 := getK_of (((hag 3 rfl).trans (by simp [T.get_set])).trans g3)
  by_cases hlt : k < l.length
  · have c1 : (k : Int) < (l.length : Int) := by omega
    obtain ⟨b, off, rfl, hb, d1⟩ := r.at hlt
    obtain ⟨i, rfl, hi, d2⟩ := q k hlt
    have z1 : 0 + k * 1 = k := zero_add_one _
    have w1 : IntKind.i64.wrap ((k : Int) + 1) = ((k + 1 : Nat) : Int) := by rw [wrap_i64 (by omega) (by omega)]; omega
    have e1 : ((fOf l k : Nat) : Int) = l[k] := by rw [fOf_get hlt]; have := r.u _ (List.getElem_mem hlt); omega
    repeat' (first | done | with_reducible (first | refine y1 ?_ (by omega) | refine y2 ?_ (by omega) | refine y3 (fun _ => ?_) (fun _ => ?_) | refine y4 ?_ (by omega) (by omega) | refine y5 ?_ (by omega) | refine y6 ?_ (by with_unfolding_all rfl) | refine y7 ?_ (by with_unfolding_all rfl) | refine y8 ?_ (by with_unfolding_all rfl) | refine y9 ?_ (by with_unfolding_all rfl) | refine ya ?_ (by with_unfolding_all rfl)) | ((with_reducible refine And.intro ?_ ?_); (· omega)) | (simp -dsimp only [↓cw_skip, ↓cw_ops, ↓cw_plan, ↓cw_seq, ↓cw_block, ↓cw_cond, ↓seqK_normal, ↓getK_same, ↓getK_ne, ↓evK_tmp, ↓condV_var, ↓opsW_nil, ↓opsW_d, ↓planW_d, ↓agK_nil, ↓opW_move, ↓opW_bin, ↓bin_lss, ↓ld1_some, ↓idxS_some, ↓evs_nil, ↓evs_cons, ↓opW_call, ↓lenS_some, ↓len_22, ↓ia_25, ↓ld_27, ↓ia_22, ↓ld_23, ↓p4_7_w, ↓s4_8_w, ↓s4_9_w, ↓s4_10_w, ↓r4_11_w, ↓s4_12_w, ↓s4_13_w, onV_some', brK_true, Nat.le_refl, true_and, and_true, ne_eq, Nat.reduceEqDiff, not_false_eq_true, Addr.add_lit, Int.toNat_natCast, ↓g13, ↓a0, ↓a3, c1, z1, d1, d2]))
    refine bits_fl ?_
    rw [e1]
    repeat' (first | done | with_reducible (first | refine y1 ?_ (by omega) | refine y2 ?_ (by omega) | refine y3 (fun _ => ?_) (fun _ => ?_) | refine y4 ?_ (by omega) (by omega) | refine y5 ?_ (by omega) | refine y6 ?_ (by with_unfolding_all rfl) | refine y7 ?_ (by with_unfolding_all rfl) | refine y8 ?_ (by with_unfolding_all rfl) | refine y9 ?_ (by with_unfolding_all rfl) | refine ya ?_ (by with_unfolding_all rfl)) | ((with_reducible refine And.intro ?_ ?_); (· omega)) | (simp -dsimp only [↓cw_skip, ↓cw_ops, ↓cw_cond, ↓seqK_normal, ↓blockK_normal, ↓loopK_normal, ↓getK_same, ↓getK_ne, ↓evK_tmp, ↓evK_int, ↓evK_bool, ↓condV_var, ↓gdV_var, ↓opsW_nil, ↓opsW_d, ↓planW_nil, ↓planW_d, ↓planW_gd, ↓agK_nil, ↓opW_move, ↓opW_assign, ↓opW_pick, ↓opW_bin, ↓bin_add, ↓bin_neq, ↓ld1_some, ↓agK_load, ↓agV_same, ↓agV_ne, ↓agl_23, ↓r4_2_w, ↓s4_3_w, ↓s4_6_w, onV_some', brK_true, brK_false, Nat.le_refl, true_and, and_true, ne_eq, Nat.reduceEqDiff, not_false_eq_true, Addr.add_lit, Int.toNat_natCast, Bool.false_eq_true,  ↓g13, z1, d1, w1]))
    exact ⟨by simp [sameV], l.length - (k + 1), by omega, k + 1, by omega, rfl, by simp [T.get_set]⟩
  · have c1 : ¬ (k : Int) < (l.length : Int) := by omega
    repeat' (first | done | with_reducible (first | refine y1 ?_ (by omega) | refine y2 ?_ (by omega) | refine y3 (fun _ => ?_) (fun _ => ?_) | refine y4 ?_ (by omega) (by omega) | refine y5 ?_ (by omega) | refine y6 ?_ (by with_unfolding_all rfl) | refine y7 ?_ (by with_unfolding_all rfl) | refine y8 ?_ (by with_unfolding_all rfl) | refine y9 ?_ (by with_unfolding_all rfl) | refine ya ?_ (by with_unfolding_all rfl)) | ((with_reducible refine And.intro ?_ ?_); (· omega)) | (simp -dsimp only [↓cw_ops, ↓cw_seq, ↓cw_exit, ↓cw_cond, ↓seqK_normal, ↓seqK_exit, ↓blockK_same, ↓loopK_exit, ↓getK_same, ↓getK_ne, ↓evK_tmp, ↓condV_var, ↓opsW_nil, ↓opsW_d, ↓opW_move, ↓opW_bin, ↓bin_lss, ↓evs_nil, ↓opW_call, ↓lenS_some, ↓len_22, ↓r4_0_w, ↓s4_1_w, ↓s4_10_w, ↓r4_11_w, ↓s4_12_w, ↓s4_13_w, brK_false, ne_eq, Nat.reduceEqDiff, not_false_eq_true, Bool.false_eq_true,  ↓g13, ↓a0, c1]))
    refine known_ret ht ?_
    repeat' (first | done | with_reducible (first | refine y1 ?_ (by omega) | refine y2 ?_ (by omega) | refine y3 (fun _ => ?_) (fun _ => ?_) | refine y4 ?_ (by omega) (by omega) | refine y5 ?_ (by omega) | refine y6 ?_ (by with_unfolding_all rfl) | refine y7 ?_ (by with_unfolding_all rfl) | refine y8 ?_ (by with_unfolding_all rfl) | refine y9 ?_ (by with_unfolding_all rfl) | refine ya ?_ (by with_unfolding_all rfl)) | ((with_reducible refine And.intro ?_ ?_); (· omega)) | (simp -dsimp only [↓cw_ret, ↓seqK_normal, ↓getK_same, ↓evK_tmp, ↓opsW_nil, ↓opsW_d, ↓opW_assign, ↓resK_one]))
/-- a sorted copy, written over -/
theorem law_b {B : Nat} {a : Option Addr} {c : Nat} {l : List Int} {x : Value} {fr : Fr} {h : Heap} (r : URow B h a l) (hB : B ≤ h.n) (hh : 1 < h.n) (hlen : l.length ≤ 60) (rx : Rd h x (fOf l) l.length) (ht : tabsOk tabs h = true)
    (g0 : fr.get 0 = some (.slice a l.length c)) (g3 : fr.get 3 = some x) : s4_34.wp env 223 none fr h (resK env [.tmp 2] TK) := by
  have i3 := getK_of g3
  repeat' (first | done | with_reducible (first | refine y1 ?_ (by omega) | refine y2 ?_ (by omega) | refine y3 (fun _ => ?_) (fun _ => ?_) | refine y4 ?_ (by omega) (by omega) | refine y5 ?_ (by omega) | refine y6 ?_ (by with_unfolding_all rfl) | refine y7 ?_ (by with_unfolding_all rfl) | refine y8 ?_ (by with_unfolding_all rfl) | refine y9 ?_ (by with_unfolding_all rfl) | refine ya ?_ (by with_unfolding_all rfl)) | ((with_reducible refine And.intro ?_ ?_); (· omega)) | (simp -dsimp only [↓cw_ops, ↓cw_seq, ↓getK_same, ↓evK_tmp, ↓opsW_d, ↓opW_move, ↓evs_nil, ↓evs_cons, ↓opW_call, ↓r4_33_w, ↓s4_34_w, ↓i3]))
  refine sort_ret rx (by omega) r.bits fun g y h1 o X1 s so => ?_
  have n1 := X1.n
  have ry := rd_own o
  obtain ⟨ya, yc, rfl, q⟩ := id ry
  repeat' (first | done | with_reducible (first | refine y1 ?_ (by omega) | refine y2 ?_ (by omega) | refine y3 (fun _ => ?_) (fun _ => ?_) | refine y4 ?_ (by omega) (by omega) | refine y5 ?_ (by omega) | refine y6 ?_ (by with_unfolding_all rfl) | refine y7 ?_ (by with_unfolding_all rfl) | refine y8 ?_ (by with_unfolding_all rfl) | refine y9 ?_ (by with_unfolding_all rfl) | refine ya ?_ (by with_unfolding_all rfl)) | ((with_reducible refine And.intro ?_ ?_); (· omega)) | (simp -dsimp only [↓cw_ops, ↓cw_seq, ↓cw_block, ↓seqK_normal, ↓getK_same, ↓evK_tmp, ↓evK_int, ↓opsW_nil, ↓opsW_d, ↓opW_assign, ↓s4_28_w, ↓s4_29_w, ↓r4_30_w, ↓s4_31_w, ↓s4_32_w]))
  refine cw_loopI (fun z fr' h' => ∃ (k : Nat) (e : Nat → Nat), k ≤ l.length ∧ z = l.length - k ∧ fr'.get 12 = some (.int .i64 (k : Nat)) ∧ OwnS h.n h' 27 (.slice ya l.length yc) l.length (rowL e l.length) ∧ h'.n = h1.n ∧ ExtB h.n h h') l.length ?_ (by omega) ?_
  · exact ⟨0, g, by omega, by omega, by simp [T.get_set], o, rfl, X1⟩
  rintro z fr1 h2 ⟨k, e, hk, rfl, y12, o2, n2, X2⟩ hag
  have g12 := getK_of y12
  have u0 : fr1.get 0 = some (.slice a l.length c) := ((hag 0 rfl).trans (by simp [T.get_set])).trans g0
  have u3 : fr1.get 3 = some x := ((hag 3 rfl).trans (by simp [T.get_set])).trans g3
  have a11 := getK_eq (hag 11 rfl)
  by_cases hlt : k < l.length
  · have c1 : (k : Int) < (l.length : Int) := by omega
    generalize hL : l.length = N at *
    generalize hc : rowL e N = cs at o2
    cases o2 with
    | nil => omega
    | emp i hi => omega
    | row i n cs h1' h2' h3' =>
      rw [← hc] at h3'
      have z1 : 0 + k * 1 = k := zero_add_one _
      have w1 : IntKind.i64.wrap ((k : Int) + 1) = ((k + 1 : Nat) : Int) := by rw [wrap_i64 (by omega) (by omega)]; omega
      have up : Up h2 h2 i e N := Up.start h2' h3'
      repeat' (first | done | with_reducible (first | refine y1 ?_ (by omega) | refine y2 ?_ (by omega) | refine y3 (fun _ => ?_) (fun _ => ?_) | refine y4 ?_ (by omega) (by omega) | refine y5 ?_ (by omega) | refine y6 ?_ (by with_unfolding_all rfl) | refine y7 ?_ (by with_unfolding_all rfl) | refine y8 ?_ (by with_unfolding_all rfl) | refine y9 ?_ (by with_unfolding_all rfl) | refine ya ?_ (by with_unfolding_all rfl)) | ((with_reducible refine And.intro ?_ ?_); (· omega)) | (simp -dsimp only [↓cw_skip, ↓cw_ops, ↓cw_seq, ↓cw_block, ↓cw_cond, ↓seqK_normal, ↓getK_same, ↓getK_ne, ↓evK_tmp, ↓evK_float, ↓condV_var, ↓opsW_nil, ↓opsW_d, ↓opsW_n, ↓opW_move, ↓opW_bin, ↓bin_lss, ↓idxS_some, ↓lenS_some, ↓len_25, ↓ia_25, ↓st_27, ↓r4_21_w, ↓s4_22_w, ↓s4_23_w, ↓s4_24_w, ↓r4_25_w, ↓s4_26_w, ↓s4_27_w, brK_true, and_true, ne_eq, Nat.reduceEqDiff, not_false_eq_true, Addr.add_lit, Int.toNat_natCast, ↓g12, ↓a11, c1, z1]))
      refine up.put hlt fun h3 u3' => ?_
      have n3 := u3'.n
      repeat' (first | done | with_reducible (first | refine y1 ?_ (by omega) | refine y2 ?_ (by omega) | refine y3 (fun _ => ?_) (fun _ => ?_) | refine y4 ?_ (by omega) (by omega) | refine y5 ?_ (by omega) | refine y6 ?_ (by with_unfolding_all rfl) | refine y7 ?_ (by with_unfolding_all rfl) | refine y8 ?_ (by with_unfolding_all rfl) | refine y9 ?_ (by with_unfolding_all rfl) | refine ya ?_ (by with_unfolding_all rfl)) | ((with_reducible refine And.intro ?_ ?_); (· omega)) | (simp -dsimp only [↓cw_ops, ↓seqK_normal, ↓blockK_normal, ↓loopK_normal, ↓getK_same, ↓getK_ne, ↓evK_tmp, ↓evK_int, ↓opsW_nil, ↓opsW_d, ↓opW_move, ↓opW_assign, ↓opW_bin, ↓bin_add, ↓r4_19_w, ↓s4_20_w, ne_eq, Nat.reduceEqDiff, not_false_eq_true, Addr.add_lit, Int.toNat_natCast, ↓g12, w1]))
      exact ⟨N - (k + 1), by omega, k + 1, _, by omega, rfl, by simp [T.get_set], .row i N _ h1' u3'.lt' u3'.g, by omega, X2.trans ⟨by omega, fun j hj => u3'.o j (by omega)⟩⟩
  · have c1 : ¬ (k : Int) < (l.length : Int) := by omega
    repeat' (first | done | with_reducible (first | refine y1 ?_ (by omega) | refine y2 ?_ (by omega) | refine y3 (fun _ => ?_) (fun _ => ?_) | refine y4 ?_ (by omega) (by omega) | refine y5 ?_ (by omega) | refine y6 ?_ (by with_unfolding_all rfl) | refine y7 ?_ (by with_unfolding_all rfl) | refine y8 ?_ (by with_unfolding_all rfl) | refine y9 ?_ (by with_unfolding_all rfl) | refine ya ?_ (by with_unfolding_all rfl)) | ((with_reducible refine And.intro ?_ ?_); (· omega)) | (simp -dsimp only [↓cw_ops, ↓cw_seq, ↓cw_exit, ↓cw_cond, ↓seqK_normal, ↓seqK_exit, ↓blockK_same, ↓loopK_exit, ↓getK_same, ↓getK_ne, ↓evK_tmp, ↓condV_var, ↓opsW_nil, ↓opsW_d, ↓opW_move, ↓opW_bin, ↓bin_lss, ↓lenS_some, ↓len_25, ↓s4_24_w, ↓r4_25_w, ↓s4_26_w, ↓s4_27_w, brK_false, ne_eq, Nat.reduceEqDiff, not_false_eq_true, Bool.false_eq_true,  ↓g12, ↓a11, c1]))
    refine law_c (r.ext (X2.mono hB)) hlen (rx.ext X2) (tabs_ext hh X2 ht) (c := c) ?_ ?_
    · simp only [T.get_set]; simpa using u0
    · simp only [T.get_set]; simpa using u3
end Go.Proofs.YtjcmcoabckkjoaaDoor.Or

namespace Go.Proofs.YtjcmcoabckkjoaaDoor.Or
open Go.Ev
set_option maxRecDepth 100000
set_option maxHeartbeats 400000
theorem neq_self : ∀ b : Bool, (!(b == b)) = false := by decide
theorem sameF (n : Nat) : sameV 50 (.float .f64 n) (.float .f64 n) = true := by simp [sameV]
/-- who is ahead of whom -/
theorem law_a {B : Nat} {a : Option Addr} {c : Nat} {l : List Int} {x : Value} {fr : Fr} {h : Heap} (r : URow B h a l) (hB : B ≤ h.n) (hh : 1 < h.n) (hlen : l.length ≤ 60) (rx : Rd h x (fOf l) l.length) (ht : tabsOk tabs h = true)
    (g0 : fr.get 0 = some (.slice a l.length c)) (g3 : fr.get 3 = some x) : s4_68.wp env 223 none fr h (resK env [.tmp 2] TK) := by
  have hb := r.bits
  obtain ⟨xa, xc, rfl, q⟩ := id rx
  repeat' (first | done | with_reducible (first | refine y1 ?_ (by omega) | refine y2 ?_ (by omega) | refine y3 (fun _ => ?_) (fun _ => ?_) | refine y4 ?_ (by omega) (by omega) | refine y5 ?_ (by omega) | refine y6 ?_ (by with_unfolding_all rfl) | refine y7 ?_ (by with_unfolding_all rfl) | refine y8 ?_ (by with_unfolding_all rfl) | refine y9 ?_ (by with_unfolding_all rfl) | refine ya ?_ (by with_unfolding_all rfl)) | ((with_reducible refine And.intro ?_ ?_); (· omega)) | (simp -dsimp only [↓cw_ops, ↓cw_seq, ↓cw_block, ↓seqK_normal, ↓evK_int, ↓opsW_nil, ↓opsW_d, ↓opW_assign, ↓s4_64_w, ↓s4_65_w, ↓r4_66_w, ↓s4_67_w, ↓s4_68_w]))
  refine cw_loopI (fun z fr' h' => h' = h ∧ ∃ k : Nat, k ≤ l.length ∧ z = l.length - k ∧ fr'.get 9 = some (.int .i64 (k : Nat))) l.length ?_ (by omega) ?_
  · exact ⟨rfl, 0, by omega, by omega, by simp [T.get_set]⟩
  rintro z fr1 h' ⟨rfl, k, hk, rfl, y9⟩ hag
  have g9 := getK_of y9
  have u0 : fr1.get 0 = some (.slice a l.length c) := ((hag 0 rfl).trans (by simp [T.get_set])).trans g0
  have u3 : fr1.get 3 = some (.slice xa l.length xc) := ((hag 3 rfl).trans (by simp [T.get_set])).trans g3
  have a3 := getK_of u3
  by_cases hlt : k < l.length
  · have c1 : (k : Int) < (l.length : Int) := by omega
    obtain ⟨i, rfl, hi, d1⟩ := q k hlt
    have z1 : 0 + k * 1 = k := zero_add_one _
    have w1 : IntKind.i64.wrap ((k : Int) + 1) = ((k + 1 : Nat) : Int) := by rw [wrap_i64 (by omega) (by omega)]; omega
    have bk := hb k hlt
    repeat' (first | done | with_reducible (first | refine y1 ?_ (by omega) | refine y2 ?_ (by omega) | refine y3 (fun _ => ?_) (fun _ => ?_) | refine y4 ?_ (by omega) (by omega) | refine y5 ?_ (by omega) | refine y6 ?_ (by with_unfolding_all rfl) | refine y7 ?_ (by with_unfolding_all rfl) | refine y8 ?_ (by with_unfolding_all rfl) | refine y9 ?_ (by with_unfolding_all rfl) | refine ya ?_ (by with_unfolding_all rfl)) | ((with_reducible refine And.intro ?_ ?_); (· omega)) | (simp -dsimp only [↓cw_skip, ↓cw_ops, ↓cw_seq, ↓cw_block, ↓cw_cond, ↓seqK_normal, ↓getK_same, ↓getK_ne, ↓evK_tmp, ↓evK_int, ↓condV_var, ↓opsW_nil, ↓opsW_d, ↓opW_move, ↓opW_assign, ↓opW_bin, ↓bin_lss, ↓lenS_some, ↓len_25, ↓s4_54_w, ↓s4_55_w, ↓r4_56_w, ↓s4_57_w, ↓s4_58_w, ↓s4_59_w, ↓s4_60_w, ↓r4_61_w, ↓s4_62_w, ↓s4_63_w, brK_true, ne_eq, Nat.reduceEqDiff, not_false_eq_true, ↓g9, ↓a3, c1]))
    refine cw_loopI (fun z fr' h2 => h2 = h' ∧ ∃ p : Nat, p ≤ l.length ∧ z = l.length - p ∧ fr'.get 10 = some (.int .i64 (p : Nat))) l.length ?_ (by omega) ?_
    · exact ⟨rfl, 0, by omega, by omega, by simp [T.get_set]⟩
    rintro z fr2 h2 ⟨rfl, p, hp, rfl, y10⟩ hag2
    have g10 := getK_of y10
    have v9 : fr2.get 9 = some (.int .i64 (k : Nat)) := ((hag2 9 rfl).trans (by simp [T.get_set])).trans y9
    have v3 : fr2.get 3 = some (.slice (some ⟨i, 0, none⟩) l.length xc) := ((hag2 3 rfl).trans (by simp [T.get_set])).trans u3
    have b9 := getK_of v9
    have b3 := getK_of v3
    by_cases hpl : p < l.length
    · have c2 : (p : Int) < (l.length : Int) := by omega
      obtain ⟨i', e', _, d2⟩ := q p hpl
      cases e'
      have z2 : 0 + p * 1 = p := zero_add_one _
      have w2 : IntKind.i64.wrap ((p : Int) + 1) = ((p + 1 : Nat) : Int) := by rw [wrap_i64 (by omega) (by omega)]; omega
      have bp := hb p hpl
      have s1 := sameF (fOf l k)
      have s2 := sameF (fOf l p)
      repeat' (first | done | with_reducible (first | refine y1 ?_ (by omega) | refine y2 ?_ (by omega) | refine y3 (fun _ => ?_) (fun _ => ?_) | refine y4 ?_ (by omega) (by omega) | refine y5 ?_ (by omega) | refine y6 ?_ (by with_unfolding_all rfl) | refine y7 ?_ (by with_unfolding_all rfl) | refine y8 ?_ (by with_unfolding_all rfl) | refine y9 ?_ (by with_unfolding_all rfl) | refine ya ?_ (by with_unfolding_all rfl)) | ((with_reducible refine And.intro ?_ ?_); (· omega)) | (simp -dsimp only [↓cw_skip, ↓cw_ops, ↓cw_plan, ↓cw_seq, ↓cw_block, ↓cw_cond, ↓seqK_normal, ↓getK_same, ↓getK_ne, ↓evK_tmp, ↓condV_var, ↓opsW_nil, ↓opsW_d, ↓planW_d, ↓agK_nil, ↓opW_move, ↓opW_bin, ↓bin_lss, ↓ld1_some, ↓idxS_some, ↓evs_nil, ↓evs_cons, ↓opW_call, ↓lenS_some, ↓len_25, ↓ia_25, ↓ld_27, ↓p4_47_w, ↓s4_48_w, ↓s4_49_w, ↓s4_50_w, ↓r4_51_w, ↓s4_52_w, ↓s4_53_w, onV_some', brK_true, Nat.le_refl, true_and, and_true, ne_eq, Nat.reduceEqDiff, not_false_eq_true, Addr.add_lit, Int.toNat_natCast, ↓g10, ↓b9, ↓b3, c2, z1, z2, d1, d2]))
      refine less_ret bk bp ?_
      repeat' (first | done | with_reducible (first | refine y1 ?_ (by omega) | refine y2 ?_ (by omega) | refine y3 (fun _ => ?_) (fun _ => ?_) | refine y4 ?_ (by omega) (by omega) | refine y5 ?_ (by omega) | refine y6 ?_ (by with_unfolding_all rfl) | refine y7 ?_ (by with_unfolding_all rfl) | refine y8 ?_ (by with_unfolding_all rfl) | refine y9 ?_ (by with_unfolding_all rfl) | refine ya ?_ (by with_unfolding_all rfl)) | ((with_reducible refine And.intro ?_ ?_); (· omega)) | (simp -dsimp only [↓getK_same, ↓getK_ne, ↓evK_tmp, ↓planW_d, ↓agK_nil, ↓ld1_some, ↓evs_nil, ↓evs_cons, ↓opW_call, ↓agK_load, ↓agV_same, ↓agV_ne, ↓agl_27, onV_some', true_and, and_true, ne_eq, Nat.reduceEqDiff, not_false_eq_true, Addr.add_lit, Int.toNat_natCast, z1, z2, d1, d2, agl_27, s1, s2]))
      refine rless_ret bk bp ?_
      cases hb1 : decide (keyN (fOf l k) < keyN (fOf l p)) with
      | true =>
        have hlt2 := of_decide_eq_true hb1
        repeat' (first | done | with_reducible (first | refine y1 ?_ (by omega) | refine y2 ?_ (by omega) | refine y3 (fun _ => ?_) (fun _ => ?_) | refine y4 ?_ (by omega) (by omega) | refine y5 ?_ (by omega) | refine y6 ?_ (by with_unfolding_all rfl) | refine y7 ?_ (by with_unfolding_all rfl) | refine y8 ?_ (by with_unfolding_all rfl) | refine y9 ?_ (by with_unfolding_all rfl) | refine ya ?_ (by with_unfolding_all rfl)) | ((with_reducible refine And.intro ?_ ?_); (· omega)) | (simp -dsimp only [↓getK_same, ↓getK_ne, ↓evK_tmp, ↓gdV_var, ↓planW_d, ↓planW_gd, ↓agK_nil, ↓opW_move, ↓opW_bin, ↓ld1_some, ↓idxS_some, ↓evs_nil, ↓evs_cons, ↓opW_call, ↓ia_25, ↓ld_27, onV_some', brK_true, Nat.le_refl, true_and, and_true, ne_eq, Nat.reduceEqDiff, not_false_eq_true, Addr.add_lit, Int.toNat_natCast, ↓g10, ↓b9, ↓b3, c2, z1, z2, d1, d2, bin_neqB isBool4, neq_self]))
        refine ssame_ret bk bp ?_
        repeat' (first | done | with_reducible (first | refine y1 ?_ (by omega) | refine y2 ?_ (by omega) | refine y3 (fun _ => ?_) (fun _ => ?_) | refine y4 ?_ (by omega) (by omega) | refine y5 ?_ (by omega) | refine y6 ?_ (by with_unfolding_all rfl) | refine y7 ?_ (by with_unfolding_all rfl) | refine y8 ?_ (by with_unfolding_all rfl) | refine y9 ?_ (by with_unfolding_all rfl) | refine ya ?_ (by with_unfolding_all rfl)) | ((with_reducible refine And.intro ?_ ?_); (· omega)) | (simp -dsimp only [↓getK_same, ↓getK_ne, ↓evK_tmp, ↓gdV_var, ↓planW_gd, ↓agK_nil, ↓ld1_some, ↓evs_nil, ↓evs_cons, ↓opW_call, ↓agK_loadG, ↓agV_same, ↓agV_ne, ↓agl_27, onV_some', brK_true, true_and, and_true, ne_eq, Nat.reduceEqDiff, not_false_eq_true, Addr.add_lit, Int.toNat_natCast, z1, z2, d1, d2, agl_27, s1, s2, neq_self]))
        refine rsame_ret bk bp ?_
        repeat' (first | done | with_reducible (first | refine y1 ?_ (by omega) | refine y2 ?_ (by omega) | refine y3 (fun _ => ?_) (fun _ => ?_) | refine y4 ?_ (by omega) (by omega) | refine y5 ?_ (by omega) | refine y6 ?_ (by with_unfolding_all rfl) | refine y7 ?_ (by with_unfolding_all rfl) | refine y8 ?_ (by with_unfolding_all rfl) | refine y9 ?_ (by with_unfolding_all rfl) | refine ya ?_ (by with_unfolding_all rfl)) | ((with_reducible refine And.intro ?_ ?_); (· omega)) | (simp -dsimp only [↓getK_same, ↓getK_ne, ↓evK_tmp, ↓condV_var, ↓gdV_var, ↓planW_d, ↓planW_gd, ↓agK_nil, ↓opW_move, ↓opW_pick, ↓opW_bin, ↓ld1_some, ↓idxS_some, ↓evs_nil, ↓evs_cons, ↓opW_call, ↓ia_25, ↓ld_27, onV_some', brK_true, brK_false, Nat.le_refl, true_and, and_true, ne_eq, Nat.reduceEqDiff, not_false_eq_true, Addr.add_lit, Int.toNat_natCast, Bool.false_eq_true,  ↓g10, ↓b9, ↓b3, c2, z1, z2, d1, d2, bin_neqB isBool4, neq_self]))
        refine less_ret bk bp ?_
        rw [hb1]
        repeat' (first | done | with_reducible (first | refine y1 ?_ (by omega) | refine y2 ?_ (by omega) | refine y3 (fun _ => ?_) (fun _ => ?_) | refine y4 ?_ (by omega) (by omega) | refine y5 ?_ (by omega) | refine y6 ?_ (by with_unfolding_all rfl) | refine y7 ?_ (by with_unfolding_all rfl) | refine y8 ?_ (by with_unfolding_all rfl) | refine y9 ?_ (by with_unfolding_all rfl) | refine ya ?_ (by with_unfolding_all rfl)) | ((with_reducible refine And.intro ?_ ?_); (· omega)) | (simp -dsimp only [↓getK_same, ↓getK_ne, ↓evK_tmp, ↓gdV_var, ↓planW_gd, ↓agK_nil, ↓opW_move, ↓ld1_some, ↓idxS_some, ↓evs_nil, ↓evs_cons, ↓opW_call, ↓ia_25, ↓ld_27, onV_some', brK_true, Nat.le_refl, true_and, and_true, ne_eq, Nat.reduceEqDiff, not_false_eq_true, Addr.add_lit, Int.toNat_natCast, ↓g10, ↓b9, ↓b3, c2, z1, z2, d1, d2, neq_self]))
        refine less_ret bp bk ?_
        rw [decide_eq_false (p := keyN (fOf l p) < keyN (fOf l k)) (by omega)]
        repeat' (first | done | with_reducible (first | refine y1 ?_ (by omega) | refine y2 ?_ (by omega) | refine y3 (fun _ => ?_) (fun _ => ?_) | refine y4 ?_ (by omega) (by omega) | refine y5 ?_ (by omega) | refine y6 ?_ (by with_unfolding_all rfl) | refine y7 ?_ (by with_unfolding_all rfl) | refine y8 ?_ (by with_unfolding_all rfl) | refine y9 ?_ (by with_unfolding_all rfl) | refine ya ?_ (by with_unfolding_all rfl)) | ((with_reducible refine And.intro ?_ ?_); (· omega)) | (simp -dsimp only [↓cw_skip, ↓cw_ops, ↓cw_cond, ↓seqK_normal, ↓blockK_normal, ↓loopK_normal, ↓getK_same, ↓getK_ne, ↓evK_tmp, ↓evK_int, ↓condV_var, ↓gdV_var, ↓opsW_nil, ↓opsW_d, ↓planW_nil, ↓planW_d, ↓planW_gd, ↓agK_nil, ↓opW_move, ↓opW_assign, ↓opW_pick, ↓opW_bin, ↓bin_add, ↓r4_42_w, ↓s4_43_w, ↓s4_46_w, brK_true, brK_false, Nat.le_refl, true_and, ne_eq, Nat.reduceEqDiff, not_false_eq_true, Addr.add_lit, Int.toNat_natCast, Bool.false_eq_true,  ↓g10, z1, z2, neq_self, w2]))
        exact ⟨l.length - (p + 1), by omega, p + 1, by omega, rfl, by simp [T.get_set]⟩
      | false =>
        repeat' (first | done | with_reducible (first | refine y1 ?_ (by omega) | refine y2 ?_ (by omega) | refine y3 (fun _ => ?_) (fun _ => ?_) | refine y4 ?_ (by omega) (by omega) | refine y5 ?_ (by omega) | refine y6 ?_ (by with_unfolding_all rfl) | refine y7 ?_ (by with_unfolding_all rfl) | refine y8 ?_ (by with_unfolding_all rfl) | refine y9 ?_ (by with_unfolding_all rfl) | refine ya ?_ (by with_unfolding_all rfl)) | ((with_reducible refine And.intro ?_ ?_); (· omega)) | (simp -dsimp only [↓getK_same, ↓getK_ne, ↓evK_tmp, ↓gdV_var, ↓planW_d, ↓planW_gd, ↓agK_nil, ↓opW_move, ↓opW_bin, ↓ld1_some, ↓idxS_some, ↓evs_nil, ↓evs_cons, ↓opW_call, ↓ia_25, ↓ld_27, onV_some', brK_true, Nat.le_refl, true_and, and_true, ne_eq, Nat.reduceEqDiff, not_false_eq_true, Addr.add_lit, Int.toNat_natCast, ↓g10, ↓b9, ↓b3, c2, z1, z2, d1, d2, bin_neqB isBool4, neq_self]))
        refine ssame_ret bk bp ?_
        repeat' (first | done | with_reducible (first | refine y1 ?_ (by omega) | refine y2 ?_ (by omega) | refine y3 (fun _ => ?_) (fun _ => ?_) | refine y4 ?_ (by omega) (by omega) | refine y5 ?_ (by omega) | refine y6 ?_ (by with_unfolding_all rfl) | refine y7 ?_ (by with_unfolding_all rfl) | refine y8 ?_ (by with_unfolding_all rfl) | refine y9 ?_ (by with_unfolding_all rfl) | refine ya ?_ (by with_unfolding_all rfl)) | ((with_reducible refine And.intro ?_ ?_); (· omega)) | (simp -dsimp only [↓getK_same, ↓getK_ne, ↓evK_tmp, ↓gdV_var, ↓planW_gd, ↓agK_nil, ↓ld1_some, ↓evs_nil, ↓evs_cons, ↓opW_call, ↓agK_loadG, ↓agV_same, ↓agV_ne, ↓agl_27, onV_some', brK_true, true_and, and_true, ne_eq, Nat.reduceEqDiff, not_false_eq_true, Addr.add_lit, Int.toNat_natCast, z1, z2, d1, d2, agl_27, s1, s2, neq_self]))
        refine rsame_ret bk bp ?_
        repeat' (first | done | with_reducible (first | refine y1 ?_ (by omega) | refine y2 ?_ (by omega) | refine y3 (fun _ => ?_) (fun _ => ?_) | refine y4 ?_ (by omega) (by omega) | refine y5 ?_ (by omega) | refine y6 ?_ (by with_unfolding_all rfl) | refine y7 ?_ (by with_unfolding_all rfl) | refine y8 ?_ (by with_unfolding_all rfl) | refine y9 ?_ (by with_unfolding_all rfl) | refine ya ?_ (by with_unfolding_all rfl)) | ((with_reducible refine And.intro ?_ ?_); (· omega)) | (simp -dsimp only [↓getK_same, ↓getK_ne, ↓evK_tmp, ↓condV_var, ↓gdV_var, ↓planW_d, ↓planW_gd, ↓agK_nil, ↓opW_move, ↓opW_pick, ↓opW_bin, ↓ld1_some, ↓idxS_some, ↓evs_nil, ↓evs_cons, ↓opW_call, ↓ia_25, ↓ld_27, onV_some', brK_true, brK_false, Nat.le_refl, true_and, and_true, ne_eq, Nat.reduceEqDiff, not_false_eq_true, Addr.add_lit, Int.toNat_natCast, Bool.false_eq_true,  ↓g10, ↓b9, ↓b3, c2, z1, z2, d1, d2, bin_neqB isBool4, neq_self]))
        refine less_ret bk bp ?_
        rw [hb1]
        repeat' (first | done | with_reducible (first | refine y1 ?_ (by omega) | refine y2 ?_ (by omega) | refine y3 (fun _ => ?_) (fun _ => ?_) | refine y4 ?_ (by omega) (by omega) | refine y5 ?_ (by omega) | refine y6 ?_ (by with_unfolding_all rfl) | refine y7 ?_ (by with_unfolding_all rfl) | refine y8 ?_ (by with_unfolding_all rfl) | refine y9 ?_ (by with_unfolding_all rfl) | refine ya ?_ (by with_unfolding_all rfl)) | ((with_reducible refine And.intro ?_ ?_); (· omega)) | (simp -dsimp only [↓cw_skip, ↓cw_ops, ↓cw_cond, ↓seqK_normal, ↓blockK_normal, ↓loopK_normal, ↓getK_same, ↓getK_ne, ↓evK_tmp, ↓evK_int, ↓evK_bool, ↓condV_var, ↓gdV_var, ↓opsW_nil, ↓opsW_d, ↓planW_nil, ↓planW_d, ↓planW_gd, ↓agK_nil, ↓opW_move, ↓opW_assign, ↓opW_pick, ↓opW_bin, ↓bin_add, ↓r4_42_w, ↓s4_43_w, ↓s4_46_w, brK_true, brK_false, Nat.le_refl, true_and, ne_eq, Nat.reduceEqDiff, not_false_eq_true, Addr.add_lit, Int.toNat_natCast, Bool.false_eq_true,  ↓g10, z1, z2, neq_self, w2]))
        exact ⟨l.length - (p + 1), by omega, p + 1, by omega, rfl, by simp [T.get_set]⟩
    · have c2 : ¬ (p : Int) < (l.length : Int) := by omega
      have s1 := sameF (fOf l k)
      repeat' (first | done | with_reducible (first | refine y1 ?_ (by omega) | refine y2 ?_ (by omega) | refine y3 (fun _ => ?_) (fun _ => ?_) | refine y4 ?_ (by omega) (by omega) | refine y5 ?_ (by omega) | refine y6 ?_ (by with_unfolding_all rfl) | refine y7 ?_ (by with_unfolding_all rfl) | refine y8 ?_ (by with_unfolding_all rfl) | refine y9 ?_ (by with_unfolding_all rfl) | refine ya ?_ (by with_unfolding_all rfl)) | ((with_reducible refine And.intro ?_ ?_); (· omega)) | (simp -dsimp only [↓cw_ops, ↓cw_plan, ↓cw_seq, ↓cw_exit, ↓cw_cond, ↓seqK_normal, ↓seqK_exit, ↓blockK_same, ↓loopK_exit, ↓getK_same, ↓getK_ne, ↓evK_tmp, ↓condV_var, ↓opsW_nil, ↓opsW_d, ↓planW_d, ↓agK_nil, ↓opW_move, ↓opW_bin, ↓bin_lss, ↓ld1_some, ↓idxS_some, ↓evs_nil, ↓evs_cons, ↓opW_call, ↓lenS_some, ↓len_25, ↓ia_25, ↓ld_27, ↓p4_40_w, ↓s4_41_w, ↓s4_50_w, ↓r4_51_w, ↓s4_52_w, ↓s4_53_w, onV_some', brK_false, Nat.le_refl, true_and, ne_eq, Nat.reduceEqDiff, not_false_eq_true, Addr.add_lit, Int.toNat_natCast, Bool.false_eq_true,  ↓g10, ↓b9, ↓b3, c2, z1, d1]))
      refine less_ret bk bk ?_
      rw [decide_eq_false (p := keyN (fOf l k) < keyN (fOf l k)) (by omega)]
      repeat' (first | done | with_reducible (first | refine y1 ?_ (by omega) | refine y2 ?_ (by omega) | refine y3 (fun _ => ?_) (fun _ => ?_) | refine y4 ?_ (by omega) (by omega) | refine y5 ?_ (by omega) | refine y6 ?_ (by with_unfolding_all rfl) | refine y7 ?_ (by with_unfolding_all rfl) | refine y8 ?_ (by with_unfolding_all rfl) | refine y9 ?_ (by with_unfolding_all rfl) | refine ya ?_ (by with_unfolding_all rfl)) | ((with_reducible refine And.intro ?_ ?_); (· omega)) | (simp -dsimp only [↓getK_same, ↓getK_ne, ↓evK_tmp, ↓gdV_var, ↓planW_d, ↓planW_gd, ↓agK_nil, ↓opW_move, ↓ld1_some, ↓idxS_some, ↓evs_nil, ↓evs_cons, ↓opW_call, ↓ia_25, ↓ld_27, onV_some', brK_true, Nat.le_refl, true_and, ne_eq, Nat.reduceEqDiff, not_false_eq_true, Addr.add_lit, Int.toNat_natCast, ↓b9, ↓b3, z1, d1]))
      refine ssame_ret bk bk ?_
      rw [decide_eq_true rfl]
      repeat' (first | done | with_reducible (first | refine y1 ?_ (by omega) | refine y2 ?_ (by omega) | refine y3 (fun _ => ?_) (fun _ => ?_) | refine y4 ?_ (by omega) (by omega) | refine y5 ?_ (by omega) | refine y6 ?_ (by with_unfolding_all rfl) | refine y7 ?_ (by with_unfolding_all rfl) | refine y8 ?_ (by with_unfolding_all rfl) | refine y9 ?_ (by with_unfolding_all rfl) | refine ya ?_ (by with_unfolding_all rfl)) | ((with_reducible refine And.intro ?_ ?_); (· omega)) | (simp -dsimp only [↓cw_skip, ↓cw_ops, ↓cw_cond, ↓seqK_normal, ↓blockK_normal, ↓loopK_normal, ↓getK_same, ↓getK_ne, ↓evK_tmp, ↓evK_int, ↓condV_var, ↓gdV_var, ↓opsW_nil, ↓opsW_d, ↓planW_nil, ↓planW_d, ↓planW_gd, ↓agK_nil, ↓opW_move, ↓opW_assign, ↓opW_pick, ↓opW_bin, ↓bin_add, ↓opW_un, ↓un_not, ↓r4_35_w, ↓s4_36_w, ↓s4_39_w, brK_true, brK_false, Nat.le_refl, true_and, ne_eq, Nat.reduceEqDiff, not_false_eq_true, Addr.add_lit, Int.toNat_natCast, Bool.false_eq_true,  ↓b9, z1, Bool.not_true, w1]))
      exact ⟨l.length - (k + 1), by omega, k + 1, by omega, rfl, by simp [T.get_set]⟩
  · have c1 : ¬ (k : Int) < (l.length : Int) := by omega
    repeat' (first | done | with_reducible (first | refine y1 ?_ (by omega) | refine y2 ?_ (by omega) | refine y3 (fun _ => ?_) (fun _ => ?_) | refine y4 ?_ (by omega) (by omega) | refine y5 ?_ (by omega) | refine y6 ?_ (by with_unfolding_all rfl) | refine y7 ?_ (by with_unfolding_all rfl) | refine y8 ?_ (by with_unfolding_all rfl) | refine y9 ?_ (by with_unfolding_all rfl) | refine ya ?_ (by with_unfolding_all rfl)) | ((with_reducible refine And.intro ?_ ?_); (· omega)) | (simp -dsimp only [↓cw_ops, ↓cw_seq, ↓cw_exit, ↓cw_cond, ↓seqK_normal, ↓seqK_exit, ↓blockK_same, ↓loopK_exit, ↓getK_same, ↓getK_ne, ↓evK_tmp, ↓condV_var, ↓opsW_nil, ↓opsW_d, ↓opW_move, ↓opW_bin, ↓bin_lss, ↓lenS_some, ↓len_25, ↓s4_60_w, ↓r4_61_w, ↓s4_62_w, ↓s4_63_w, brK_false, ne_eq, Nat.reduceEqDiff, not_false_eq_true, Bool.false_eq_true,  ↓g9, ↓a3, c1]))
    refine law_b r hB hh hlen rx ht (c := c) ?_ ?_
    · simp only [T.get_set]; simpa using u0
    · simp only [T.get_set]; simpa using u3
end Go.Proofs.YtjcmcoabckkjoaaDoor.Or

namespace Go.Proofs.YtjcmcoabckkjoaaDoor.Or
open Go.Ev
set_option maxRecDepth 100000
set_option maxHeartbeats 400000
theorem medV_congr {g g' : Nat → Nat} {M : Nat} (h : ∀ k, k < M → g k = g' k) : medV g M = medV g' M := by
  unfold medV
  by_cases h0 : M = 0
  · rw [if_pos h0, if_pos h0]
  · rw [if_neg h0, if_neg h0, h (M / 2) (by omega), h (M / 2 - 1) (by omega)]
theorem perm_len {f : Nat → Nat} {N : Nat} {ns : List Nat} (hp : ns.Perm (bitsL f N)) : ns.length = N := by have := hp.length_eq; rwa [bitsL_len] at this
theorem perm_bits {f : Nat → Nat} {N : Nat} {ns : List Nat} (hp : ns.Perm (bitsL f N)) (hf : Bits f N) : Bits (nth0 ns) N := fun k hk => by
  have hl := perm_len hp
  have e : nth0 ns k = ns[k] := by simp [nth0, hl, hk]
  rw [e]
  obtain ⟨t, ht, e⟩ := List.mem_map.1 (hp.mem_iff.1 (List.getElem_mem (by omega : k < ns.length)))
  rw [← e]; exact hf t (List.mem_range.1 ht)
/-- both orders of a row, place by place -/
theorem orders_same {f g : Nat → Nat} {N : Nat} {ns : List Nat} (hp : ns.Perm (bitsL f N)) (hs : SortL ns) (s : Sw 0 N f g) (so : SortedN g 0 N) : ∀ k, k < N → keyN (g k) = keyN (nth0 ns k) := fun k hk => by
  have hl := perm_len hp
  have hg : (bitsL g N).Perm (bitsL f N) := s.perm (Nat.le_refl N)
  have e := keys_eq (hp.trans hg.symm) hs so.list
  have := congrArg (·[k]?) e
  simp only [List.getElem?_map] at this
  rw [List.getElem?_eq_getElem (by omega), List.getElem?_eq_getElem (by rw [bitsL_len]; omega), bitsL_get] at this
  have e2 : nth0 ns k = ns[k] := by simp [nth0, hl, hk]
  rw [e2]
  simpa using this.symm
theorem law4_ret {B : Nat} {a : Option Addr} {c : Nat} {l : List Int} {h : Heap} (r : URow B h a l) (hB : B ≤ h.n) (hh : 1 < h.n) (ht : tabsOk tabs h = true) : Ret env (.func 4) [.slice a l.length c] h TK := by
  refine F4 rfl ?_
  by_cases hlen : l.length ≤ 60
  · have f0 : ¬ (60 : Int) < (l.length : Int) := by omega
    have hb := r.bits
    repeat' (first | done | with_reducible (first | refine y1 ?_ (by omega) | refine y2 ?_ (by omega) | refine y3 (fun _ => ?_) (fun _ => ?_) | refine y4 ?_ (by omega) (by omega) | refine y5 ?_ (by omega) | refine y6 ?_ (by with_unfolding_all rfl) | refine y7 ?_ (by with_unfolding_all rfl) | refine y8 ?_ (by with_unfolding_all rfl) | refine y9 ?_ (by with_unfolding_all rfl) | refine ya ?_ (by with_unfolding_all rfl)) | ((with_reducible refine And.intro ?_ ?_); (· omega)) | (simp -dsimp only [↓cw_skip, ↓cw_ops, ↓cw_seq, ↓cw_cond, ↓seqK_normal, ↓getK_same, ↓getK_ne, ↓evK_tmp, ↓evK_int, ↓evK_bool, ↓condV_var, ↓opsW_nil, ↓opsW_d, ↓opW_move, ↓opW_assign, ↓opW_bin, ↓bin_gtr, ↓evs_nil, ↓evs_cons, ↓opW_call, ↓lenS_some, ↓setAll_cons, ↓setAll_nil, ↓len_22, ↓r4_87_w, ↓s4_88_w, ↓s4_91_w, ↓r4_92_w, ↓s4_93_w, ↓s4_94_w, ↓r4_95_w, ↓s4_96_w, brK_false, ne_eq, Nat.reduceEqDiff, not_false_eq_true, Bool.false_eq_true,  f0]))
    refine numbers9_ret r hB (by omega) fun x h1 o1 X1 => ?_
    have n1 := X1.n
    have rx1 := rd_own o1
    repeat' (first | done | with_reducible (first | refine y1 ?_ (by omega) | refine y2 ?_ (by omega) | refine y3 (fun _ => ?_) (fun _ => ?_) | refine y4 ?_ (by omega) (by omega) | refine y5 ?_ (by omega) | refine y6 ?_ (by with_unfolding_all rfl) | refine y7 ?_ (by with_unfolding_all rfl) | refine y8 ?_ (by with_unfolding_all rfl) | refine y9 ?_ (by with_unfolding_all rfl) | refine ya ?_ (by with_unfolding_all rfl)) | ((with_reducible refine And.intro ?_ ?_); (· omega)) | (simp -dsimp only [↓cw_ops, ↓cw_seq, ↓seqK_normal, ↓getK_same, ↓evK_tmp, ↓opsW_nil, ↓opsW_d, ↓opW_move, ↓opW_assign, ↓evs_nil, ↓evs_cons, ↓opW_call, ↓r4_85_w, ↓s4_86_w]))
    refine rnumbers_ret rx1 (by omega) hb fun ns nv h2 o2 X2 hp hs => ?_
    have n2 := X2.n
    have rn2 := rd_list o2
    have lM := flt_len hp
    have bU := flt_bits hp hb
    have same : ∀ g M, Sw 0 l.length (fOf l) g → SortedN g 0 l.length → NanFrom g l.length M → M = (flt ns).length ∧ ∀ k, k < M → g k = nth0 (flt ns) k := fun g M s so nf => by
      obtain ⟨_, e⟩ := uniq hp hs s so nf hb
      rw [e, bitsL_len]
      exact ⟨rfl, fun k hk => (nth0_bits g hk).symm⟩
    have same2 : ∀ ns', ns'.Perm (bitsL (fOf l) l.length) → SortL ns' → ∀ g M, Sw 0 l.length (fOf l) g → SortedN g 0 l.length → NanFrom g l.length M → flt ns' = flt ns := fun ns' hp' hs' g M s so nf => by
      rw [(uniq hp hs s so nf hb).2, (uniq hp' hs' s so nf hb).2]
    generalize flt ns = U at *
    generalize hM : U.length = M at *
    generalize hu : nth0 U = u at *
    repeat' (first | done | with_reducible (first | refine y1 ?_ (by omega) | refine y2 ?_ (by omega) | refine y3 (fun _ => ?_) (fun _ => ?_) | refine y4 ?_ (by omega) (by omega) | refine y5 ?_ (by omega) | refine y6 ?_ (by with_unfolding_all rfl) | refine y7 ?_ (by with_unfolding_all rfl) | refine y8 ?_ (by with_unfolding_all rfl) | refine y9 ?_ (by with_unfolding_all rfl) | refine ya ?_ (by with_unfolding_all rfl)) | ((with_reducible refine And.intro ?_ ?_); (· omega)) | (simp -dsimp only [↓cw_ops, ↓cw_seq, ↓seqK_normal, ↓getK_same, ↓getK_ne, ↓evK_tmp, ↓opsW_nil, ↓opsW_d, ↓opW_move, ↓opW_assign, ↓evs_nil, ↓evs_cons, ↓opW_call, ↓r4_83_w, ↓s4_84_w, ne_eq, Nat.reduceEqDiff, not_false_eq_true]))
    refine least_ret (rx1.ext X2) (by omega) hb fun g1 M1 h3 X3 s1 so1 nf1 => ?_
    obtain ⟨e1, e1'⟩ := same _ _ s1 so1 nf1
    have n3 := X3.n
    have v1 : (if 0 < M1 then g1 0 else 0) = (if 0 < M then u 0 else 0) := by
      rw [e1] at e1' ⊢
      by_cases h0 : 0 < M
      · rw [if_pos h0, if_pos h0, e1' 0 h0]
      · rw [if_neg h0, if_neg h0]
    rw [v1, e1]
    have X23 := X2.trans (X3.mono n2)
    repeat' (first | done | with_reducible (first | refine y1 ?_ (by omega) | refine y2 ?_ (by omega) | refine y3 (fun _ => ?_) (fun _ => ?_) | refine y4 ?_ (by omega) (by omega) | refine y5 ?_ (by omega) | refine y6 ?_ (by with_unfolding_all rfl) | refine y7 ?_ (by with_unfolding_all rfl) | refine y8 ?_ (by with_unfolding_all rfl) | refine y9 ?_ (by with_unfolding_all rfl) | refine ya ?_ (by with_unfolding_all rfl)) | ((with_reducible refine And.intro ?_ ?_); (· omega)) | (simp -dsimp only [↓cw_ops, ↓cw_seq, ↓seqK_normal, ↓getK_same, ↓getK_ne, ↓evK_tmp, ↓opsW_nil, ↓opsW_d, ↓opW_move, ↓opW_assign, ↓evs_nil, ↓evs_cons, ↓opW_call, ↓opW_extract, ↓ext_tuple, ↓r4_81_w, ↓s4_82_w, List.getElem?_cons_zero, List.getElem?_cons_succ, onV_some', ne_eq, Nat.reduceEqDiff, not_false_eq_true]))
    refine most_ret (rx1.ext X23) (by omega) hb fun g2 M2 h4 X4 s2 so2 nf2 => ?_
    obtain ⟨e2, e2'⟩ := same _ _ s2 so2 nf2
    have n4 := X4.n
    have v2 : (if 0 < M2 then g2 (M2 - 1) else 0) = (if 0 < M then u (M - 1) else 0) := by
      rw [e2] at e2' ⊢
      by_cases h0 : 0 < M
      · rw [if_pos h0, if_pos h0, e2' _ (by omega)]
      · rw [if_neg h0, if_neg h0]
    rw [v2, e2]
    have X24 := X23.trans (X4.mono (by omega))
    have X34 := X3.trans (X4.mono n3)
    obtain ⟨na, nc, rfl, nq⟩ := id rn2
    have hMc : ((0 : Int) < (M : Int)) = (0 < M) := propext (by omega)
    -- what is alike wherever numbers are
    have cont : ∀ (fr' : Fr) (h5 : Heap), ExtB h4.n h4 h5 → fr'.get 0 = some (.slice a l.length c) → fr'.get 3 = some x → s4_68.wp env 223 none fr' h5 (resK env [.tmp 2] TK) := by
      intro fr' h5 X5 q0 q3
      have X15 := X24.trans (X5.mono (by omega))
      have X05 := X1.trans (X15.mono n1)
      exact law_a (r.ext (X05.mono hB)) (by have := X05.n; omega) (by have := X05.n; omega) hlen (rx1.ext X15) (tabs_ext hh X05 ht) q0 q3
    by_cases h0 : 0 < M
    · rw [if_pos h0, if_pos h0, decide_eq_true h0]
      have c0 : (0 : Int) < (M : Int) := by omega
      have bb : (!(true == true)) = false := rfl
      repeat' (first | done | with_reducible (first | refine y1 ?_ (by omega) | refine y2 ?_ (by omega) | refine y3 (fun _ => ?_) (fun _ => ?_) | refine y4 ?_ (by omega) (by omega) | refine y5 ?_ (by omega) | refine y6 ?_ (by with_unfolding_all rfl) | refine y7 ?_ (by with_unfolding_all rfl) | refine y8 ?_ (by with_unfolding_all rfl) | refine y9 ?_ (by with_unfolding_all rfl) | refine ya ?_ (by with_unfolding_all rfl)) | ((with_reducible refine And.intro ?_ ?_); (· omega)) | (simp -dsimp only [↓cw_ops, ↓cw_seq, ↓seqK_normal, ↓getK_same, ↓getK_ne, ↓evK_tmp, ↓evK_int, ↓condV_var, ↓gdV_var, ↓opsW_nil, ↓opsW_d, ↓opsW_gd, ↓opW_move, ↓opW_assign, ↓opW_pick, ↓opW_bin, ↓bin_gtr, ↓evs_nil, ↓evs_cons, ↓opW_call, ↓lenS_some, ↓opW_extract, ↓ext_tuple, ↓len_25, ↓r4_78_w, ↓s4_79_w, ↓s4_80_w, List.getElem?_cons_zero, List.getElem?_cons_succ, onV_some', brK_true, brK_false, ne_eq, Nat.reduceEqDiff, not_false_eq_true, Bool.false_eq_true,  c0, bin_neqB isBool4, bb]))
      refine sort_ret (rx1.ext X24) (by omega) hb fun g3 v3 h5 o5 X5 s3 so3 => ?_
      have n5 := X5.n
      have r5 := rd_own o5
      have X25 := X24.trans (X5.mono (by omega))
      repeat' (first | done | with_reducible (first | refine y1 ?_ (by omega) | refine y2 ?_ (by omega) | refine y3 (fun _ => ?_) (fun _ => ?_) | refine y4 ?_ (by omega) (by omega) | refine y5 ?_ (by omega) | refine y6 ?_ (by with_unfolding_all rfl) | refine y7 ?_ (by with_unfolding_all rfl) | refine y8 ?_ (by with_unfolding_all rfl) | refine y9 ?_ (by with_unfolding_all rfl) | refine ya ?_ (by with_unfolding_all rfl)) | ((with_reducible refine And.intro ?_ ?_); (· omega)) | (simp -dsimp only [↓getK_same, ↓getK_ne, ↓evK_tmp, ↓gdV_var, ↓opsW_gd, ↓opW_move, ↓evs_nil, ↓evs_cons, ↓opW_call, brK_true, ne_eq, Nat.reduceEqDiff, not_false_eq_true, bb]))
      refine rsort_ret (rx1.ext X25) (by omega) hb fun ns4 v4 h6 o6 X6 hp6 hs6 => ?_
      have n6 := X6.n
      have r6 := rd_list o6
      have l6 := perm_len hp6
      rw [l6] at r6
      have X26 := X25.trans (X6.mono (by omega))
      repeat' (first | done | with_reducible (first | refine y1 ?_ (by omega) | refine y2 ?_ (by omega) | refine y3 (fun _ => ?_) (fun _ => ?_) | refine y4 ?_ (by omega) (by omega) | refine y5 ?_ (by omega) | refine y6 ?_ (by with_unfolding_all rfl) | refine y7 ?_ (by with_unfolding_all rfl) | refine y8 ?_ (by with_unfolding_all rfl) | refine y9 ?_ (by with_unfolding_all rfl) | refine ya ?_ (by with_unfolding_all rfl)) | ((with_reducible refine And.intro ?_ ?_); (· omega)) | (simp -dsimp only [↓getK_same, ↓getK_ne, ↓evK_tmp, ↓gdV_var, ↓opsW_gd, ↓evs_nil, ↓evs_cons, ↓opW_call, brK_true, ne_eq, Nat.reduceEqDiff, not_false_eq_true, bb]))
      refine sameAll_ret (r5.ext X6) r6 (by omega) (hb.sw s3 (Nat.le_refl _)) (perm_bits hp6 hb) (orders_same hp6 hs6 s3 so3) ?_
      repeat' (first | done | with_reducible (first | refine y1 ?_ (by omega) | refine y2 ?_ (by omega) | refine y3 (fun _ => ?_) (fun _ => ?_) | refine y4 ?_ (by omega) (by omega) | refine y5 ?_ (by omega) | refine y6 ?_ (by with_unfolding_all rfl) | refine y7 ?_ (by with_unfolding_all rfl) | refine y8 ?_ (by with_unfolding_all rfl) | refine y9 ?_ (by with_unfolding_all rfl) | refine ya ?_ (by with_unfolding_all rfl)) | ((with_reducible refine And.intro ?_ ?_); (· omega)) | (simp -dsimp only [↓getK_same, ↓getK_ne, ↓evK_tmp, ↓condV_var, ↓gdV_var, ↓opsW_d, ↓opsW_gd, ↓opW_move, ↓opW_pick, ↓evs_nil, ↓evs_cons, ↓opW_call, ↓opW_un, ↓un_not, brK_true, brK_false, ne_eq, Nat.reduceEqDiff, not_false_eq_true, Bool.false_eq_true,  bb, Bool.not_true]))
      refine median_ret (rx1.ext X26) (by omega) hb fun g7 M7 h7 X7 s7 so7 nf7 => ?_
      obtain ⟨e7, e7'⟩ := same _ _ s7 so7 nf7
      have n7 := X7.n
      rw [medV_congr e7', e7]
      have X27 := X26.trans (X7.mono (by omega))
      repeat' (first | done | with_reducible (first | refine y1 ?_ (by omega) | refine y2 ?_ (by omega) | refine y3 (fun _ => ?_) (fun _ => ?_) | refine y4 ?_ (by omega) (by omega) | refine y5 ?_ (by omega) | refine y6 ?_ (by with_unfolding_all rfl) | refine y7 ?_ (by with_unfolding_all rfl) | refine y8 ?_ (by with_unfolding_all rfl) | refine y9 ?_ (by with_unfolding_all rfl) | refine ya ?_ (by with_unfolding_all rfl)) | ((with_reducible refine And.intro ?_ ?_); (· omega)) | (simp -dsimp only [↓getK_same, ↓getK_ne, ↓evK_tmp, ↓gdV_var, ↓opsW_gd, ↓opW_move, ↓evs_nil, ↓evs_cons, ↓opW_call, brK_true, ne_eq, Nat.reduceEqDiff, not_false_eq_true, Bool.not_true]))
      refine rmedian_ret (rx1.ext X27) (by omega) hb fun ns8 h8 X8 hp8 hs8 => ?_
      have n8 := X8.n
      rw [same2 ns8 hp8 hs8 g7 M7 s7 so7 nf7, hu, hM]
      repeat' (first | done | with_reducible (first | refine y1 ?_ (by omega) | refine y2 ?_ (by omega) | refine y3 (fun _ => ?_) (fun _ => ?_) | refine y4 ?_ (by omega) (by omega) | refine y5 ?_ (by omega) | refine y6 ?_ (by with_unfolding_all rfl) | refine y7 ?_ (by with_unfolding_all rfl) | refine y8 ?_ (by with_unfolding_all rfl) | refine y9 ?_ (by with_unfolding_all rfl) | refine ya ?_ (by with_unfolding_all rfl)) | ((with_reducible refine And.intro ?_ ?_); (· omega)) | (simp -dsimp only [↓getK_same, ↓getK_ne, ↓evK_tmp, ↓gdV_var, ↓opsW_gd, ↓evs_nil, ↓evs_cons, ↓opW_call, brK_true, ne_eq, Nat.reduceEqDiff, not_false_eq_true, Bool.not_true]))
      refine same_self (medV_FB bU) ?_
      have X48 : ExtB h4.n h4 h8 := (X5.trans ((X6.mono n5).trans ((X7.mono (by omega)).trans (X8.mono (by omega)))))
      have X28 := X34.trans (X48.mono (by omega))
      obtain ⟨i, rfl, hi, d0⟩ := nq 0 h0
      obtain ⟨i', e', _, dl⟩ := nq (M - 1) (by omega)
      cases e'
      have d0 := cellAt_ext X28 hi d0
      have dl := cellAt_ext X28 hi dl
      have z1 : 0 + (M - 1) * 1 = M - 1 := zero_add_one _
      have z0 : 0 + (0 : Nat) * 1 = 0 := zero_add_one _
      have w1 : IntKind.i64.wrap ((M : Int) - 1) = ((M - 1 : Nat) : Int) := by rw [wrap_i64 (by omega) (by omega)]; omega
      have b1 : ((M - 1 : Nat) : Int) < (M : Int) := by omega
      have b2 : (0 : Int) ≤ ((M - 1 : Nat) : Int) := by omega
      repeat' (first | done | with_reducible (first | refine y1 ?_ (by omega) | refine y2 ?_ (by omega) | refine y3 (fun _ => ?_) (fun _ => ?_) | refine y4 ?_ (by omega) (by omega) | refine y5 ?_ (by omega) | refine y6 ?_ (by with_unfolding_all rfl) | refine y7 ?_ (by with_unfolding_all rfl) | refine y8 ?_ (by with_unfolding_all rfl) | refine y9 ?_ (by with_unfolding_all rfl) | refine ya ?_ (by with_unfolding_all rfl)) | ((with_reducible refine And.intro ?_ ?_); (· omega)) | (simp -dsimp only [↓cw_skip, ↓cw_ops, ↓cw_seq, ↓cw_cond, ↓seqK_normal, ↓getK_same, ↓getK_ne, ↓evK_tmp, ↓evK_int, ↓condV_var, ↓gdV_var, ↓opsW_nil, ↓opsW_d, ↓opsW_gd, ↓opW_move, ↓opW_pick, ↓ld1_some, ↓idxS_some, ↓evs_nil, ↓evs_cons, ↓opW_call, ↓opW_un, ↓un_not, ↓ia_25, ↓ld_27, ↓r4_72_w, ↓s4_73_w, ↓s4_74_w, ↓s4_77_w, onV_some', brK_true, brK_false, and_true, ne_eq, Nat.reduceEqDiff, not_false_eq_true, Addr.add_lit, Int.toNat_zero, Nat.zero_mul, Bool.false_eq_true,  c0, Bool.not_true, z0, d0]))
      refine rsame_ret (bU 0 h0) (bU 0 h0) ?_
      rw [decide_eq_true rfl]
      repeat' (first | done | with_reducible (first | refine y1 ?_ (by omega) | refine y2 ?_ (by omega) | refine y3 (fun _ => ?_) (fun _ => ?_) | refine y4 ?_ (by omega) (by omega) | refine y5 ?_ (by omega) | refine y6 ?_ (by with_unfolding_all rfl) | refine y7 ?_ (by with_unfolding_all rfl) | refine y8 ?_ (by with_unfolding_all rfl) | refine y9 ?_ (by with_unfolding_all rfl) | refine ya ?_ (by with_unfolding_all rfl)) | ((with_reducible refine And.intro ?_ ?_); (· omega)) | (simp -dsimp only [↓getK_same, ↓getK_ne, ↓evK_tmp, ↓evK_int, ↓gdV_var, ↓opsW_gd, ↓opW_move, ↓opW_bin, ↓bin_sub, ↓ld1_some, ↓idxS_some, ↓evs_nil, ↓evs_cons, ↓opW_call, ↓lenS_some, ↓opW_un, ↓un_not, ↓len_25, ↓ia_25, ↓ld_27, onV_some', brK_true, ne_eq, Nat.reduceEqDiff, not_false_eq_true, Addr.add_lit, Int.toNat_natCast, Bool.not_true, z1, dl, w1]))
      refine rsame_ret (bU (M - 1) (by omega)) (bU (M - 1) (by omega)) ?_
      rw [decide_eq_true rfl]
      repeat' (first | done | with_reducible (first | refine y1 ?_ (by omega) | refine y2 ?_ (by omega) | refine y3 (fun _ => ?_) (fun _ => ?_) | refine y4 ?_ (by omega) (by omega) | refine y5 ?_ (by omega) | refine y6 ?_ (by with_unfolding_all rfl) | refine y7 ?_ (by with_unfolding_all rfl) | refine y8 ?_ (by with_unfolding_all rfl) | refine y9 ?_ (by with_unfolding_all rfl) | refine ya ?_ (by with_unfolding_all rfl)) | ((with_reducible refine And.intro ?_ ?_); (· omega)) | (simp -dsimp only [↓cw_skip, ↓cw_cond, ↓seqK_normal, ↓getK_same, ↓getK_ne, ↓evK_tmp, ↓evK_bool, ↓condV_var, ↓gdV_var, ↓gdV_undef, ↓opsW_nil, ↓opsW_d, ↓opsW_gd, ↓opW_move, ↓opW_pick, ↓setAll_cons, ↓setAll_nil, ↓opW_un, ↓un_not, ↓s4_71_w, brK_true, brK_false, ne_eq, Nat.reduceEqDiff, not_false_eq_true, Addr.add_lit, Int.toNat_natCast, Int.toNat_zero, Nat.zero_mul, Bool.false_eq_true,  bb, Bool.not_true, z0, z1, w1]))
      refine cont _ h8 X48 ?_ ?_
      · simp [T.get_set]
      · simp [T.get_set]
    · rw [if_neg h0, if_neg h0, decide_eq_false h0]
      have c0 : ¬ (0 : Int) < (M : Int) := by omega
      have bb : (!(false == false)) = false := rfl
      repeat' (first | done | with_reducible (first | refine y1 ?_ (by omega) | refine y2 ?_ (by omega) | refine y3 (fun _ => ?_) (fun _ => ?_) | refine y4 ?_ (by omega) (by omega) | refine y5 ?_ (by omega) | refine y6 ?_ (by with_unfolding_all rfl) | refine y7 ?_ (by with_unfolding_all rfl) | refine y8 ?_ (by with_unfolding_all rfl) | refine y9 ?_ (by with_unfolding_all rfl) | refine ya ?_ (by with_unfolding_all rfl)) | ((with_reducible refine And.intro ?_ ?_); (· omega)) | (simp -dsimp only [↓cw_ops, ↓cw_seq, ↓seqK_normal, ↓getK_same, ↓getK_ne, ↓evK_tmp, ↓evK_int, ↓condV_var, ↓gdV_var, ↓opsW_nil, ↓opsW_d, ↓opsW_gd, ↓opW_move, ↓opW_assign, ↓opW_pick, ↓opW_bin, ↓bin_gtr, ↓evs_nil, ↓evs_cons, ↓opW_call, ↓lenS_some, ↓opW_extract, ↓ext_tuple, ↓len_25, ↓r4_78_w, ↓s4_79_w, ↓s4_80_w, List.getElem?_cons_zero, List.getElem?_cons_succ, onV_some', brK_true, brK_false, ne_eq, Nat.reduceEqDiff, not_false_eq_true, Bool.false_eq_true,  c0, bin_neqB isBool4, bb]))
      refine sort_ret (rx1.ext X24) (by omega) hb fun g3 v3 h5 o5 X5 s3 so3 => ?_
      have n5 := X5.n
      have r5 := rd_own o5
      have X25 := X24.trans (X5.mono (by omega))
      repeat' (first | done | with_reducible (first | refine y1 ?_ (by omega) | refine y2 ?_ (by omega) | refine y3 (fun _ => ?_) (fun _ => ?_) | refine y4 ?_ (by omega) (by omega) | refine y5 ?_ (by omega) | refine y6 ?_ (by with_unfolding_all rfl) | refine y7 ?_ (by with_unfolding_all rfl) | refine y8 ?_ (by with_unfolding_all rfl) | refine y9 ?_ (by with_unfolding_all rfl) | refine ya ?_ (by with_unfolding_all rfl)) | ((with_reducible refine And.intro ?_ ?_); (· omega)) | (simp -dsimp only [↓getK_same, ↓getK_ne, ↓evK_tmp, ↓gdV_var, ↓opsW_gd, ↓opW_move, ↓evs_nil, ↓evs_cons, ↓opW_call, brK_true, ne_eq, Nat.reduceEqDiff, not_false_eq_true, bb]))
      refine rsort_ret (rx1.ext X25) (by omega) hb fun ns4 v4 h6 o6 X6 hp6 hs6 => ?_
      have n6 := X6.n
      have r6 := rd_list o6
      have l6 := perm_len hp6
      rw [l6] at r6
      have X26 := X25.trans (X6.mono (by omega))
      repeat' (first | done | with_reducible (first | refine y1 ?_ (by omega) | refine y2 ?_ (by omega) | refine y3 (fun _ => ?_) (fun _ => ?_) | refine y4 ?_ (by omega) (by omega) | refine y5 ?_ (by omega) | refine y6 ?_ (by with_unfolding_all rfl) | refine y7 ?_ (by with_unfolding_all rfl) | refine y8 ?_ (by with_unfolding_all rfl) | refine y9 ?_ (by with_unfolding_all rfl) | refine ya ?_ (by with_unfolding_all rfl)) | ((with_reducible refine And.intro ?_ ?_); (· omega)) | (simp -dsimp only [↓getK_same, ↓getK_ne, ↓evK_tmp, ↓gdV_var, ↓opsW_gd, ↓evs_nil, ↓evs_cons, ↓opW_call, brK_true, ne_eq, Nat.reduceEqDiff, not_false_eq_true, bb]))
      refine sameAll_ret (r5.ext X6) r6 (by omega) (hb.sw s3 (Nat.le_refl _)) (perm_bits hp6 hb) (orders_same hp6 hs6 s3 so3) ?_
      repeat' (first | done | with_reducible (first | refine y1 ?_ (by omega) | refine y2 ?_ (by omega) | refine y3 (fun _ => ?_) (fun _ => ?_) | refine y4 ?_ (by omega) (by omega) | refine y5 ?_ (by omega) | refine y6 ?_ (by with_unfolding_all rfl) | refine y7 ?_ (by with_unfolding_all rfl) | refine y8 ?_ (by with_unfolding_all rfl) | refine y9 ?_ (by with_unfolding_all rfl) | refine ya ?_ (by with_unfolding_all rfl)) | ((with_reducible refine And.intro ?_ ?_); (· omega)) | (simp -dsimp only [↓getK_same, ↓getK_ne, ↓evK_tmp, ↓condV_var, ↓gdV_var, ↓opsW_d, ↓opsW_gd, ↓opW_move, ↓opW_pick, ↓evs_nil, ↓evs_cons, ↓opW_call, ↓opW_un, ↓un_not, brK_true, brK_false, ne_eq, Nat.reduceEqDiff, not_false_eq_true, Bool.false_eq_true,  bb, Bool.not_true]))
      refine median_ret (rx1.ext X26) (by omega) hb fun g7 M7 h7 X7 s7 so7 nf7 => ?_
      obtain ⟨e7, e7'⟩ := same _ _ s7 so7 nf7
      have n7 := X7.n
      rw [medV_congr e7', e7]
      have X27 := X26.trans (X7.mono (by omega))
      repeat' (first | done | with_reducible (first | refine y1 ?_ (by omega) | refine y2 ?_ (by omega) | refine y3 (fun _ => ?_) (fun _ => ?_) | refine y4 ?_ (by omega) (by omega) | refine y5 ?_ (by omega) | refine y6 ?_ (by with_unfolding_all rfl) | refine y7 ?_ (by with_unfolding_all rfl) | refine y8 ?_ (by with_unfolding_all rfl) | refine y9 ?_ (by with_unfolding_all rfl) | refine ya ?_ (by with_unfolding_all rfl)) | ((with_reducible refine And.intro ?_ ?_); (· omega)) | (simp -dsimp only [↓getK_same, ↓getK_ne, ↓evK_tmp, ↓gdV_var, ↓opsW_gd, ↓opW_move, ↓evs_nil, ↓evs_cons, ↓opW_call, brK_true, ne_eq, Nat.reduceEqDiff, not_false_eq_true, Bool.not_true]))
      refine rmedian_ret (rx1.ext X27) (by omega) hb fun ns8 h8 X8 hp8 hs8 => ?_
      have n8 := X8.n
      rw [same2 ns8 hp8 hs8 g7 M7 s7 so7 nf7, hu, hM]
      repeat' (first | done | with_reducible (first | refine y1 ?_ (by omega) | refine y2 ?_ (by omega) | refine y3 (fun _ => ?_) (fun _ => ?_) | refine y4 ?_ (by omega) (by omega) | refine y5 ?_ (by omega) | refine y6 ?_ (by with_unfolding_all rfl) | refine y7 ?_ (by with_unfolding_all rfl) | refine y8 ?_ (by with_unfolding_all rfl) | refine y9 ?_ (by with_unfolding_all rfl) | refine ya ?_ (by with_unfolding_all rfl)) | ((with_reducible refine And.intro ?_ ?_); (· omega)) | (simp -dsimp only [↓getK_same, ↓getK_ne, ↓evK_tmp, ↓gdV_var, ↓opsW_gd, ↓evs_nil, ↓evs_cons, ↓opW_call, brK_true, ne_eq, Nat.reduceEqDiff, not_false_eq_true, Bool.not_true]))
      refine same_self (medV_FB bU) ?_
      have X48 : ExtB h4.n h4 h8 := (X5.trans ((X6.mono n5).trans ((X7.mono (by omega)).trans (X8.mono (by omega)))))
      have X28 := X34.trans (X48.mono (by omega))
      repeat' (first | done | with_reducible (first | refine y1 ?_ (by omega) | refine y2 ?_ (by omega) | refine y3 (fun _ => ?_) (fun _ => ?_) | refine y4 ?_ (by omega) (by omega) | refine y5 ?_ (by omega) | refine y6 ?_ (by with_unfolding_all rfl) | refine y7 ?_ (by with_unfolding_all rfl) | refine y8 ?_ (by with_unfolding_all rfl) | refine y9 ?_ (by with_unfolding_all rfl) | refine ya ?_ (by with_unfolding_all rfl)) | ((with_reducible refine And.intro ?_ ?_); (· omega)) | (simp -dsimp only [↓cw_skip, ↓cw_ops, ↓cw_seq, ↓cw_cond, ↓seqK_normal, ↓getK_same, ↓getK_ne, ↓evK_tmp, ↓evK_bool, ↓condV_var, ↓gdV_var, ↓gdV_undef, ↓opsW_nil, ↓opsW_d, ↓opsW_gd, ↓opW_move, ↓opW_pick, ↓evs_nil, ↓evs_cons, ↓opW_call, ↓opW_un, ↓un_not, ↓r4_72_w, ↓s4_73_w, ↓s4_74_w, ↓s4_77_w, brK_true, brK_false, ne_eq, Nat.reduceEqDiff, not_false_eq_true, Bool.false_eq_true,  Bool.not_true, Bool.not_false]))
      refine bits_fl ?_
      repeat' (first | done | with_reducible (first | refine y1 ?_ (by omega) | refine y2 ?_ (by omega) | refine y3 (fun _ => ?_) (fun _ => ?_) | refine y4 ?_ (by omega) (by omega) | refine y5 ?_ (by omega) | refine y6 ?_ (by with_unfolding_all rfl) | refine y7 ?_ (by with_unfolding_all rfl) | refine y8 ?_ (by with_unfolding_all rfl) | refine y9 ?_ (by with_unfolding_all rfl) | refine ya ?_ (by with_unfolding_all rfl)) | ((with_reducible refine And.intro ?_ ?_); (· omega)) | (simp -dsimp only [↓getK_same, ↓getK_ne, ↓evK_tmp, ↓evK_int, ↓gdV_var, ↓opsW_gd, ↓opW_move, ↓opW_bin, ↓bin_neq, ↓evs_nil, ↓evs_cons, ↓opW_call, brK_true, ne_eq, Nat.reduceEqDiff, not_false_eq_true, Bool.not_false]))
      refine bits_fl ?_
      repeat' (first | done | with_reducible (first | refine y1 ?_ (by omega) | refine y2 ?_ (by omega) | refine y3 (fun _ => ?_) (fun _ => ?_) | refine y4 ?_ (by omega) (by omega) | refine y5 ?_ (by omega) | refine y6 ?_ (by with_unfolding_all rfl) | refine y7 ?_ (by with_unfolding_all rfl) | refine y8 ?_ (by with_unfolding_all rfl) | refine y9 ?_ (by with_unfolding_all rfl) | refine ya ?_ (by with_unfolding_all rfl)) | ((with_reducible refine And.intro ?_ ?_); (· omega)) | (simp -dsimp only [↓cw_skip, ↓cw_cond, ↓seqK_normal, ↓getK_same, ↓getK_ne, ↓evK_tmp, ↓evK_int, ↓condV_var, ↓gdV_var, ↓opsW_nil, ↓opsW_d, ↓opsW_gd, ↓opW_pick, ↓opW_bin, ↓bin_neq, ↓setAll_cons, ↓setAll_nil, ↓s4_71_w, brK_true, brK_false, ne_eq, Nat.reduceEqDiff, not_false_eq_true, Bool.false_eq_true,  bb, Bool.not_true, Bool.not_false]))
      refine cont _ h8 X48 ?_ ?_
      · simp [T.get_set]
      · simp [T.get_set]
  · have f0 : (60 : Int) < (l.length : Int) := by omega
    repeat' (first | done | with_reducible (first | refine y1 ?_ (by omega) | refine y2 ?_ (by omega) | refine y3 (fun _ => ?_) (fun _ => ?_) | refine y4 ?_ (by omega) (by omega) | refine y5 ?_ (by omega) | refine y6 ?_ (by with_unfolding_all rfl) | refine y7 ?_ (by with_unfolding_all rfl) | refine y8 ?_ (by with_unfolding_all rfl) | refine y9 ?_ (by with_unfolding_all rfl) | refine ya ?_ (by with_unfolding_all rfl)) | ((with_reducible refine And.intro ?_ ?_); (· omega)) | (simp -dsimp only [↓cw_ops, ↓cw_seq, ↓cw_cond, ↓seqK_normal, ↓getK_same, ↓getK_ne, ↓evK_tmp, ↓evK_int, ↓evK_bool, ↓condV_var, ↓opsW_nil, ↓opsW_d, ↓opW_move, ↓opW_assign, ↓opW_bin, ↓bin_gtr, ↓evs_nil, ↓opW_call, ↓lenS_some, ↓setAll_cons, ↓setAll_nil, ↓len_22, ↓r4_89_w, ↓s4_90_w, ↓s4_91_w, ↓r4_92_w, ↓s4_93_w, ↓s4_94_w, ↓r4_95_w, ↓s4_96_w, brK_true, ne_eq, Nat.reduceEqDiff, not_false_eq_true, f0]))
    refine known_ret ht ?_
    repeat' (first | done | with_reducible (first | refine y1 ?_ (by omega) | refine y2 ?_ (by omega) | refine y3 (fun _ => ?_) (fun _ => ?_) | refine y4 ?_ (by omega) (by omega) | refine y5 ?_ (by omega) | refine y6 ?_ (by with_unfolding_all rfl) | refine y7 ?_ (by with_unfolding_all rfl) | refine y8 ?_ (by with_unfolding_all rfl) | refine y9 ?_ (by with_unfolding_all rfl) | refine ya ?_ (by with_unfolding_all rfl)) | ((with_reducible refine And.intro ?_ ?_); (· omega)) | (simp -dsimp only [↓cw_ret, ↓seqK_normal, ↓seqK_ret, ↓getK_same, ↓evK_tmp, ↓opsW_nil, ↓opsW_d, ↓opW_assign, ↓resK_one]))
end Go.Proofs.YtjcmcoabckkjoaaDoor.Or

