/- The reference's Of, walked to its ends. -/
import Derived.Test.YtjcmcoabckkjoaaDoorUA
set_option linter.unusedSimpArgs false
set_option linter.unusedVariables false
namespace Go.Proofs.YtjcmcoabckkjoaaDoor.Li
open Go.Ev
set_option maxRecDepth 100000
set_option maxHeartbeats 400000
theorem get_pre2 (a b x : List UInt8) (i : Nat) : (a ++ (b ++ x))[a.length + b.length + i]? = x[i]? := by
  rw [← List.append_assoc, ← List.length_append, List.getElem?_append_right (by omega)]; congr 1; omega
/-- behind the tail's digits -/
theorem of_tail2 {g : Bool} {v : Nat} {b : Bool} {q : List UInt8} {m p : Nat} {fr : Fr} {h : Heap} {K : Value → Heap → Prop} (hodd : v % 2 = 1) (hv : v < 9007199254740992)
    (hlen : (sgL g ++ (Lib.decDigits v ++ (tailC b :: 50 :: 94 :: q))).length ≤ 1000)
    (d : DigAt (sgL g ++ (Lib.decDigits v ++ (tailC b :: 50 :: 94 :: q))) ((sgL g).length + (Lib.decDigits v).length + 3) m p)
    (g0 : fr.get 0 = some (strV (sgL g ++ (Lib.decDigits v ++ (tailC b :: 50 :: 94 :: q))))) (g5 : fr.get 5 = some (.int .u64 (sgZ g : Nat))) (g6 : fr.get 6 = some (.int .u64 (v : Nat)))
    (g7 : fr.get 7 = some (.int .i64 (((sgL g).length + (Lib.decDigits v).length : Nat) : Int))) (g10 : fr.get 10 = some (.int .u64 (p : Nat))) (g11 : fr.get 11 = some (.int .i64 (((sgL g).length + (Lib.decDigits v).length + 3 + m : Nat) : Int)))
    (g12 : fr.get 12 = some (.bool (digFlag (sgL g ++ (Lib.decDigits v ++ (tailC b :: 50 :: 94 :: q))) ((sgL g).length + (Lib.decDigits v).length + 3) m)))
    (hK : ∀ w, w < 18446744073709551616 → textB w = sgL g ++ (Lib.decDigits v ++ (tailC b :: 50 :: 94 :: q)) → K (ofT (.float .f64 w)) h) (hE : (∀ u k, ¬ Num (sgL g ++ (Lib.decDigits v ++ (tailC b :: 50 :: 94 :: q))) g u k) → K errT h)
    {Q : Ex → Fr → Heap → Prop} (hQ : ∀ fr h, Q .ret fr h = resK env [.tmp 2, .tmp 3] K .ret fr h) (hN : ∀ fr h, Q .normal fr h = s37_59.wp env 169 none fr h (resK env [.tmp 2, .tmp 3] K)) :
    s37_72.wp env 169 none fr h Q := by
  have z5 := g5
  have z6 := g6
  have z7 := g7
  have i7 := getK_of g7
  have z0 := g0
  have i0 := getK_of g0
  have i10 := getK_of g10
  have i11 := getK_of g11
  have i12 := getK_of g12
  unfold strV at i0
  have hnd : NoDig (tailC b :: 50 :: 94 :: q) := .inr ⟨_, _, rfl, by unfold isDig tailC; cases b <;> decide⟩
  obtain ⟨pre, hpre⟩ : ∃ pre : List UInt8, pre = sgL g ++ (Lib.decDigits v ++ [tailC b, 50, 94]) := ⟨_, rfl⟩
  have hsp : sgL g ++ (Lib.decDigits v ++ (tailC b :: 50 :: 94 :: q)) = pre ++ q := by rw [hpre]; simp
  have hpl : pre.length = (sgL g).length + (Lib.decDigits v).length + 3 := by rw [hpre]; simp [Nat.add_assoc]
  rw [← hpl, hsp] at d i12
  rw [← hpl] at i11
  obtain ⟨a, ha⟩ : ∃ a : Nat, (sgL g).length + (Lib.decDigits v).length = a := ⟨_, rfl⟩
  have hget : (pre ++ q)[a]? = some (tailC b) := by
    have := get_pre2 (sgL g) (Lib.decDigits v) (tailC b :: 50 :: 94 :: q) 0
    rw [hsp, Nat.add_zero, ha] at this
    rw [this]; rfl
  rw [hsp] at i0 hlen
  have hNq : ∀ u k, Num (sgL g ++ (Lib.decDigits v ++ (tailC b :: 50 :: 94 :: q))) g u k → q ≠ [] ∧ p ≠ 0 ∧ p ≤ 3000 ∧ pre.length + m = (pre ++ q).length ∧ digFlag (pre ++ q) pre.length m = true := by
    intro u k x
    obtain ⟨_, ht⟩ := x.tail hv hnd
    rcases tailB_inv ht with ⟨h0, _⟩ | ⟨b', p', hp0, hk, ht'⟩
    · cases h0
    · have hq : q = Lib.decDigits p' := by
        have := congrArg (List.drop 3) ht'
        simpa using this
      subst hq
      have hk1 := x.k1
      have hk2 := x.k2
      have hp3 : p' ≤ 3000 := by unfold tailK at hk; cases b' <;> simp at hk <;> omega
      obtain ⟨e1, e2, e3⟩ := tail_exact (by omega) hp0 d
      subst e1
      exact ⟨digits_ne _, hp0, hp3, e2, e3⟩
  have hlp : (pre ++ q).length = pre.length + q.length := List.length_append
  have hEx : ¬ (digFlag (pre ++ q) pre.length m = true ∧ pre.length + m = (pre ++ q).length ∧ p ≠ 0 ∧ p ≤ 3000) → K errT h := fun hn => hE fun u k x => by
    obtain ⟨_, a1, a2, a3, a4⟩ := hNq u k x
    exact hn ⟨a4, a3, a1, a2⟩
  unfold errT at hEx
  by_cases hall : digFlag (pre ++ q) pre.length m = true ∧ pre.length + m = (pre ++ q).length ∧ p ≠ 0 ∧ p ≤ 3000
  · obtain ⟨hf, hl, hp0, hp3⟩ := hall
    have hq := good_tail d hf hl
    have f1 : ((pre.length + m : Nat) : Int) = (((pre ++ q).length : Nat) : Int) := by omega
    have f2 : ¬ ((p : Nat) : Int) = 0 := by omega
    have f3 : ¬ (3000 : Int) < ((p : Nat) : Int) := by omega
    have w1 : IntKind.i64.wrap ((p : Nat) : Int) = (p : Int) := wrap_i64 (by omega) (by omega)
    have w2 : IntKind.i64.wrap (-(p : Int)) = -(p : Int) := wrap_i64 (by omega) (by omega)
    have cb := fun K => idxT_at (k := .i64) (i := ((a : Nat) : Int)) (K := K) rfl hget
    have htl : ∀ b, tailB (tailK b p) = tailC b :: 50 :: 94 :: q := fun b => by rw [tailB_eq hp0, ← hq]
    rw [hf] at i12
    rw [ha] at i7
    cases b with
    | true =>
      have hb : (((tailC true : UInt8).toNat : Nat) : Int) = 47 := rfl
      repeat' (first | done | with_reducible (first | refine y1 ?_ (by omega) | refine y2 ?_ (by omega) | refine y3 (fun _ => ?_) (fun _ => ?_) | refine y4 ?_ (by omega) (by omega) | refine y5 ?_ (by omega) | refine y6 ?_ (by with_unfolding_all rfl) | refine y7 ?_ (by with_unfolding_all rfl) | refine y8 ?_ (by with_unfolding_all rfl) | refine y9 ?_ (by with_unfolding_all rfl) | refine ya ?_ (by with_unfolding_all rfl)) | (simp -dsimp only [↓cw_skip, ↓cw_ops, ↓cw_seq, ↓cw_cond, ↓seqK_normal, ↓getK_same, ↓getK_ne, ↓evK_tmp, ↓evK_int, ↓condV_var, ↓gdV_var, ↓opsW_nil, ↓opsW_d, ↓opsW_gd, ↓opW_move, ↓opW_assign, ↓opW_pick, ↓opW_bin, ↓bin_eql, ↓bin_neq, ↓bin_gtr, ↓opW_un, ↓un_not, ↓un_neg, ↓cint_int, ↓cv_23_3, ↓r37_60_w, ↓s37_61_w, ↓s37_62_w, ↓r37_63_w, ↓s37_64_w, ↓r37_65_w, ↓s37_66_w, ↓s37_69_w, ↓r37_70_w, ↓s37_71_w, ↓s37_72_w, brK_true, brK_false, ne_eq, Nat.reduceEqDiff, not_false_eq_true, Bool.false_eq_true,  Bool.not_true, ↓i12, ↓i11, ↓i10, ↓i7, ↓i0, str_size, ↓opW_lenT str9, lenT_some, ↓opW_indexT str9, cb, f1, f2, f3, hb, w1, hN]))
      refine of_end (g := g) (s := sgL g ++ (Lib.decDigits v ++ (tailC true :: 50 :: 94 :: q))) (v := v) (k := -(p : Int)) ?_ hodd hv (by omega) ?_ ?_ ?_ hK (fun hx => hE fun u k x => ?_)
      · rw [← htl true]; rfl
      · simp only [T.get_set]; simpa using z5
      · simp only [T.get_set]; simpa using z6
      · simp [T.get_set, w2]
      · obtain ⟨hu, ht⟩ := x.tail hv hnd
        subst hu
        rcases tailB_inv ht with ⟨h0, _⟩ | ⟨b', p', hp0', hk, ht'⟩
        · cases h0
        · obtain ⟨hc, hq'⟩ := List.cons.inj ht'
          have hb' : b' = true := by cases b' with | true => rfl | false => exact absurd hc (by decide)
          subst hb'
          have hq2 : q = Lib.decDigits p' := by simpa using hq'
          have hpp : p' = p := by
            have e1 := decNat_digits p'
            rw [← hq2, hq, decNat_digits] at e1
            exact (Option.some.inj e1).symm
          subst hpp
          rw [hk] at x
          exact hx x
    | false =>
      have hb : (((tailC false : UInt8).toNat : Nat) : Int) = 42 := rfl
      repeat' (first | done | with_reducible (first | refine y1 ?_ (by omega) | refine y2 ?_ (by omega) | refine y3 (fun _ => ?_) (fun _ => ?_) | refine y4 ?_ (by omega) (by omega) | refine y5 ?_ (by omega) | refine y6 ?_ (by with_unfolding_all rfl) | refine y7 ?_ (by with_unfolding_all rfl) | refine y8 ?_ (by with_unfolding_all rfl) | refine y9 ?_ (by with_unfolding_all rfl) | refine ya ?_ (by with_unfolding_all rfl)) | (simp -dsimp only [↓cw_skip, ↓cw_ops, ↓cw_seq, ↓cw_cond, ↓seqK_normal, ↓getK_same, ↓getK_ne, ↓evK_tmp, ↓evK_int, ↓condV_var, ↓gdV_var, ↓opsW_nil, ↓opsW_d, ↓opsW_gd, ↓opW_move, ↓opW_assign, ↓opW_pick, ↓opW_bin, ↓bin_eql, ↓bin_neq, ↓bin_gtr, ↓opW_un, ↓un_not, ↓cint_int, ↓cv_23_3, ↓s37_62_w, ↓r37_63_w, ↓s37_64_w, ↓r37_65_w, ↓s37_66_w, ↓s37_69_w, ↓r37_70_w, ↓s37_71_w, ↓s37_72_w, brK_true, brK_false, ne_eq, Nat.reduceEqDiff, not_false_eq_true, Bool.false_eq_true,  Bool.not_true, ↓i12, ↓i11, ↓i10, ↓i7, ↓i0, str_size, ↓opW_lenT str9, lenT_some, ↓opW_indexT str9, cb, f1, f2, f3, hb, w1, hN]))
      refine of_end (g := g) (s := sgL g ++ (Lib.decDigits v ++ (tailC false :: 50 :: 94 :: q))) (v := v) (k := (p : Int)) ?_ hodd hv (by omega) ?_ ?_ ?_ hK (fun hx => hE fun u k x => ?_)
      · rw [← htl false]; rfl
      · simp only [T.get_set]; simpa using z5
      · simp only [T.get_set]; simpa using z6
      · simp [T.get_set]
      · obtain ⟨hu, ht⟩ := x.tail hv hnd
        subst hu
        rcases tailB_inv ht with ⟨h0, _⟩ | ⟨b', p', hp0', hk, ht'⟩
        · cases h0
        · obtain ⟨hc, hq'⟩ := List.cons.inj ht'
          have hb' : b' = false := by cases b' with | false => rfl | true => exact absurd hc (by decide)
          subst hb'
          have hq2 : q = Lib.decDigits p' := by simpa using hq'
          have hpp : p' = p := by
            have e1 := decNat_digits p'
            rw [← hq2, hq, decNat_digits] at e1
            exact (Option.some.inj e1).symm
          subst hpp
          rw [hk] at x
          exact hx x
  · have hx := hEx hall
    by_cases hf : digFlag (pre ++ q) pre.length m = true
    · rw [hf] at i12
      by_cases hl : pre.length + m = (pre ++ q).length
      · have f1 : ((pre.length + m : Nat) : Int) = (((pre ++ q).length : Nat) : Int) := by omega
        by_cases hp0 : p = 0
        · have f2 : ((p : Nat) : Int) = 0 := by omega
          repeat' (first | done | with_reducible (first | refine y1 ?_ (by omega) | refine y2 ?_ (by omega) | refine y3 (fun _ => ?_) (fun _ => ?_) | refine y4 ?_ (by omega) (by omega) | refine y5 ?_ (by omega) | refine y6 ?_ (by with_unfolding_all rfl) | refine y7 ?_ (by with_unfolding_all rfl) | refine y8 ?_ (by with_unfolding_all rfl) | refine y9 ?_ (by with_unfolding_all rfl) | refine ya ?_ (by with_unfolding_all rfl)) | (simp -dsimp only [↓cw_ops, ↓cw_seq, ↓cw_ret, ↓cw_cond, ↓seqK_normal, ↓seqK_ret, ↓getK_same, ↓getK_ne, ↓evK_tmp, ↓evK_int, ↓evK_bool, ↓evK_float, ↓condV_var, ↓gdV_var, ↓opsW_nil, ↓opsW_d, ↓opsW_gd, ↓opW_move, ↓opW_assign, ↓opW_pick, ↓opW_bin, ↓bin_eql, ↓bin_neq, ↓resK_two, ↓opW_un, ↓un_not, ↓r37_67_w, ↓s37_68_w, ↓s37_69_w, ↓r37_70_w, ↓s37_71_w, ↓s37_72_w, brK_true, brK_false, ne_eq, Nat.reduceEqDiff, not_false_eq_true, Bool.true_eq_false, Bool.false_eq_true,  Bool.not_true, ↓i12, ↓i11, ↓i10, ↓i0, str_size, ↓opW_lenT str9, lenT_some, f1, f2, hQ]))
          exact hx
        · have f2 : ¬ ((p : Nat) : Int) = 0 := by omega
          have f3 : (3000 : Int) < ((p : Nat) : Int) := by
            have : ¬ p ≤ 3000 := fun h3 => hall ⟨hf, hl, hp0, h3⟩
            omega
          repeat' (first | done | with_reducible (first | refine y1 ?_ (by omega) | refine y2 ?_ (by omega) | refine y3 (fun _ => ?_) (fun _ => ?_) | refine y4 ?_ (by omega) (by omega) | refine y5 ?_ (by omega) | refine y6 ?_ (by with_unfolding_all rfl) | refine y7 ?_ (by with_unfolding_all rfl) | refine y8 ?_ (by with_unfolding_all rfl) | refine y9 ?_ (by with_unfolding_all rfl) | refine ya ?_ (by with_unfolding_all rfl)) | (simp -dsimp only [↓cw_ops, ↓cw_seq, ↓cw_ret, ↓cw_cond, ↓seqK_normal, ↓seqK_ret, ↓getK_same, ↓getK_ne, ↓evK_tmp, ↓evK_int, ↓evK_float, ↓condV_var, ↓gdV_var, ↓opsW_nil, ↓opsW_d, ↓opsW_gd, ↓opW_move, ↓opW_assign, ↓opW_pick, ↓opW_bin, ↓bin_eql, ↓bin_neq, ↓bin_gtr, ↓resK_two, ↓opW_un, ↓un_not, ↓r37_67_w, ↓s37_68_w, ↓s37_69_w, ↓r37_70_w, ↓s37_71_w, ↓s37_72_w, brK_true, brK_false, ne_eq, Nat.reduceEqDiff, not_false_eq_true, Bool.false_eq_true,  Bool.not_true, ↓i12, ↓i11, ↓i10, ↓i0, str_size, ↓opW_lenT str9, lenT_some, f1, f2, f3, hQ]))
          exact hx
      · have f1 : ¬ ((pre.length + m : Nat) : Int) = (((pre ++ q).length : Nat) : Int) := by omega
        repeat' (first | done | with_reducible (first | refine y1 ?_ (by omega) | refine y2 ?_ (by omega) | refine y3 (fun _ => ?_) (fun _ => ?_) | refine y4 ?_ (by omega) (by omega) | refine y5 ?_ (by omega) | refine y6 ?_ (by with_unfolding_all rfl) | refine y7 ?_ (by with_unfolding_all rfl) | refine y8 ?_ (by with_unfolding_all rfl) | refine y9 ?_ (by with_unfolding_all rfl) | refine ya ?_ (by with_unfolding_all rfl)) | (simp -dsimp only [↓cw_ops, ↓cw_seq, ↓cw_ret, ↓cw_cond, ↓seqK_normal, ↓seqK_ret, ↓getK_same, ↓getK_ne, ↓evK_tmp, ↓evK_int, ↓evK_bool, ↓evK_float, ↓condV_var, ↓gdV_var, ↓opsW_nil, ↓opsW_d, ↓opsW_gd, ↓opW_move, ↓opW_assign, ↓opW_pick, ↓opW_bin, ↓bin_neq, ↓resK_two, ↓opW_un, ↓un_not, ↓r37_67_w, ↓s37_68_w, ↓s37_69_w, ↓r37_70_w, ↓s37_71_w, ↓s37_72_w, brK_true, brK_false, ne_eq, Nat.reduceEqDiff, not_false_eq_true, Bool.true_eq_false, Bool.false_eq_true,  Bool.not_true, ↓i12, ↓i11, ↓i0, str_size, ↓opW_lenT str9, lenT_some, f1, hQ]))
        exact hx
    · have hf2 : digFlag (pre ++ q) pre.length m = false := Bool.not_eq_true _ ▸ hf
      rw [hf2] at i12
      repeat' (first | done | with_reducible (first | refine y1 ?_ (by omega) | refine y2 ?_ (by omega) | refine y3 (fun _ => ?_) (fun _ => ?_) | refine y4 ?_ (by omega) (by omega) | refine y5 ?_ (by omega) | refine y6 ?_ (by with_unfolding_all rfl) | refine y7 ?_ (by with_unfolding_all rfl) | refine y8 ?_ (by with_unfolding_all rfl) | refine y9 ?_ (by with_unfolding_all rfl) | refine ya ?_ (by with_unfolding_all rfl)) | (simp -dsimp only [↓cw_ops, ↓cw_seq, ↓cw_ret, ↓cw_cond, ↓seqK_normal, ↓seqK_ret, ↓getK_same, ↓getK_ne, ↓evK_tmp, ↓evK_int, ↓evK_bool, ↓evK_float, ↓condV_var, ↓gdV_var, ↓opsW_nil, ↓opsW_d, ↓opsW_gd, ↓opW_move, ↓opW_assign, ↓opW_pick, ↓resK_two, ↓opW_un, ↓un_not, ↓r37_67_w, ↓s37_68_w, ↓s37_69_w, ↓r37_70_w, ↓s37_71_w, ↓s37_72_w, brK_true, brK_false, ne_eq, Nat.reduceEqDiff, not_false_eq_true, Bool.true_eq_false, Bool.not_false, ↓i12, hQ]))
      exact hx
end Go.Proofs.YtjcmcoabckkjoaaDoor.Li

namespace Go.Proofs.YtjcmcoabckkjoaaDoor.Li
open Go.Ev
set_option maxRecDepth 100000
set_option maxHeartbeats 400000
theorem u8_ne {a : UInt8} {n : Nat} (hn : n < 256) (h : a ≠ UInt8.ofNat n) : ¬ ((a.toNat : Nat) : Int) = (n : Int) := fun e => h (by
  apply UInt8.toNat_inj.1
  simp only [UInt8.toNat_ofNat']
  omega)
/-- behind the first digits -/
theorem of_mid {g : Bool} {r : List UInt8} {m v : Nat} {fr : Fr} {h : Heap} {K : Value → Heap → Prop} (hlen : (sgL g ++ r).length ≤ 1000) (d : DigAt (sgL g ++ r) (sgL g).length m v)
    (g0 : fr.get 0 = some (strV (sgL g ++ r))) (g5 : fr.get 5 = some (.int .u64 (sgZ g : Nat))) (g6 : fr.get 6 = some (.int .u64 (v : Nat)))
    (g7 : fr.get 7 = some (.int .i64 (((sgL g).length + m : Nat) : Int))) (g8 : fr.get 8 = some (.bool (digFlag (sgL g ++ r) (sgL g).length m)))
    (hK : ∀ w, w < 18446744073709551616 → textB w = sgL g ++ r → K (ofT (.float .f64 w)) h) (hE : (∀ u k, ¬ Num (sgL g ++ r) g u k) → K errT h) :
    s37_92.wp env 169 none fr h (resK env [.tmp 2, .tmp 3] K) := by
  have i0 := getK_of g0
  have i5 := getK_of g5
  have i6 := getK_of g6
  have i7 := getK_of g7
  have i8 := getK_of g8
  unfold strV at i0
  by_cases hgood : digFlag (sgL g ++ r) (sgL g).length m = true ∧ v % 2 = 1 ∧ v < 9007199254740992
  · obtain ⟨hf, hodd, hv⟩ := hgood
    obtain ⟨t, hr, hm, hnd⟩ := good_digits rfl d hf hv
    rw [hf] at i8
    have f1 : ¬ Int.tmod (v : Int) 2 = 0 := by
      rw [show Int.tmod (v : Int) 2 = ((v % 2 : Nat) : Int) from rfl]; omega
    have w0 : IntKind.u64.wrap (Int.tmod (v : Int) 2) = Int.tmod (v : Int) 2 := by
      rw [show Int.tmod (v : Int) 2 = ((v % 2 : Nat) : Int) from rfl]; exact wrap_u64 (by omega) (by omega)
    have f2 : ¬ (9007199254740992 : Int) ≤ (v : Int) := by omega
    obtain ⟨a, ha⟩ : ∃ a : Nat, (sgL g).length + m = a := ⟨_, rfl⟩
    have hsl : (sgL g ++ r).length = a + t.length := by rw [hr, List.length_append, List.length_append]; omega
    rw [ha] at i7
    rw [ha] at g7
    by_cases ht : t = []
    · have f3 : ¬ ((a : Nat) : Int) < (((sgL g ++ r).length : Nat) : Int) := by rw [hsl, ht]; simp
      repeat' (first | done | with_reducible (first | refine y1 ?_ (by omega) | refine y2 ?_ (by omega) | refine y3 (fun _ => ?_) (fun _ => ?_) | refine y4 ?_ (by omega) (by omega) | refine y5 ?_ (by omega) | refine y6 ?_ (by with_unfolding_all rfl) | refine y7 ?_ (by with_unfolding_all rfl) | refine y8 ?_ (by with_unfolding_all rfl) | refine y9 ?_ (by with_unfolding_all rfl) | refine ya ?_ (by with_unfolding_all rfl)) | (simp -dsimp only [↓cw_skip, ↓cw_ops, ↓cw_seq, ↓cw_cond, ↓seqK_normal, ↓getK_same, ↓getK_ne, ↓evK_tmp, ↓evK_int, ↓condV_var, ↓gdV_var, ↓opsW_nil, ↓opsW_d, ↓opsW_gd, ↓opW_move, ↓opW_assign, ↓opW_pick, ↓opW_bin, ↓bin_rem, ↓bin_eql, ↓bin_lss, ↓bin_geq, ↓opW_un, ↓un_not, ↓s37_81_w, ↓r37_82_w, ↓s37_83_w, ↓s37_84_w, ↓r37_85_w, ↓s37_86_w, ↓s37_89_w, ↓r37_90_w, ↓s37_91_w, ↓s37_92_w, brK_true, brK_false, ne_eq, Nat.reduceEqDiff, not_false_eq_true, Bool.false_eq_true,  Bool.not_true, ↓i0, ↓i6, ↓i7, ↓i8, str_size, ↓opW_lenT str9, lenT_some, f1, f2, f3]))
      have e0 : tailB 0 = [] := by decide
      refine of_end (g := g) (s := sgL g ++ r) (v := v) (k := 0) (by rw [hr, ht, e0]) hodd hv (by omega) ?_ ?_ ?_ hK (fun hx => hE fun u k x => ?_)
      · simp only [T.get_set]; simpa using g5
      · simp only [T.get_set]; simpa using g6
      · simp [T.get_set]
      · rw [hr] at x
        obtain ⟨hu, htk⟩ := x.tail hv hnd
        rw [ht] at htk
        rcases tailB_inv htk with ⟨_, hk⟩ | ⟨b', p', hp0', hk, ht'⟩
        · subst hu; subst hk; rw [← hr] at x; exact hx x
        · cases ht'
    · have htl : t.length ≠ 0 := fun e => ht (List.length_eq_zero_iff.1 e)
      have f3 : ((a : Nat) : Int) < (((sgL g ++ r).length : Nat) : Int) := by rw [hsl]; omega
      have w1 : IntKind.i64.wrap ((((sgL g ++ r).length : Nat) : Int) - (a : Int)) = (t.length : Int) := by rw [wrap_i64 (by omega) (by omega)]; omega
      have w2 : IntKind.i64.wrap ((a : Int) + 1) = ((a + 1 : Nat) : Int) := by rw [wrap_i64 (by omega) (by omega)]; omega
      have w3 : IntKind.i64.wrap ((a : Int) + 3) = ((a + 3 : Nat) : Int) := by rw [wrap_i64 (by omega) (by omega)]; omega
      have hEx : (∀ b q, t ≠ tailC b :: 50 :: 94 :: Lib.decDigits q) → K errT h := fun hn => hE fun u k x => by
        rw [hr] at x
        obtain ⟨hu, htk⟩ := x.tail hv hnd
        rcases tailB_inv htk with ⟨h0, _⟩ | ⟨b', p', hp0', hk, ht'⟩
        · exact ht h0
        · exact hn _ _ ht'
      have hgett : ∀ i, (sgL g ++ r)[a + i]? = t[i]? := fun i => by rw [hr, ← ha, hm]; exact get_pre2 _ _ _ _
      have hgt0 : (sgL g ++ r)[a]? = t[0]? := hgett 0
      unfold errT at hEx
      by_cases h4 : t.length < 4
      · have f4 : (t.length : Int) < 4 := by omega
        have hx := hEx fun b q e => by
          have := congrArg List.length e
          have h1 : (Lib.decDigits q).length ≠ 0 := fun e => digits_ne q (List.length_eq_zero_iff.1 e)
          simp only [List.length_cons] at this
          omega
        repeat' (first | done | with_reducible (first | refine y1 ?_ (by omega) | refine y2 ?_ (by omega) | refine y3 (fun _ => ?_) (fun _ => ?_) | refine y4 ?_ (by omega) (by omega) | refine y5 ?_ (by omega) | refine y6 ?_ (by with_unfolding_all rfl) | refine y7 ?_ (by with_unfolding_all rfl) | refine y8 ?_ (by with_unfolding_all rfl) | refine y9 ?_ (by with_unfolding_all rfl) | refine ya ?_ (by with_unfolding_all rfl)) | (simp -dsimp only [↓cw_skip, ↓cw_ops, ↓cw_seq, ↓cw_ret, ↓cw_cond, ↓seqK_normal, ↓seqK_ret, ↓getK_same, ↓getK_ne, ↓evK_tmp, ↓evK_int, ↓evK_bool, ↓evK_float, ↓condV_var, ↓gdV_var, ↓gdV_undef, ↓opsW_nil, ↓opsW_d, ↓opsW_gd, ↓opW_move, ↓opW_assign, ↓opW_pick, ↓opW_bin, ↓bin_sub, ↓bin_rem, ↓bin_eql, ↓bin_lss, ↓bin_geq, ↓resK_two, ↓opW_un, ↓un_not, ↓r37_75_w, ↓s37_76_w, ↓s37_77_w, ↓r37_78_w, ↓s37_79_w, ↓s37_80_w, ↓s37_81_w, ↓r37_82_w, ↓s37_83_w, ↓s37_84_w, ↓r37_85_w, ↓s37_86_w, ↓s37_89_w, ↓r37_90_w, ↓s37_91_w, ↓s37_92_w, brK_true, brK_false, ne_eq, Nat.reduceEqDiff, not_false_eq_true, Bool.true_eq_false, Bool.false_eq_true,  Bool.not_true, ↓i0, ↓i6, ↓i7, ↓i8, str_size, ↓opW_lenT str9, lenT_some, f1, f2, f3, w1, f4]))
        exact hx
      · have f4 : ¬ (t.length : Int) < 4 := by omega
        obtain ⟨c, x, y, z, q, rfl⟩ : ∃ c x y z q, t = c :: x :: y :: z :: q := by
          cases t with
          | nil => simp at h4
          | cons c t => cases t with
            | nil => simp at h4
            | cons x t => cases t with
              | nil => simp at h4
              | cons y t => cases t with
                | nil => simp at h4
                | cons z t => exact ⟨_, _, _, _, _, rfl⟩
        have hle3 : a + 3 ≤ (sgL g ++ r).length := by rw [hsl]; simp
        have hdr : ((sgL g ++ r).drop (a + 1)).take (a + 3 - (a + 1)) = [x, y] := by
          have e : (sgL g ++ r).drop (a + 1) = (c :: x :: y :: z :: q).drop 1 := by
            rw [hr, ← ha, hm, ← List.append_assoc, ← List.length_append, List.drop_append, List.drop_eq_nil_of_le (by omega), Nat.add_sub_cancel_left]; rfl
          rw [e, show a + 3 - (a + 1) = 2 by omega]; rfl
        have cs := fun K => slice_str2 (E := env) (t := 9) (l := sgL g ++ r) (k := .i64) (k' := .i64) (i := ((a + 1 : Nat) : Int)) (j := ((a + 3 : Nat) : Int)) (K := K) (a := a + 1) (b := a + 3) str9 rfl rfl (by omega) hle3
        rw [hdr] at cs
        have cb := fun K => idxT_at (k := .i64) (i := ((a : Nat) : Int)) (K := K) rfl (hgt0.trans (show _ = some c from rfl))
        by_cases hxy : x = 50 ∧ y = 94
        · obtain ⟨rfl, rfl⟩ := hxy
          have e2 : ((⟨([50, 94] : List UInt8).toArray⟩ : ByteArray) = ⟨⟨[50, 94]⟩⟩) = True := eq_true rfl
          have hcase : (c = 42 ∨ c = 47) ∨ (c ≠ 42 ∧ c ≠ 47) := by
            by_cases h42 : c = 42
            · exact .inl (.inl h42)
            · by_cases h47 : c = 47
              · exact .inl (.inr h47)
              · exact .inr ⟨h42, h47⟩
          have w4 : IntKind.i64.wrap ((a : Int) + 3) = ((a + 3 : Nat) : Int) := w3
          rcases hcase with hc | ⟨hc1, hc2⟩
          · obtain ⟨b, rfl⟩ : ∃ b, c = tailC b := by
              rcases hc with rfl | rfl
              · exact ⟨false, rfl⟩
              · exact ⟨true, rfl⟩
            have hae : (sgL g).length + (Lib.decDigits v).length = a := by rw [← ha, hm]
            have fin : ∀ (fr' : Fr), (∀ t, t = 0 ∨ t = 5 ∨ t = 6 ∨ t = 7 → fr'.get t = fr.get t) → ∀ Q : Ex → Fr → Heap → Prop, (∀ fr h, Q .ret fr h = resK env [.tmp 2, .tmp 3] K .ret fr h) → (∀ fr h, Q .normal fr h = s37_59.wp env 169 none fr h (resK env [.tmp 2, .tmp 3] K)) →
                s37_74.wp env 169 none fr' h Q := by
              intro fr' hfr Q hQ hN
              have j0 := getK_of ((hfr 0 (by simp)).trans g0)
              have j7 := getK_of ((hfr 7 (by simp)).trans g7)
              unfold strV at j0
              repeat' (first | done | with_reducible (first | refine y1 ?_ (by omega) | refine y2 ?_ (by omega) | refine y3 (fun _ => ?_) (fun _ => ?_) | refine y4 ?_ (by omega) (by omega) | refine y5 ?_ (by omega) | refine y6 ?_ (by with_unfolding_all rfl) | refine y7 ?_ (by with_unfolding_all rfl) | refine y8 ?_ (by with_unfolding_all rfl) | refine y9 ?_ (by with_unfolding_all rfl) | refine ya ?_ (by with_unfolding_all rfl)) | (simp -dsimp only [↓cw_ops, ↓cw_seq, ↓getK_same, ↓getK_ne, ↓evK_tmp, ↓evK_int, ↓opsW_d, ↓opW_move, ↓opW_bin, ↓bin_add, ↓evs_nil, ↓evs_cons, ↓opW_call, ↓r37_73_w, ↓s37_74_w, ne_eq, Nat.reduceEqDiff, not_false_eq_true, ↓j0, ↓j7, w4]))
              refine digits_ret (s := sgL g ++ r) (a := a + 3) hlen hle3 fun m' p dg hp => ?_
              repeat' (first | done | with_reducible (first | refine y1 ?_ (by omega) | refine y2 ?_ (by omega) | refine y3 (fun _ => ?_) (fun _ => ?_) | refine y4 ?_ (by omega) (by omega) | refine y5 ?_ (by omega) | refine y6 ?_ (by with_unfolding_all rfl) | refine y7 ?_ (by with_unfolding_all rfl) | refine y8 ?_ (by with_unfolding_all rfl) | refine y9 ?_ (by with_unfolding_all rfl) | refine ya ?_ (by with_unfolding_all rfl)) | (simp -dsimp only [↓seqK_normal, ↓getK_same, ↓getK_ne, ↓evK_tmp, ↓opsW_nil, ↓opsW_d, ↓opW_move, ↓opW_assign, ↓opW_extract, ↓ext_tuple, List.getElem?_cons_zero, List.getElem?_cons_succ, onV_some', ne_eq, Nat.reduceEqDiff, not_false_eq_true]))
              rw [hr] at hlen dg hK hE g0 ⊢
              rw [← hae] at dg g7
              refine of_tail2 (g := g) (v := v) (b := b) (q := z :: q) (m := m') (p := p) hodd hv hlen dg ?_ ?_ ?_ ?_ ?_ ?_ ?_ hK hE hQ hN
              · simp only [T.get_set]; simpa using (hfr 0 (by simp)).trans g0
              · simp only [T.get_set]; simpa using (hfr 5 (by simp)).trans g5
              · simp only [T.get_set]; simpa using (hfr 6 (by simp)).trans g6
              · simp only [T.get_set]; simpa using (hfr 7 (by simp)).trans g7
              · simp [T.get_set]
              · simp only [T.get_set]; simp [hae]
              · simp only [T.get_set]; simp [hae]
            cases b with
            | false =>
              have hb : (((tailC false : UInt8).toNat : Nat) : Int) = 42 := rfl
              repeat' (first | done | with_reducible (first | refine y1 ?_ (by omega) | refine y2 ?_ (by omega) | refine y3 (fun _ => ?_) (fun _ => ?_) | refine y4 ?_ (by omega) (by omega) | refine y5 ?_ (by omega) | refine y6 ?_ (by with_unfolding_all rfl) | refine y7 ?_ (by with_unfolding_all rfl) | refine y8 ?_ (by with_unfolding_all rfl) | refine y9 ?_ (by with_unfolding_all rfl) | refine ya ?_ (by with_unfolding_all rfl)) | (simp -dsimp only [↓cw_skip, ↓cw_ops, ↓cw_seq, ↓cw_cond, ↓seqK_normal, ↓getK_same, ↓getK_ne, ↓evK_tmp, ↓evK_int, ↓evK_bool, ↓evK_string, ↓condV_var, ↓gdV_var, ↓opsW_nil, ↓opsW_d, ↓opsW_gd, ↓opW_move, ↓opW_assign, ↓opW_pick, ↓opW_bin, ↓bin_add, ↓bin_sub, ↓bin_rem, ↓bin_eql, ↓bin_neq, ↓bin_lss, ↓bin_geq, ↓bin_neqS, ↓opW_un, ↓un_not, ↓opW_slice, ↓evo_none, ↓evo_some, ↓s37_77_w, ↓r37_78_w, ↓s37_79_w, ↓s37_80_w, ↓s37_81_w, ↓r37_82_w, ↓s37_83_w, ↓s37_84_w, ↓r37_85_w, ↓s37_86_w, ↓s37_89_w, ↓r37_90_w, ↓s37_91_w, ↓s37_92_w, List.length_cons, brK_true, brK_false, ne_eq, Nat.reduceEqDiff, not_false_eq_true, Bool.false_eq_true,  Bool.not_true, ↓i0, ↓i6, ↓i7, ↓i8, str_size, ↓opW_lenT str9, lenT_some, ↓opW_indexT str9, cb, cs, f1, f2, f3, w1, w2, w3, hb]))
              refine fin _ ?_ _ (fun _ _ => rfl) (fun _ _ => rfl)
              rintro t (rfl | rfl | rfl | rfl) <;> simp [T.get_set]
            | true =>
              have hb : (((tailC true : UInt8).toNat : Nat) : Int) = 47 := rfl
              repeat' (first | done | with_reducible (first | refine y1 ?_ (by omega) | refine y2 ?_ (by omega) | refine y3 (fun _ => ?_) (fun _ => ?_) | refine y4 ?_ (by omega) (by omega) | refine y5 ?_ (by omega) | refine y6 ?_ (by with_unfolding_all rfl) | refine y7 ?_ (by with_unfolding_all rfl) | refine y8 ?_ (by with_unfolding_all rfl) | refine y9 ?_ (by with_unfolding_all rfl) | refine ya ?_ (by with_unfolding_all rfl)) | (simp -dsimp only [↓cw_skip, ↓cw_ops, ↓cw_seq, ↓cw_cond, ↓seqK_normal, ↓getK_same, ↓getK_ne, ↓evK_tmp, ↓evK_int, ↓evK_string, ↓condV_var, ↓gdV_var, ↓opsW_nil, ↓opsW_d, ↓opsW_gd, ↓opW_move, ↓opW_assign, ↓opW_pick, ↓opW_bin, ↓bin_add, ↓bin_sub, ↓bin_rem, ↓bin_eql, ↓bin_neq, ↓bin_lss, ↓bin_geq, ↓bin_neqS, ↓opW_un, ↓un_not, ↓opW_slice, ↓evo_none, ↓evo_some, ↓s37_77_w, ↓r37_78_w, ↓s37_79_w, ↓s37_80_w, ↓s37_81_w, ↓r37_82_w, ↓s37_83_w, ↓s37_84_w, ↓r37_85_w, ↓s37_86_w, ↓s37_89_w, ↓r37_90_w, ↓s37_91_w, ↓s37_92_w, List.length_cons, brK_true, brK_false, ne_eq, Nat.reduceEqDiff, not_false_eq_true, Bool.false_eq_true,  Bool.not_true, ↓i0, ↓i6, ↓i7, ↓i8, str_size, ↓opW_lenT str9, lenT_some, ↓opW_indexT str9, cb, cs, f1, f2, f3, w1, w2, w3, hb]))
              refine fin _ ?_ _ (fun _ _ => rfl) (fun _ _ => rfl)
              rintro t (rfl | rfl | rfl | rfl) <;> simp [T.get_set]
          · have hx := hEx fun b q e => by
              have h1 := (List.cons.inj e).1
              cases b
              · exact hc1 h1
              · exact hc2 h1
            have n1 := u8_ne (n := 42) (by omega) hc1
            have n2 := u8_ne (n := 47) (by omega) hc2
            have n1 : ¬ ((c.toNat : Nat) : Int) = 42 := n1
            have n2 : ¬ ((c.toNat : Nat) : Int) = 47 := n2
            repeat' (first | done | with_reducible (first | refine y1 ?_ (by omega) | refine y2 ?_ (by omega) | refine y3 (fun _ => ?_) (fun _ => ?_) | refine y4 ?_ (by omega) (by omega) | refine y5 ?_ (by omega) | refine y6 ?_ (by with_unfolding_all rfl) | refine y7 ?_ (by with_unfolding_all rfl) | refine y8 ?_ (by with_unfolding_all rfl) | refine y9 ?_ (by with_unfolding_all rfl) | refine ya ?_ (by with_unfolding_all rfl)) | (simp -dsimp only [↓cw_skip, ↓cw_ops, ↓cw_seq, ↓cw_ret, ↓cw_cond, ↓seqK_normal, ↓seqK_ret, ↓getK_same, ↓getK_ne, ↓evK_tmp, ↓evK_int, ↓evK_string, ↓evK_float, ↓condV_var, ↓gdV_var, ↓opsW_nil, ↓opsW_d, ↓opsW_gd, ↓opW_move, ↓opW_assign, ↓opW_pick, ↓opW_bin, ↓bin_add, ↓bin_sub, ↓bin_rem, ↓bin_eql, ↓bin_neq, ↓bin_lss, ↓bin_geq, ↓resK_two, ↓bin_neqS, ↓opW_un, ↓un_not, ↓opW_slice, ↓evo_none, ↓evo_some, ↓r37_75_w, ↓s37_76_w, ↓s37_77_w, ↓r37_78_w, ↓s37_79_w, ↓s37_80_w, ↓s37_81_w, ↓r37_82_w, ↓s37_83_w, ↓s37_84_w, ↓r37_85_w, ↓s37_86_w, ↓s37_89_w, ↓r37_90_w, ↓s37_91_w, ↓s37_92_w, List.length_cons, brK_true, brK_false, ne_eq, Nat.reduceEqDiff, not_false_eq_true, Bool.false_eq_true,  Bool.not_true, ↓i0, ↓i6, ↓i7, ↓i8, str_size, ↓opW_lenT str9, lenT_some, ↓opW_indexT str9, cb, cs, f1, f2, f3, w1, w2, w3, n1, n2]))
            exact hx
        · have hx := hEx fun b q e => by
            have h1 := List.cons.inj e
            have h2 := List.cons.inj h1.2
            have h3 := List.cons.inj h2.2
            exact hxy ⟨h2.1, h3.1⟩
          have e2 : ¬ ((⟨([x, y] : List UInt8).toArray⟩ : ByteArray) = ⟨⟨[50, 94]⟩⟩) := bytes_ne (fun e => by
            have h2 := List.cons.inj e
            have h3 := List.cons.inj h2.2
            exact hxy ⟨h2.1, h3.1⟩)
          repeat' (first | done | with_reducible (first | refine y1 ?_ (by omega) | refine y2 ?_ (by omega) | refine y3 (fun _ => ?_) (fun _ => ?_) | refine y4 ?_ (by omega) (by omega) | refine y5 ?_ (by omega) | refine y6 ?_ (by with_unfolding_all rfl) | refine y7 ?_ (by with_unfolding_all rfl) | refine y8 ?_ (by with_unfolding_all rfl) | refine y9 ?_ (by with_unfolding_all rfl) | refine ya ?_ (by with_unfolding_all rfl)) | (simp -dsimp only [↓cw_skip, ↓cw_ops, ↓cw_seq, ↓cw_ret, ↓cw_cond, ↓seqK_normal, ↓seqK_ret, ↓getK_same, ↓getK_ne, ↓evK_tmp, ↓evK_int, ↓evK_bool, ↓evK_string, ↓evK_float, ↓condV_var, ↓gdV_var, ↓gdV_undef, ↓opsW_nil, ↓opsW_d, ↓opsW_gd, ↓opW_move, ↓opW_assign, ↓opW_pick, ↓opW_bin, ↓bin_add, ↓bin_sub, ↓bin_rem, ↓bin_eql, ↓bin_lss, ↓bin_geq, ↓resK_two, ↓bin_neqS, ↓opW_un, ↓un_not, ↓opW_slice, ↓evo_none, ↓evo_some, ↓r37_75_w, ↓s37_76_w, ↓s37_77_w, ↓r37_78_w, ↓s37_79_w, ↓s37_80_w, ↓s37_81_w, ↓r37_82_w, ↓s37_83_w, ↓s37_84_w, ↓r37_85_w, ↓s37_86_w, ↓s37_89_w, ↓r37_90_w, ↓s37_91_w, ↓s37_92_w, List.length_cons, brK_true, brK_false, ne_eq, Nat.reduceEqDiff, not_false_eq_true, Bool.true_eq_false, Bool.false_eq_true,  Bool.not_true, ↓i0, ↓i6, ↓i7, ↓i8, str_size, ↓opW_lenT str9, lenT_some, cs, f1, f2, f3, w1, w2, w3, e2]))
          exact hx
  · have hx := hE (bad_digits rfl d hgood)
    unfold errT at hx
    cases hf : digFlag (sgL g ++ r) (sgL g).length m with
    | false =>
      rw [hf] at i8
      repeat' (first | done | with_reducible (first | refine y1 ?_ (by omega) | refine y2 ?_ (by omega) | refine y3 (fun _ => ?_) (fun _ => ?_) | refine y4 ?_ (by omega) (by omega) | refine y5 ?_ (by omega) | refine y6 ?_ (by with_unfolding_all rfl) | refine y7 ?_ (by with_unfolding_all rfl) | refine y8 ?_ (by with_unfolding_all rfl) | refine y9 ?_ (by with_unfolding_all rfl) | refine ya ?_ (by with_unfolding_all rfl)) | (simp -dsimp only [↓cw_ops, ↓cw_seq, ↓cw_ret, ↓cw_cond, ↓seqK_normal, ↓seqK_ret, ↓getK_same, ↓getK_ne, ↓evK_tmp, ↓evK_int, ↓evK_bool, ↓evK_float, ↓condV_var, ↓gdV_var, ↓opsW_nil, ↓opsW_d, ↓opsW_gd, ↓opW_move, ↓opW_assign, ↓opW_pick, ↓resK_two, ↓opW_un, ↓un_not, ↓r37_87_w, ↓s37_88_w, ↓s37_89_w, ↓r37_90_w, ↓s37_91_w, ↓s37_92_w, brK_true, brK_false, ne_eq, Nat.reduceEqDiff, not_false_eq_true, Bool.true_eq_false, Bool.not_false, ↓i8]))
      exact hx
    | true =>
      rw [hf] at i8
      have w0 : Int.tmod (v : Int) 2 = ((v % 2 : Nat) : Int) := rfl
      by_cases ho : v % 2 = 1
      · have f1 : ¬ Int.tmod (v : Int) 2 = 0 := by rw [w0]; omega
        have f2 : (9007199254740992 : Int) ≤ (v : Int) := by
          have : ¬ v < 9007199254740992 := fun h3 => hgood ⟨hf, ho, h3⟩
          omega
        repeat' (first | done | with_reducible (first | refine y1 ?_ (by omega) | refine y2 ?_ (by omega) | refine y3 (fun _ => ?_) (fun _ => ?_) | refine y4 ?_ (by omega) (by omega) | refine y5 ?_ (by omega) | refine y6 ?_ (by with_unfolding_all rfl) | refine y7 ?_ (by with_unfolding_all rfl) | refine y8 ?_ (by with_unfolding_all rfl) | refine y9 ?_ (by with_unfolding_all rfl) | refine ya ?_ (by with_unfolding_all rfl)) | (simp -dsimp only [↓cw_ops, ↓cw_seq, ↓cw_ret, ↓cw_cond, ↓seqK_normal, ↓seqK_ret, ↓getK_same, ↓getK_ne, ↓evK_tmp, ↓evK_int, ↓evK_float, ↓condV_var, ↓gdV_var, ↓opsW_nil, ↓opsW_d, ↓opsW_gd, ↓opW_move, ↓opW_assign, ↓opW_pick, ↓opW_bin, ↓bin_rem, ↓bin_eql, ↓bin_geq, ↓resK_two, ↓opW_un, ↓un_not, ↓r37_87_w, ↓s37_88_w, ↓s37_89_w, ↓r37_90_w, ↓s37_91_w, ↓s37_92_w, brK_true, brK_false, ne_eq, Nat.reduceEqDiff, not_false_eq_true, Bool.false_eq_true,  Bool.not_true, ↓i6, ↓i8, f1, f2]))
        exact hx
      · have f1 : Int.tmod (v : Int) 2 = 0 := by rw [w0]; omega
        repeat' (first | done | with_reducible (first | refine y1 ?_ (by omega) | refine y2 ?_ (by omega) | refine y3 (fun _ => ?_) (fun _ => ?_) | refine y4 ?_ (by omega) (by omega) | refine y5 ?_ (by omega) | refine y6 ?_ (by with_unfolding_all rfl) | refine y7 ?_ (by with_unfolding_all rfl) | refine y8 ?_ (by with_unfolding_all rfl) | refine y9 ?_ (by with_unfolding_all rfl) | refine ya ?_ (by with_unfolding_all rfl)) | (simp -dsimp only [↓cw_ops, ↓cw_seq, ↓cw_ret, ↓cw_cond, ↓seqK_normal, ↓seqK_ret, ↓getK_same, ↓getK_ne, ↓evK_tmp, ↓evK_int, ↓evK_bool, ↓evK_float, ↓condV_var, ↓gdV_var, ↓opsW_nil, ↓opsW_d, ↓opsW_gd, ↓opW_move, ↓opW_assign, ↓opW_pick, ↓opW_bin, ↓bin_rem, ↓bin_eql, ↓resK_two, ↓opW_un, ↓un_not, ↓r37_87_w, ↓s37_88_w, ↓s37_89_w, ↓r37_90_w, ↓s37_91_w, ↓s37_92_w, brK_true, brK_false, ne_eq, Nat.reduceEqDiff, not_false_eq_true, Bool.true_eq_false, Bool.false_eq_true,  Bool.not_true, ↓i6, ↓i8, f1]))
        exact hx
end Go.Proofs.YtjcmcoabckkjoaaDoor.Li

namespace Go.Proofs.YtjcmcoabckkjoaaDoor.Li
open Go.Ev
set_option maxRecDepth 100000
set_option maxHeartbeats 400000
theorem no_words2 {g : Bool} {r : List UInt8} (hnn : g = false → r.head? ≠ some 45) (w1 : sgL g ++ r ≠ [110, 97, 110]) (w2 : r ≠ [105, 110, 102]) (w3 : r ≠ [48]) : ∀ c ∈ clsC, classB c ≠ sgL g ++ r := by
  have hall : ∀ x ∈ [[110, 97, 110], [105, 110, 102], [45, 105, 110, 102], [48], [45, 48]], x ≠ sgL g ++ r := by
    intro x hx e
    simp only [List.mem_cons, List.not_mem_nil, or_false] at hx
    cases g with
    | false =>
      have hn := hnn rfl
      simp only [sgL, Bool.false_eq_true, if_false, List.nil_append] at e w1
      subst e
      rcases hx with rfl | rfl | rfl | rfl | rfl
      · exact w1 rfl
      · exact w2 rfl
      · exact hn rfl
      · exact w3 rfl
      · exact hn rfl
    | true =>
      simp only [sgL, if_true, List.cons_append, List.nil_append] at e w1
      rcases hx with rfl | rfl | rfl | rfl | rfl
      · exact absurd (List.cons.inj e).1 (by decide)
      · exact absurd (List.cons.inj e).1 (by decide)
      · exact w2 (List.cons.inj e).2.symm
      · exact absurd (List.cons.inj e).1 (by decide)
      · exact w3 (List.cons.inj e).2.symm
  intro c hc
  exact hall _ (by rw [← cls_vals]; exact List.mem_map.2 ⟨c, hc, rfl⟩)
theorem textB_cls {c : Nat} (h : classB c ≠ []) : textB c = classB c := by unfold textB; rw [if_pos h]
theorem inf_text (g : Bool) : textB (sgZ g + 9218868437227405312) = sgL g ++ [105, 110, 102] := by
  cases g
  · have e : classB (sgZ false + 9218868437227405312) = [105, 110, 102] := by decide
    rw [textB_cls (by rw [e]; simp), e]; rfl
  · have e : classB (sgZ true + 9218868437227405312) = [45, 105, 110, 102] := by decide
    rw [textB_cls (by rw [e]; simp), e]; rfl
theorem zero_text (g : Bool) : textB (sgZ g) = sgL g ++ [48] := by
  cases g
  · have e : classB (sgZ false) = [48] := by decide
    rw [textB_cls (by rw [e]; simp), e]; rfl
  · have e : classB (sgZ true) = [45, 48] := by decide
    rw [textB_cls (by rw [e]; simp), e]; rfl
theorem nan_text : textB 9221120237041090561 = [110, 97, 110] := by
  have e : classB 9221120237041090561 = [110, 97, 110] := by decide
  rw [textB_cls (by rw [e]; simp), e]
theorem bytes_eq {x y : List UInt8} (h : x = y) : ((⟨x.toArray⟩ : ByteArray) = ⟨⟨y⟩⟩) = True := eq_true (by rw [h])
/-- behind the sign -/
theorem of_words {g : Bool} {r : List UInt8} {fr : Fr} {h : Heap} {K : Value → Heap → Prop} (hnn : g = false → r.head? ≠ some 45) (hlen : (sgL g ++ r).length ≤ 1000)
    (g0 : fr.get 0 = some (strV (sgL g ++ r))) (g4 : fr.get 4 = some (.int .i64 ((sgL g).length : Nat))) (g5 : fr.get 5 = some (.int .u64 (sgZ g : Nat)))
    (hK : ∀ w, w < 18446744073709551616 → textB w = sgL g ++ r → K (ofT (.float .f64 w)) h) (hE : (∀ w, w < 18446744073709551616 → textB w ≠ sgL g ++ r) → K errT h) :
    s37_112.wp env 169 none fr h (resK env [.tmp 2, .tmp 3] K) := by
  have i0 := getK_of g0
  have i4 := getK_of g4
  have i5 := getK_of g5
  unfold strV at i0
  have hg : sgZ g = 0 ∨ sgZ g = 9223372036854775808 := by unfold sgZ; cases g <;> simp
  have cs := fun K => slice_str1 (E := env) (t := 9) (l := sgL g ++ r) (k := .i64) (i := (((sgL g).length : Nat) : Int)) (K := K) (a := (sgL g).length) str9 rfl (by simp)
  rw [sg_drop] at cs
  by_cases h2 : r = [105, 110, 102]
  · have e2 := bytes_eq h2
    have hx := hK (sgZ g + 9218868437227405312) (by omega) (by rw [inf_text, h2])
    have w1 : IntKind.u64.wrap ((sgZ g : Int) + 9218868437227405312) = ((sgZ g + 9218868437227405312 : Nat) : Int) := by rw [wrap_u64 (by omega) (by omega)]; omega
    repeat' (first | done | with_reducible (first | refine y1 ?_ (by omega) | refine y2 ?_ (by omega) | refine y3 (fun _ => ?_) (fun _ => ?_) | refine y4 ?_ (by omega) (by omega) | refine y5 ?_ (by omega) | refine y6 ?_ (by with_unfolding_all rfl) | refine y7 ?_ (by with_unfolding_all rfl) | refine y8 ?_ (by with_unfolding_all rfl) | refine y9 ?_ (by with_unfolding_all rfl) | refine ya ?_ (by with_unfolding_all rfl)) | (simp -dsimp only [↓cw_ops, ↓cw_seq, ↓cw_cond, ↓seqK_normal, ↓getK_same, ↓getK_ne, ↓evK_tmp, ↓evK_int, ↓evK_string, ↓condV_var, ↓opsW_nil, ↓opsW_d, ↓opW_move, ↓opW_bin, ↓bin_add, ↓evs_nil, ↓evs_cons, ↓opW_call, ↓bin_eqlS, ↓opW_slice, ↓evo_none, ↓evo_some, ↓r37_107_w, ↓s37_108_w, ↓s37_109_w, ↓r37_110_w, ↓s37_111_w, ↓s37_112_w, brK_true, ne_eq, Nat.reduceEqDiff, not_false_eq_true, ↓i0, ↓i4, ↓i5, cs, e2, w1]))
    refine from_u ?_
    rw [Int.toNat_natCast]
    repeat' (first | done | with_reducible (first | refine y1 ?_ (by omega) | refine y2 ?_ (by omega) | refine y3 (fun _ => ?_) (fun _ => ?_) | refine y4 ?_ (by omega) (by omega) | refine y5 ?_ (by omega) | refine y6 ?_ (by with_unfolding_all rfl) | refine y7 ?_ (by with_unfolding_all rfl) | refine y8 ?_ (by with_unfolding_all rfl) | refine y9 ?_ (by with_unfolding_all rfl) | refine ya ?_ (by with_unfolding_all rfl)) | (simp -dsimp only [↓cw_ret, ↓seqK_normal, ↓seqK_ret, ↓getK_same, ↓getK_ne, ↓evK_tmp, ↓evK_int, ↓opsW_nil, ↓opsW_d, ↓opW_assign, ↓resK_two, ne_eq, Nat.reduceEqDiff, not_false_eq_true]))
    exact hx
  have e2 := bytes_ne h2
  by_cases h1 : sgL g ++ r = [110, 97, 110]
  · have e1 := bytes_eq h1
    have hx := hK 9221120237041090561 (by omega) (by rw [nan_text, h1])
    repeat' (first | done | with_reducible (first | refine y1 ?_ (by omega) | refine y2 ?_ (by omega) | refine y3 (fun _ => ?_) (fun _ => ?_) | refine y4 ?_ (by omega) (by omega) | refine y5 ?_ (by omega) | refine y6 ?_ (by with_unfolding_all rfl) | refine y7 ?_ (by with_unfolding_all rfl) | refine y8 ?_ (by with_unfolding_all rfl) | refine y9 ?_ (by with_unfolding_all rfl) | refine ya ?_ (by with_unfolding_all rfl)) | (simp -dsimp only [↓cw_skip, ↓cw_ops, ↓cw_seq, ↓cw_cond, ↓seqK_normal, ↓getK_same, ↓getK_ne, ↓evK_tmp, ↓evK_int, ↓evK_string, ↓condV_var, ↓opsW_nil, ↓opsW_d, ↓opW_move, ↓opW_bin, ↓evs_nil, ↓evs_cons, ↓opW_call, ↓bin_eqlS, ↓opW_slice, ↓evo_none, ↓evo_some, ↓r37_101_w, ↓s37_102_w, ↓s37_103_w, ↓r37_104_w, ↓s37_105_w, ↓s37_106_w, ↓s37_109_w, ↓r37_110_w, ↓s37_111_w, ↓s37_112_w, brK_true, brK_false, ne_eq, Nat.reduceEqDiff, not_false_eq_true, Bool.false_eq_true,  ↓i0, ↓i4, cs, e2, e1]))
    refine from_u ?_
    rw [show (9221120237041090561 : Int).toNat = 9221120237041090561 from rfl]
    repeat' (first | done | with_reducible (first | refine y1 ?_ (by omega) | refine y2 ?_ (by omega) | refine y3 (fun _ => ?_) (fun _ => ?_) | refine y4 ?_ (by omega) (by omega) | refine y5 ?_ (by omega) | refine y6 ?_ (by with_unfolding_all rfl) | refine y7 ?_ (by with_unfolding_all rfl) | refine y8 ?_ (by with_unfolding_all rfl) | refine y9 ?_ (by with_unfolding_all rfl) | refine ya ?_ (by with_unfolding_all rfl)) | (simp -dsimp only [↓cw_ret, ↓seqK_normal, ↓seqK_ret, ↓getK_same, ↓getK_ne, ↓evK_tmp, ↓evK_int, ↓opsW_nil, ↓opsW_d, ↓opW_assign, ↓resK_two, ne_eq, Nat.reduceEqDiff, not_false_eq_true]))
    exact hx
  have e1 := bytes_ne h1
  by_cases h3 : r = [48]
  · have e3 := bytes_eq h3
    have hx := hK (sgZ g) (by omega) (by rw [zero_text, h3])
    repeat' (first | done | with_reducible (first | refine y1 ?_ (by omega) | refine y2 ?_ (by omega) | refine y3 (fun _ => ?_) (fun _ => ?_) | refine y4 ?_ (by omega) (by omega) | refine y5 ?_ (by omega) | refine y6 ?_ (by with_unfolding_all rfl) | refine y7 ?_ (by with_unfolding_all rfl) | refine y8 ?_ (by with_unfolding_all rfl) | refine y9 ?_ (by with_unfolding_all rfl) | refine ya ?_ (by with_unfolding_all rfl)) | (simp -dsimp only [↓cw_skip, ↓cw_ops, ↓cw_seq, ↓cw_cond, ↓seqK_normal, ↓getK_same, ↓getK_ne, ↓evK_tmp, ↓evK_string, ↓condV_var, ↓opsW_nil, ↓opsW_d, ↓opW_move, ↓opW_bin, ↓evs_nil, ↓evs_cons, ↓opW_call, ↓bin_eqlS, ↓opW_slice, ↓evo_none, ↓evo_some, ↓r37_95_w, ↓s37_96_w, ↓s37_97_w, ↓r37_98_w, ↓s37_99_w, ↓s37_100_w, ↓s37_103_w, ↓r37_104_w, ↓s37_105_w, ↓s37_106_w, ↓s37_109_w, ↓r37_110_w, ↓s37_111_w, ↓s37_112_w, brK_true, brK_false, ne_eq, Nat.reduceEqDiff, not_false_eq_true, Bool.false_eq_true,  ↓i0, ↓i4, ↓i5, cs, e2, e1, e3]))
    refine from_u ?_
    rw [Int.toNat_natCast]
    repeat' (first | done | with_reducible (first | refine y1 ?_ (by omega) | refine y2 ?_ (by omega) | refine y3 (fun _ => ?_) (fun _ => ?_) | refine y4 ?_ (by omega) (by omega) | refine y5 ?_ (by omega) | refine y6 ?_ (by with_unfolding_all rfl) | refine y7 ?_ (by with_unfolding_all rfl) | refine y8 ?_ (by with_unfolding_all rfl) | refine y9 ?_ (by with_unfolding_all rfl) | refine ya ?_ (by with_unfolding_all rfl)) | (simp -dsimp only [↓cw_ret, ↓seqK_normal, ↓seqK_ret, ↓getK_same, ↓getK_ne, ↓evK_tmp, ↓evK_int, ↓opsW_nil, ↓opsW_d, ↓opW_assign, ↓resK_two, ne_eq, Nat.reduceEqDiff, not_false_eq_true]))
    exact hx
  have e3 := bytes_ne h3
  repeat' (first | done | with_reducible (first | refine y1 ?_ (by omega) | refine y2 ?_ (by omega) | refine y3 (fun _ => ?_) (fun _ => ?_) | refine y4 ?_ (by omega) (by omega) | refine y5 ?_ (by omega) | refine y6 ?_ (by with_unfolding_all rfl) | refine y7 ?_ (by with_unfolding_all rfl) | refine y8 ?_ (by with_unfolding_all rfl) | refine y9 ?_ (by with_unfolding_all rfl) | refine ya ?_ (by with_unfolding_all rfl)) | (simp -dsimp only [↓cw_skip, ↓cw_ops, ↓cw_seq, ↓cw_cond, ↓seqK_normal, ↓getK_same, ↓getK_ne, ↓evK_tmp, ↓evK_string, ↓condV_var, ↓opsW_nil, ↓opsW_d, ↓opW_move, ↓opW_bin, ↓evs_nil, ↓evs_cons, ↓opW_call, ↓bin_eqlS, ↓opW_slice, ↓evo_none, ↓evo_some, ↓r37_93_w, ↓s37_94_w, ↓s37_97_w, ↓r37_98_w, ↓s37_99_w, ↓s37_100_w, ↓s37_103_w, ↓r37_104_w, ↓s37_105_w, ↓s37_106_w, ↓s37_109_w, ↓r37_110_w, ↓s37_111_w, ↓s37_112_w, brK_false, ne_eq, Nat.reduceEqDiff, not_false_eq_true, Bool.false_eq_true,  ↓i0, ↓i4, cs, e2, e1, e3]))
  refine digits_ret (s := sgL g ++ r) (a := (sgL g).length) hlen (by simp) fun m v hm hv => ?_
  repeat' (first | done | with_reducible (first | refine y1 ?_ (by omega) | refine y2 ?_ (by omega) | refine y3 (fun _ => ?_) (fun _ => ?_) | refine y4 ?_ (by omega) (by omega) | refine y5 ?_ (by omega) | refine y6 ?_ (by with_unfolding_all rfl) | refine y7 ?_ (by with_unfolding_all rfl) | refine y8 ?_ (by with_unfolding_all rfl) | refine y9 ?_ (by with_unfolding_all rfl) | refine ya ?_ (by with_unfolding_all rfl)) | (simp -dsimp only [↓seqK_normal, ↓getK_same, ↓getK_ne, ↓evK_tmp, ↓opsW_nil, ↓opsW_d, ↓opW_move, ↓opW_assign, ↓opW_extract, ↓ext_tuple, List.getElem?_cons_zero, List.getElem?_cons_succ, onV_some', ne_eq, Nat.reduceEqDiff, not_false_eq_true]))
  refine of_mid (g := g) (r := r) (m := m) (v := v) hlen hm ?_ ?_ ?_ ?_ ?_ hK (fun hn => hE (no_text rfl hnn (no_words2 hnn h1 h2 h3) hn))
  · simp only [T.get_set]; simpa using g0
  · simp only [T.get_set]; simpa using g5
  · simp [T.get_set]
  · simp [T.get_set]
  · simp [T.get_set]
/-- the reference's Of, of any text -/
theorem refOf_ret {s : List UInt8} {h : Heap} {K : Value → Heap → Prop} (hlen : s.length ≤ 1000)
    (hK : ∀ w, w < 18446744073709551616 → textB w = s → K (ofT (.float .f64 w)) h) (hE : (∀ w, w < 18446744073709551616 → textB w ≠ s) → K errT h) : Ret env (.func 37) [strV s] h K := by
  refine F37 rfl ?_
  unfold strV
  cases s with
  | nil =>
    have f0 : ¬ (0 : Int) < (([] : List UInt8).length : Int) := by simp
    repeat' (first | done | with_reducible (first | refine y1 ?_ (by omega) | refine y2 ?_ (by omega) | refine y3 (fun _ => ?_) (fun _ => ?_) | refine y4 ?_ (by omega) (by omega) | refine y5 ?_ (by omega) | refine y6 ?_ (by with_unfolding_all rfl) | refine y7 ?_ (by with_unfolding_all rfl) | refine y8 ?_ (by with_unfolding_all rfl) | refine y9 ?_ (by with_unfolding_all rfl) | refine ya ?_ (by with_unfolding_all rfl)) | (simp -dsimp only [↓cw_skip, ↓cw_ops, ↓cw_seq, ↓cw_cond, ↓seqK_normal, ↓getK_same, ↓getK_ne, ↓evK_tmp, ↓evK_int, ↓evK_bool, ↓evK_float, ↓condV_var, ↓gdV_var, ↓opsW_nil, ↓opsW_d, ↓opsW_gd, ↓opW_move, ↓opW_assign, ↓opW_pick, ↓opW_bin, ↓bin_gtr, ↓setAll_cons, ↓setAll_nil, ↓s37_117_w, ↓r37_118_w, ↓s37_119_w, ↓s37_120_w, ↓r37_121_w, ↓s37_122_w, ↓r37_123_w, ↓s37_124_w, ↓r37_125_w, ↓s37_126_w, List.length_nil, brK_false, ne_eq, Nat.reduceEqDiff, not_false_eq_true, Bool.false_eq_true,  str_size, ↓opW_lenT str9, lenT_some]))
    refine of_words (g := false) (r := []) (by simp) hlen ?_ ?_ ?_ hK hE
    · simp [T.get_set, strV, sgL]
    · simp [T.get_set, sgL]
    · simp [T.get_set, sgZ]
  | cons b r =>
    have f0 : (0 : Int) < ((b :: r).length : Int) := by rw [List.length_cons]; omega
    by_cases hb : b = 45
    · subst hb
      have cb := fun K => idxT_at (l := 45 :: r) (k := .i64) (i := 0) (K := K) (n := 0) (b := 45) rfl rfl
      have hn45 : ((45 : UInt8).toNat : Int) = 45 := rfl
      repeat' (first | done | with_reducible (first | refine y1 ?_ (by omega) | refine y2 ?_ (by omega) | refine y3 (fun _ => ?_) (fun _ => ?_) | refine y4 ?_ (by omega) (by omega) | refine y5 ?_ (by omega) | refine y6 ?_ (by with_unfolding_all rfl) | refine y7 ?_ (by with_unfolding_all rfl) | refine y8 ?_ (by with_unfolding_all rfl) | refine y9 ?_ (by with_unfolding_all rfl) | refine ya ?_ (by with_unfolding_all rfl)) | (simp -dsimp only [↓cw_ops, ↓cw_seq, ↓cw_cond, ↓seqK_normal, ↓getK_same, ↓getK_ne, ↓evK_tmp, ↓evK_int, ↓evK_float, ↓condV_var, ↓gdV_var, ↓opsW_nil, ↓opsW_d, ↓opsW_gd, ↓opW_move, ↓opW_assign, ↓opW_pick, ↓opW_bin, ↓bin_eql, ↓bin_gtr, ↓setAll_cons, ↓setAll_nil, ↓r37_113_w, ↓s37_114_w, ↓r37_115_w, ↓s37_116_w, ↓s37_117_w, ↓r37_118_w, ↓s37_119_w, ↓s37_120_w, ↓r37_121_w, ↓s37_122_w, ↓r37_123_w, ↓s37_124_w, ↓r37_125_w, ↓s37_126_w, List.length_cons, brK_true, ne_eq, Nat.reduceEqDiff, not_false_eq_true, str_size, ↓opW_lenT str9, lenT_some, ↓opW_indexT str9, cb, hn45]))
      refine of_words (g := true) (r := r) (fun h => by cases h) hlen ?_ ?_ ?_ hK hE
      · simp [T.get_set, strV, sgL]
      · simp [T.get_set, sgL]
      · simp [T.get_set, sgZ]
    · have cb := fun K => idxT_at (l := b :: r) (k := .i64) (i := 0) (K := K) (n := 0) (b := b) rfl rfl
      have hb45 : ¬ ((b.toNat : Nat) : Int) = 45 := u8_ne (n := 45) (by omega) hb
      repeat' (first | done | with_reducible (first | refine y1 ?_ (by omega) | refine y2 ?_ (by omega) | refine y3 (fun _ => ?_) (fun _ => ?_) | refine y4 ?_ (by omega) (by omega) | refine y5 ?_ (by omega) | refine y6 ?_ (by with_unfolding_all rfl) | refine y7 ?_ (by with_unfolding_all rfl) | refine y8 ?_ (by with_unfolding_all rfl) | refine y9 ?_ (by with_unfolding_all rfl) | refine ya ?_ (by with_unfolding_all rfl)) | (simp -dsimp only [↓cw_skip, ↓cw_ops, ↓cw_seq, ↓cw_cond, ↓seqK_normal, ↓getK_same, ↓getK_ne, ↓evK_tmp, ↓evK_int, ↓evK_float, ↓condV_var, ↓gdV_var, ↓opsW_nil, ↓opsW_d, ↓opsW_gd, ↓opW_move, ↓opW_assign, ↓opW_pick, ↓opW_bin, ↓bin_eql, ↓bin_gtr, ↓setAll_cons, ↓setAll_nil, ↓s37_117_w, ↓r37_118_w, ↓s37_119_w, ↓s37_120_w, ↓r37_121_w, ↓s37_122_w, ↓r37_123_w, ↓s37_124_w, ↓r37_125_w, ↓s37_126_w, List.length_cons, brK_true, brK_false, ne_eq, Nat.reduceEqDiff, not_false_eq_true, Bool.false_eq_true,  str_size, ↓opW_lenT str9, lenT_some, ↓opW_indexT str9, cb, hb45]))
      refine of_words (g := false) (r := b :: r) (fun _ h => hb (Option.some.inj h)) hlen ?_ ?_ ?_ hK hE
      · simp [T.get_set, strV, sgL]
      · simp [T.get_set, sgL]
      · simp [T.get_set, sgZ]
end Go.Proofs.YtjcmcoabckkjoaaDoor.Li

