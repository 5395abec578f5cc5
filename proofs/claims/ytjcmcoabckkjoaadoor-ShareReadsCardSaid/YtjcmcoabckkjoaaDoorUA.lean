/- The reference's Of: its parts. -/
import Derived.Test.YtjcmcoabckkjoaaDoorTC
import Derived.Test.YtjcmcoabckkjoaaDoorLA
set_option linter.unusedSimpArgs false
set_option linter.unusedVariables false
namespace Go.Proofs.YtjcmcoabckkjoaaDoor.Li
open Go.Ev
set_option maxRecDepth 100000
/-! digits as they are written: one way alone -/
theorem decFrom_pos : ∀ (l : List UInt8) (a n : Nat), Lib.decFrom a l = some n → 1 ≤ a → 1 ≤ n
  | l, a, n, h, ha => Nat.le_trans ha (decFrom_ge l a n h)
theorem decFrom_canon : ∀ (k : Nat) (l : List UInt8) (u : Nat), l.length ≤ k → Lib.decFrom 0 l = some u → l ≠ [] → (l.head? ≠ some 48 ∨ l.length = 1) → l = Lib.decDigits u := by
  intro k
  induction k with
  | zero => intro l u hk _ hne _; exact absurd (List.length_eq_zero_iff.1 (by omega)) hne
  | succ k ih =>
    intro l u hk h hne hz
    obtain ⟨x, b, rfl⟩ : ∃ x b, l = x ++ [b] := ⟨l.dropLast, l.getLast hne, (List.dropLast_concat_getLast hne).symm⟩
    rw [decFrom_append] at h
    cases hx : Lib.decFrom 0 x with
    | none => rw [hx] at h; cases h
    | some m =>
      rw [hx, Option.bind_some] at h
      simp only [Lib.decFrom] at h
      cases hd : Lib.digitVal b with
      | none => rw [hd] at h; cases h
      | some d =>
        rw [hd] at h
        simp only [Option.some.injEq] at h
        have hd10 : d < 10 ∧ b = UInt8.ofNat (48 + d) := by
          unfold Lib.digitVal at hd
          split at hd
          · rename_i hc
            simp only [Option.some.injEq] at hd
            refine ⟨by omega, ?_⟩
            apply UInt8.toNat_inj.1
            simp only [UInt8.toNat_ofNat']
            omega
          · cases hd
        by_cases hxe : x = []
        · subst hxe
          simp only [Lib.decFrom, Option.some.injEq] at hx
          subst hx
          rw [List.nil_append, dec_small (by omega), hd10.2]
          congr 3; omega
        · have hz2 : x.head? ≠ some 48 := by
            rcases hz with hz | hz
            · intro e; apply hz; rw [List.head?_append, e]; rfl
            · rw [List.length_append] at hz
              have : x.length ≠ 0 := fun e => hxe (List.length_eq_zero_iff.1 e)
              simp only [List.length_cons, List.length_nil] at hz; omega
          have hlen : x.length ≤ k := by rw [List.length_append] at hk; simp only [List.length_cons, List.length_nil] at hk; omega
          have e := ih x m hlen hx hxe (.inl hz2)
          have hm : 1 ≤ m := by
            cases x with
            | nil => exact absurd rfl hxe
            | cons c r =>
              simp only [Lib.decFrom] at hx
              cases hc : Lib.digitVal c with
              | none => rw [hc] at hx; cases hx
              | some q =>
                rw [hc] at hx
                refine decFrom_pos _ _ _ hx ?_
                unfold Lib.digitVal at hc
                split at hc
                · rename_i hcc
                  simp only [Option.some.injEq] at hc
                  have : c.toNat ≠ 48 := fun e => hz2 (by rw [List.head?_cons]; congr 1; exact UInt8.toNat_inj.1 e)
                  omega
                · cases hc
          rw [dec_big (u := u) (by omega), show u / 10 = m by omega, show u % 10 = d by omega, ← e, ← hd10.2]
end Go.Proofs.YtjcmcoabckkjoaaDoor.Li

namespace Go.Proofs.YtjcmcoabckkjoaaDoor.Li
open Go.Ev
set_option maxRecDepth 100000
set_option maxHeartbeats 400000
section
variable {E : Env} {fr : Fr} {h : Heap} {K : Value → Heap → Prop} {x y : Operand} {t : TypeId}
def isStr (E : Env) (t : TypeId) : Bool := match und E t with | some .string => true | _ => false
def lenTK (x : Value) (K : Value → Prop) [Tok K] : Prop := match x with
  | .string s => K (.int .i64 s.size)
  | _ => False
theorem opW_lenT (ht : isStr E t = true) : opW E (.call ⟨.builtin .len, ⟨[x]⟩, ⟨[t]⟩⟩) fr h K = evK E fr x fun v => lenTK v fun u => K u h := by
  unfold isStr at ht
  split at ht
  · rename_i hu
    simp only [opW, opBy, valOp, flOp, operOf, kindOf, hu, pureOp, evs, mapOpt, evK, onR_map, onV, lenTK]
    cases ev E fr x with
    | none => simp
    | some v =>
      simp only [alen, hu]
      cases v <;> simp
  · cases ht
theorem lenT_some {s : ByteArray} {K : Value → Prop} : lenTK (.string s) K = K (.int .i64 s.size) := Eq.trans rfl rfl
def idxTK (x i : Value) (K : Value → Prop) [Tok K] : Prop := match x, i with
  | .string s, .int _ i => 0 ≤ i ∧ ∃ b, s.data.toList[i.toNat]? = some b ∧ K (.int .u8 (b.toNat : Int))
  | _, _ => False
theorem opW_indexT (ht : isStr E t = true) : opW E (.index t x y) fr h K = evK E fr x fun v => evK E fr y fun i => idxTK v i fun u => K u h := by
  unfold isStr at ht
  split at ht
  · rename_i hu
    rw [opW_pure rfl (by simp)]
    simp only [pureOp, operOf, evK, onV, idxTK]
    cases ev E fr x with
    | none => simp
    | some v =>
      cases ev E fr y with
      | none => simp
      | some i =>
        simp only [aindex, hu]
        cases v with
        | string s =>
          cases i with
          | int k i =>
            simp only [Option.some.injEq, exists_eq_left']
            by_cases h0 : 0 ≤ i
            · simp only [h0, decide_true, cond_true, true_and, nth_eq]
              cases s.data.toList[i.toNat]? <;> simp
            · simp [h0]
          | _ => simp
        | _ => simp
  · cases ht
theorem idxT_at {l : List UInt8} {k : IntKind} {i : Int} {n : Nat} {b : UInt8} {K : Value → Prop} (hi : i = n) (hb : l[n]? = some b) : idxTK (.string ⟨l.toArray⟩) (.int k i) K = K (.int .u8 (b.toNat : Int)) := by
  subst hi
  have h1 : (⟨l.toArray⟩ : ByteArray).data.toList = l := rfl
  simp only [idxTK, Int.toNat_natCast, hb, Option.some.injEq, exists_eq_left']
  simp
end
theorem str9 : isStr env 9 = true := by kernel_rfl
def isDig (b : UInt8) : Prop := 48 ≤ b.toNat ∧ b.toNat ≤ 57
theorem dig_val {b : UInt8} (h : isDig b) : Lib.digitVal b = some (b.toNat - 48) := by unfold isDig at h; unfold Lib.digitVal; rw [if_pos h]
/-- what 'digits' tells: the longest row of digits from a place on, of 17 at most -/
structure DigAt (s : List UInt8) (a m u : Nat) : Prop where
  m17 : m ≤ 17
  le : a + m ≤ s.length
  val : Lib.decFrom 0 ((s.drop a).take m) = some u
  stop : m = 17 ∨ a + m = s.length ∨ ∀ (h : a + m < s.length), ¬ isDig s[a + m]
def digFlag (s : List UInt8) (a m : Nat) : Bool := decide (0 < m) && (decide (s[a]? ≠ some 48) || decide (m = 1))
theorem digits_end {s : List UInt8} {a m u : Nat} {fr : Fr} {h : Heap} {K : Value → Heap → Prop} (hs : s.length ≤ 1000) (hle : a + m ≤ s.length) (hm : m ≤ 17) (g0 : fr.get 0 = some (strV s)) (g1 : fr.get 1 = some (.int .i64 a))
    (g7 : fr.get 7 = some (.int .u64 (u : Nat))) (g8 : fr.get 8 = some (.int .i64 ((a + m : Nat) : Int))) (hK : K (.tuple #[.int .u64 (u : Nat), .int .i64 ((a + m : Nat) : Int), .bool (digFlag s a m)]) h) :
    s61_1.wp env 59 none fr h (resK env [.tmp 4, .tmp 5, .tmp 6] K) := by
  unfold strV at g0
  have g0 := getK_of g0
  have g1 := getK_of g1
  have g7 := getK_of g7
  have g8 := getK_of g8
  by_cases hm0 : m = 0
  · subst hm0
    have e : digFlag s a 0 = false := rfl
    rw [e] at hK
    repeat' (first | done | with_reducible (first | refine y1 ?_ (by omega) | refine y2 ?_ (by omega) | refine y3 (fun _ => ?_) (fun _ => ?_) | refine y4 ?_ (by omega) (by omega) | refine y5 ?_ (by omega) | refine y6 ?_ (by with_unfolding_all rfl) | refine y7 ?_ (by with_unfolding_all rfl) | refine y8 ?_ (by with_unfolding_all rfl) | refine y9 ?_ (by with_unfolding_all rfl) | refine ya ?_ (by with_unfolding_all rfl)) | (simp -dsimp only [↓cw_ops, ↓cw_seq, ↓cw_ret, ↓seqK_normal, ↓getK_same, ↓getK_ne, ↓evK_tmp, ↓evK_bool, ↓condV_var, ↓gdV_var, ↓gdV_undef, ↓opsW_nil, ↓opsW_d, ↓opsW_gd, ↓opW_move, ↓opW_assign, ↓opW_pick, ↓opW_bin, ↓bin_gtr, ↓resK_three, ↓r61_0_w, ↓s61_1_w, brK_false, ne_eq, Nat.reduceEqDiff, not_false_eq_true, Nat.add_zero, Bool.false_eq_true,  ↓g8, ↓g7, ↓g1]))
    exact hK
  · have hl : a < s.length := by omega
    have hb : s[a]? = some s[a] := List.getElem?_eq_getElem hl
    have v0 : IntKind.i64.wrap ((a : Int) + 1) = (a : Int) + 1 := wrap_i64 (by omega) (by omega)
    unfold digFlag at hK
    rw [hb, decide_eq_true (by omega), Bool.true_and] at hK
    generalize s[a] = b at hb hK
    have cb := fun K => idxT_at (k := .i64) (i := (a : Int)) (K := K) rfl hb
    by_cases h48 : b = 48
    · subst h48
      rw [decide_eq_false (by simp), Bool.false_or] at hK
      have hn48 : ((48 : UInt8).toNat : Int) = 48 := rfl
      by_cases h1 : m = 1
      · rw [decide_eq_true h1] at hK
        repeat' (first | done | with_reducible (first | refine y1 ?_ (by omega) | refine y2 ?_ (by omega) | refine y3 (fun _ => ?_) (fun _ => ?_) | refine y4 ?_ (by omega) (by omega) | refine y5 ?_ (by omega) | refine y6 ?_ (by with_unfolding_all rfl) | refine y7 ?_ (by with_unfolding_all rfl) | refine y8 ?_ (by with_unfolding_all rfl) | refine y9 ?_ (by with_unfolding_all rfl) | refine ya ?_ (by with_unfolding_all rfl)) | (simp -dsimp only [↓cw_ops, ↓cw_seq, ↓cw_ret, ↓seqK_normal, ↓getK_same, ↓getK_ne, ↓evK_tmp, ↓evK_int, ↓condV_var, ↓gdV_var, ↓opsW_nil, ↓opsW_d, ↓opsW_gd, ↓opW_move, ↓opW_assign, ↓opW_pick, ↓opW_bin, ↓bin_add, ↓bin_eql, ↓bin_neq, ↓bin_gtr, ↓resK_three, ↓r61_0_w, ↓s61_1_w, brK_true, brK_false, ne_eq, Nat.reduceEqDiff, not_false_eq_true, Bool.false_eq_true,  ↓g8, ↓g7, ↓g0, ↓g1, ↓opW_indexT str9, cb, v0]))
        exact hK
      · rw [decide_eq_false h1] at hK
        repeat' (first | done | with_reducible (first | refine y1 ?_ (by omega) | refine y2 ?_ (by omega) | refine y3 (fun _ => ?_) (fun _ => ?_) | refine y4 ?_ (by omega) (by omega) | refine y5 ?_ (by omega) | refine y6 ?_ (by with_unfolding_all rfl) | refine y7 ?_ (by with_unfolding_all rfl) | refine y8 ?_ (by with_unfolding_all rfl) | refine y9 ?_ (by with_unfolding_all rfl) | refine ya ?_ (by with_unfolding_all rfl)) | (simp -dsimp only [↓cw_ops, ↓cw_seq, ↓cw_ret, ↓seqK_normal, ↓getK_same, ↓getK_ne, ↓evK_tmp, ↓evK_int, ↓condV_var, ↓gdV_var, ↓opsW_nil, ↓opsW_d, ↓opsW_gd, ↓opW_move, ↓opW_assign, ↓opW_pick, ↓opW_bin, ↓bin_add, ↓bin_eql, ↓bin_neq, ↓bin_gtr, ↓resK_three, ↓r61_0_w, ↓s61_1_w, brK_true, brK_false, ne_eq, Nat.reduceEqDiff, not_false_eq_true, Bool.false_eq_true,  ↓g8, ↓g7, ↓g0, ↓g1, ↓opW_indexT str9, cb, v0]))
        exact hK
    · have hn : b.toNat ≠ 48 := fun e => h48 (UInt8.toNat_inj.1 e)
      rw [decide_eq_true (by intro e; exact h48 (Option.some.inj e)), Bool.true_or] at hK
      repeat' (first | done | with_reducible (first | refine y1 ?_ (by omega) | refine y2 ?_ (by omega) | refine y3 (fun _ => ?_) (fun _ => ?_) | refine y4 ?_ (by omega) (by omega) | refine y5 ?_ (by omega) | refine y6 ?_ (by with_unfolding_all rfl) | refine y7 ?_ (by with_unfolding_all rfl) | refine y8 ?_ (by with_unfolding_all rfl) | refine y9 ?_ (by with_unfolding_all rfl) | refine ya ?_ (by with_unfolding_all rfl)) | (simp -dsimp only [↓cw_ops, ↓cw_seq, ↓cw_ret, ↓seqK_normal, ↓getK_same, ↓getK_ne, ↓evK_tmp, ↓evK_int, ↓evK_bool, ↓condV_var, ↓gdV_var, ↓opsW_nil, ↓opsW_d, ↓opsW_gd, ↓opW_move, ↓opW_assign, ↓opW_pick, ↓opW_bin, ↓bin_neq, ↓bin_gtr, ↓resK_three, ↓r61_0_w, ↓s61_1_w, brK_true, brK_false, ne_eq, Nat.reduceEqDiff, not_false_eq_true, Bool.true_eq_false, ↓g8, ↓g7, ↓g0, ↓g1, ↓opW_indexT str9, cb]))
      exact hK
theorem digits_ret {s : List UInt8} {a : Nat} {h : Heap} {K : Value → Heap → Prop} (hs : s.length ≤ 1000) (ha : a ≤ s.length) (hK : ∀ m u, DigAt s a m u → u < 100000000000000000 → K (.tuple #[.int .u64 (u : Nat), .int .i64 ((a + m : Nat) : Int), .bool (digFlag s a m)]) h) :
    Ret env (.func 61) [strV s, .int .i64 a] h K := by
  refine F61 rfl ?_
  unfold strV
  repeat' (first | done | with_reducible (first | refine y1 ?_ (by omega) | refine y2 ?_ (by omega) | refine y3 (fun _ => ?_) (fun _ => ?_) | refine y4 ?_ (by omega) (by omega) | refine y5 ?_ (by omega) | refine y6 ?_ (by with_unfolding_all rfl) | refine y7 ?_ (by with_unfolding_all rfl) | refine y8 ?_ (by with_unfolding_all rfl) | refine y9 ?_ (by with_unfolding_all rfl) | refine ya ?_ (by with_unfolding_all rfl)) | (simp -dsimp only [↓cw_ops, ↓cw_seq, ↓cw_block, ↓seqK_normal, ↓getK_same, ↓getK_ne, ↓evK_tmp, ↓evK_int, ↓evK_bool, ↓opsW_nil, ↓opsW_d, ↓opW_move, ↓opW_assign, ↓setAll_cons, ↓setAll_nil, ↓s61_11_w, ↓s61_12_w, ↓r61_13_w, ↓s61_14_w, ↓r61_15_w, ↓s61_16_w, ↓r61_17_w, ↓s61_18_w, ne_eq, Nat.reduceEqDiff, Nat.reduceAdd, not_false_eq_true]))
  refine cw_loopI (fun n fr h' => h' = h ∧ ∃ m u : Nat, m ≤ 17 ∧ a + m ≤ s.length ∧ n = 17 - m ∧ fr.get 8 = some (.int .i64 ((a + m : Nat) : Int)) ∧ fr.get 7 = some (.int .u64 (u : Nat)) ∧ Lib.decFrom 0 ((s.drop a).take m) = some u) 17 ?_ (by omega) ?_
  · exact ⟨rfl, 0, 0, by omega, by omega, by omega, by simp [T.get_set], by simp [T.get_set], by simp [Lib.decFrom]⟩
  rintro n fr h' ⟨rfl, m, u, hm, hle, rfl, g8, g7, hv⟩ hag
  have g7' := g7
  have g8' := g8
  have z0 := hag 0 rfl
  have z1 := hag 1 rfl
  simp only [T.get_set] at z0 z1
  have g8 := getK_of g8
  have g7 := getK_of g7
  have a0 := getK_eq (hag 0 rfl)
  have a1 := getK_eq (hag 1 rfl)
  have hu := Lib.decFrom_take_lt hv hm
  by_cases hc : ∃ hl : a + m < s.length, isDig s[a + m] ∧ m < 17
  · obtain ⟨hl, hd, hm17⟩ := hc
    unfold isDig at hd
    have hb : s[a + m]? = some s[a + m] := List.getElem?_eq_getElem hl
    generalize s[a + m] = b at hd hb
    have v0 : IntKind.i64.wrap (((a + m : Nat) : Int) - (a : Int)) = (m : Int) := by rw [wrap_i64 (by omega) (by omega)]; omega
    have cb := fun K => idxT_at (k := .i64) (i := ((a + m : Nat) : Int)) (K := K) rfl hb
    repeat' (first | done | with_reducible (first | refine y1 ?_ (by omega) | refine y2 ?_ (by omega) | refine y3 (fun _ => ?_) (fun _ => ?_) | refine y4 ?_ (by omega) (by omega) | refine y5 ?_ (by omega) | refine y6 ?_ (by with_unfolding_all rfl) | refine y7 ?_ (by with_unfolding_all rfl) | refine y8 ?_ (by with_unfolding_all rfl) | refine y9 ?_ (by with_unfolding_all rfl) | refine ya ?_ (by with_unfolding_all rfl)) | (simp -dsimp only [↓cw_skip, ↓cw_ops, ↓cw_seq, ↓cw_block, ↓cw_cond, ↓seqK_normal, ↓blockK_normal, ↓loopK_normal, ↓getK_same, ↓getK_ne, ↓evK_tmp, ↓evK_int, ↓condV_var, ↓gdV_var, ↓opsW_nil, ↓opsW_d, ↓opsW_gd, ↓opW_move, ↓opW_assign, ↓opW_pick, ↓opW_bin, ↓bin_add, ↓bin_sub, ↓bin_mul, ↓bin_lss, ↓bin_leq, ↓bin_geq, ↓cint_int, ↓cv_5_23, ↓r61_2_w, ↓s61_3_w, ↓r61_4_w, ↓s61_5_w, ↓s61_6_w, ↓s61_7_w, ↓r61_8_w, ↓s61_9_w, ↓s61_10_w, brK_true, true_and, ne_eq, Nat.reduceEqDiff, not_false_eq_true, Nat.one_ne_zero, ↓g8, ↓g7, ↓a0, ↓a1, str_size, ↓opW_lenT str9, lenT_some, ↓opW_indexT str9, cb, v0]))
    have hs1 := Lib.decFrom_take (s.drop a) m 0 u b (b.toNat - 48) hv (by rw [List.getElem?_drop]; exact hb) (dig_val hd)
    have v1 : IntKind.u8.wrap ((b.toNat : Int) - 48) = ((b.toNat - 48 : Nat) : Int) := by rw [wrap_u8 (by omega) (by omega)]; omega
    have v2 : IntKind.u64.wrap ((b.toNat - 48 : Nat) : Int) = ((b.toNat - 48 : Nat) : Int) := wrap_u64 (by omega) (by omega)
    have v3 : IntKind.u64.wrap (10 * (u : Int)) = ((u * 10 : Nat) : Int) := by rw [wrap_u64 (by omega) (by omega)]; omega
    have v4 : IntKind.u64.wrap (((u * 10 : Nat) : Int) + ((b.toNat - 48 : Nat) : Int)) = ((u * 10 + (b.toNat - 48) : Nat) : Int) := by rw [wrap_u64 (by omega) (by omega)]; omega
    have v5 : IntKind.i64.wrap (((a + m : Nat) : Int) + 1) = ((a + (m + 1) : Nat) : Int) := by rw [wrap_i64 (by omega) (by omega)]; omega
    refine ⟨17 - (m + 1), by omega, m + 1, u * 10 + (b.toNat - 48), by omega, by omega, rfl, ?_, ?_, hs1⟩
    · simp only [T.get_set]; rw [v5]; simp
    · simp only [T.get_set]; rw [v1, v2, v3, v4]; simp
  · have stop : m = 17 ∨ a + m = s.length ∨ ∀ (h : a + m < s.length), ¬ isDig s[a + m] := by
      by_cases h1 : m = 17
      · exact .inl h1
      · by_cases h2 : a + m = s.length
        · exact .inr (.inl h2)
        · exact .inr (.inr fun hl hd => hc ⟨hl, hd, by omega⟩)
    have dg : DigAt s a m u := ⟨hm, hle, hv, stop⟩
    have hKk := hK m u dg hu
    by_cases hl : a + m < s.length
    · have hb : s[a + m]? = some s[a + m] := List.getElem?_eq_getElem hl
      have hnd : ¬ isDig s[a + m] ∨ m = 17 := by
        by_cases hd : isDig s[a + m]
        · right
          rcases stop with h1 | h1 | h1
          · exact h1
          · omega
          · exact absurd hd (h1 hl)
        · exact .inl hd
      unfold isDig at hnd
      generalize s[a + m] = b at hnd hb
      have v0 : IntKind.i64.wrap (((a + m : Nat) : Int) - (a : Int)) = (m : Int) := by rw [wrap_i64 (by omega) (by omega)]; omega
      have cb := fun K => idxT_at (k := .i64) (i := ((a + m : Nat) : Int)) (K := K) rfl hb
      repeat' (first | done | with_reducible (first | refine y1 ?_ (by omega) | refine y2 ?_ (by omega) | refine y3 (fun _ => ?_) (fun _ => ?_) | refine y4 ?_ (by omega) (by omega) | refine y5 ?_ (by omega) | refine y6 ?_ (by with_unfolding_all rfl) | refine y7 ?_ (by with_unfolding_all rfl) | refine y8 ?_ (by with_unfolding_all rfl) | refine y9 ?_ (by with_unfolding_all rfl) | refine ya ?_ (by with_unfolding_all rfl)) | (simp -dsimp only [↓cw_ops, ↓cw_seq, ↓cw_exit, ↓cw_cond, ↓seqK_normal, ↓seqK_exit, ↓blockK_same, ↓loopK_exit, ↓getK_same, ↓getK_ne, ↓evK_tmp, ↓evK_int, ↓evK_bool, ↓condV_var, ↓gdV_var, ↓opsW_nil, ↓opsW_d, ↓opsW_gd, ↓opW_move, ↓opW_pick, ↓opW_bin, ↓bin_sub, ↓bin_lss, ↓bin_leq, ↓bin_geq, ↓s61_7_w, ↓r61_8_w, ↓s61_9_w, ↓s61_10_w, brK_true, brK_false, ne_eq, Nat.reduceEqDiff, not_false_eq_true, Nat.one_ne_zero, Bool.false_eq_true,  ↓g8, ↓a0, ↓a1, str_size, ↓opW_lenT str9, lenT_some, ↓opW_indexT str9, cb, v0]))
      all_goals refine digits_end hs hle hm ?_ ?_ ?_ ?_ hKk
      all_goals first
        | (simp only [T.get_set]; simpa [strV] using z0)
        | (simp only [T.get_set]; simpa using z1)
        | (simp only [T.get_set]; simpa using g7')
        | (simp only [T.get_set]; simpa using g8')
    · repeat' (first | done | with_reducible (first | refine y1 ?_ (by omega) | refine y2 ?_ (by omega) | refine y3 (fun _ => ?_) (fun _ => ?_) | refine y4 ?_ (by omega) (by omega) | refine y5 ?_ (by omega) | refine y6 ?_ (by with_unfolding_all rfl) | refine y7 ?_ (by with_unfolding_all rfl) | refine y8 ?_ (by with_unfolding_all rfl) | refine y9 ?_ (by with_unfolding_all rfl) | refine ya ?_ (by with_unfolding_all rfl)) | (simp -dsimp only [↓cw_ops, ↓cw_seq, ↓cw_exit, ↓cw_cond, ↓seqK_normal, ↓seqK_exit, ↓blockK_same, ↓loopK_exit, ↓getK_same, ↓getK_ne, ↓evK_tmp, ↓evK_bool, ↓condV_var, ↓gdV_var, ↓opsW_nil, ↓opsW_d, ↓opsW_gd, ↓opW_move, ↓opW_pick, ↓opW_bin, ↓bin_lss, ↓s61_7_w, ↓r61_8_w, ↓s61_9_w, ↓s61_10_w, brK_false, ne_eq, Nat.reduceEqDiff, not_false_eq_true, Nat.one_ne_zero, Bool.false_eq_true,  ↓g8, ↓a0, str_size, ↓opW_lenT str9, lenT_some]))
      refine digits_end hs hle hm ?_ ?_ ?_ ?_ hKk
      all_goals first
        | (simp only [T.get_set]; simpa [strV] using z0)
        | (simp only [T.get_set]; simpa using z1)
        | (simp only [T.get_set]; simpa using g7')
        | (simp only [T.get_set]; simpa using g8')
end Go.Proofs.YtjcmcoabckkjoaaDoor.Li

namespace Go.Proofs.YtjcmcoabckkjoaaDoor.Li
open Go.Ev
set_option maxRecDepth 100000
theorem extract_str (l : List UInt8) (a b : Nat) : (⟨l.toArray⟩ : ByteArray).extract a b = ⟨((l.drop a).take (b - a)).toArray⟩ := by
  apply ByteArray.ext
  rw [ByteArray.data_extract]
  apply Array.ext'
  simp
section
variable {E : Env} {t : TypeId} {K : Value → Prop}
theorem slice_str1 {l : List UInt8} {k : IntKind} {i : Int} {a : Nat} (ht : isStr E t = true) (hi : i = a) (ha : a ≤ l.length) : sliceVK E t (.string ⟨l.toArray⟩) (some (.int k i)) none none K = K (.string ⟨(l.drop a).toArray⟩) := by
  subst hi
  unfold isStr at ht
  split at ht
  · rename_i hu
    have hb : abounds (⟨l.toArray⟩ : ByteArray).size (⟨l.toArray⟩ : ByteArray).size (some (.int k (a : Int))) none none = some (a, l.length, l.length) := by
      simp [abounds, aboundsM, aboundsL, bound, str_size, ha, ble_eq]
    simp only [sliceVK, asliceS, hu, hb, Option.map_some, onV_some', extract_str]
    rw [List.take_of_length_le (by rw [List.length_drop]; omega)]
  · cases ht
theorem slice_str2 {l : List UInt8} {k k' : IntKind} {i j : Int} {a b : Nat} (ht : isStr E t = true) (hi : i = a) (hj : j = b) (hab : a ≤ b) (hb : b ≤ l.length) : sliceVK E t (.string ⟨l.toArray⟩) (some (.int k i)) (some (.int k' j)) none K = K (.string ⟨((l.drop a).take (b - a)).toArray⟩) := by
  subst hi hj
  unfold isStr at ht
  split at ht
  · rename_i hu
    have hbb : abounds (⟨l.toArray⟩ : ByteArray).size (⟨l.toArray⟩ : ByteArray).size (some (.int k (a : Int))) (some (.int k' (b : Int))) none = some (a, b, l.length) := by
      simp [abounds, aboundsM, aboundsL, bound, str_size, hab, hb, ble_eq]
    simp only [sliceVK, asliceS, hu, hbb, Option.map_some, onV_some', extract_str]
  · cases ht
end
end Go.Proofs.YtjcmcoabckkjoaaDoor.Li

namespace Go.Proofs.YtjcmcoabckkjoaaDoor.Li
open Go.Ev
set_option maxRecDepth 100000
set_option maxHeartbeats 400000
theorem bytes_ne {x y : List UInt8} (h : x ≠ y) : ¬ ((⟨x.toArray⟩ : ByteArray) = ⟨⟨y⟩⟩) := fun e => h (by
  have := congrArg (fun b : ByteArray => b.data.toList) e
  simpa using this)
end Go.Proofs.YtjcmcoabckkjoaaDoor.Li

namespace Go.Proofs.YtjcmcoabckkjoaaDoor.Li
open Go.Ev
set_option maxRecDepth 100000
theorem len16 {u : Nat} (h : u < 9007199254740992) : (Lib.decDigits u).length ≤ 16 := dec_len 15 u (by omega)
theorem drop_pre (pre x : List UInt8) : (pre ++ x).drop pre.length = x := by simp
theorem DigAt.exact {pre t : List UInt8} {u m v : Nat} (hu : u < 9007199254740992) (ht : t = [] ∨ ∃ c r, t = c :: r ∧ ¬ isDig c) (x : DigAt (pre ++ (Lib.decDigits u ++ t)) pre.length m v) : m = (Lib.decDigits u).length ∧ v = u := by
  have h16 := len16 hu
  have hl := x.le
  have hv := x.val
  rw [drop_pre] at hv
  simp only [List.length_append] at hl
  have hm : m = (Lib.decDigits u).length := by
    rcases Nat.lt_trichotomy m (Lib.decDigits u).length with hlt | heq | hgt
    · exfalso
      rcases x.stop with h | h | h
      · omega
      · simp only [List.length_append] at h; omega
      · have hlt2 : pre.length + m < (pre ++ (Lib.decDigits u ++ t)).length := by simp only [List.length_append]; omega
        refine h hlt2 ?_
        have e : (pre ++ (Lib.decDigits u ++ t))[pre.length + m] = (Lib.decDigits u)[m] := by
          rw [List.getElem_append_right (by omega)]
          rw [List.getElem_append_left (by omega)]
          congr 1; omega
        rw [e]
        exact digits_byte (List.getElem_mem _)
    · exact heq
    · exfalso
      rcases ht with rfl | ⟨c, r, rfl, hc⟩
      · simp only [List.length_nil] at hl; omega
      · obtain ⟨d, hd⟩ := Lib.digit_of_decFrom _ _ _ hv (Lib.decDigits u).length c (by
          rw [List.getElem?_take_of_lt hgt, List.getElem?_append_right (Nat.le_refl _), Nat.sub_self]; rfl)
        unfold Lib.digitVal at hd
        split at hd
        · rename_i hcc; exact hc hcc
        · cases hd
  refine ⟨hm, ?_⟩
  rw [hm, List.take_left' rfl, decFrom_digits u u (Nat.le_refl _)] at hv
  exact (Option.some.inj hv).symm
theorem head48 : ∀ (k u : Nat), u ≤ k → (Lib.decDigits u).head? = some 48 → u = 0 := by
  intro k
  induction k with
  | zero => intro u h _; omega
  | succ k ih =>
    intro u hk h
    by_cases h1 : u < 10
    · rw [dec_small h1, List.head?_cons, Option.some.injEq] at h
      have := congrArg UInt8.toNat h
      simp only [UInt8.toNat_ofNat'] at this
      have h48 : (48 : UInt8).toNat = 48 := rfl
      omega
    · exfalso
      rw [dec_big h1, List.head?_append] at h
      cases hd : Lib.decDigits (u / 10) with
      | nil => exact digits_ne _ hd
      | cons b r =>
        rw [hd, List.head?_cons, Option.some_or] at h
        have := ih (u / 10) (by omega) (by rw [hd, List.head?_cons, h])
        omega
theorem flag_true {pre t : List UInt8} {u : Nat} (hu : u ≠ 0) : digFlag (pre ++ (Lib.decDigits u ++ t)) pre.length (Lib.decDigits u).length = true := by
  cases hd : Lib.decDigits u with
  | nil => exact absurd hd (digits_ne u)
  | cons b r =>
    unfold digFlag
    have e : (pre ++ (b :: r ++ t))[pre.length]? = some b := by
      rw [List.getElem?_append_right (Nat.le_refl _), Nat.sub_self]; rfl
    rw [e, decide_eq_true (by simp), Bool.true_and]
    by_cases h : b = 48
    · subst h
      cases r with
      | nil => rw [decide_eq_true (p := ([48] : List UInt8).length = 1) rfl, Bool.or_true]
      | cons c q =>
        exact absurd (head48 u u (Nat.le_refl _) (by rw [hd]; rfl)) hu
    · rw [decide_eq_true (by intro e; exact h (Option.some.inj e)), Bool.true_or]
end Go.Proofs.YtjcmcoabckkjoaaDoor.Li

namespace Go.Proofs.YtjcmcoabckkjoaaDoor.Li
open Go.Ev
set_option maxRecDepth 100000
/-! numbers' texts, taken apart and put together -/
def sgL (g : Bool) : List UInt8 := if g then [45] else []
def sgZ (g : Bool) : Nat := if g then 9223372036854775808 else 0
theorem signL_eq (n : Nat) : signL n = sgL (negN n) := rfl
/-- an odd number, a power, and their text -/
structure Num (s : List UInt8) (g : Bool) (u : Nat) (k : Int) : Prop where
  eq : s = sgL g ++ (Lib.decDigits u ++ tailB k)
  odd : u % 2 = 1
  lt : u < 9007199254740992
  k1 : -1074 ≤ k
  k2 : k + (u.log2 : Int) ≤ 1023
theorem pow_odd_eq {a b m q : Nat} (h : 2 ^ a * (2 * m + 1) = 2 ^ b * (2 * q + 1)) : a = b := by
  have key : ∀ {a b m q : Nat}, 2 ^ a * (2 * m + 1) = 2 ^ b * (2 * q + 1) → ¬ a < b := by
    intro a b m q h hlt
    obtain ⟨d, rfl⟩ : ∃ d, b = a + 1 + d := ⟨b - (a + 1), by omega⟩
    rw [Nat.pow_add, Nat.pow_succ, Nat.mul_assoc, Nat.mul_assoc] at h
    have h := Nat.eq_of_mul_eq_mul_left (Nat.two_pow_pos a) h
    omega
  have h1 := key h
  have h2 := key h.symm
  omega
theorem Num.of {n : Nat} {s : List UInt8} (fn : Fin n) (e : textB n = s) : ∃ u k, Num s (negN n) u k := by
  obtain ⟨hm0, hm⟩ := fn.mant
  have p := Parts.of fn
  obtain ⟨q, hq, hct⟩ := ctz_odd hm0 (show mant n < 18446744073709551616 by omega)
  have hu : mant n / 2 ^ Lib.ctz 64 (mant n) = 2 * q + 1 :=
    (fun (t : Nat) (h : mant n = 2 ^ t * (2 * q + 1)) => (by rw [h, Nat.mul_div_cancel_left _ (Nat.two_pow_pos t)] : mant n / 2 ^ t = 2 * q + 1)) _ hq
  have hl : (mant n).log2 = (mant n / 2 ^ Lib.ctz 64 (mant n)).log2 + Lib.ctz 64 (mant n) := by
    have := log2_pow (t := Lib.ctz 64 (mant n)) p.u0
    rw [← p.m] at this; exact this
  have h53 := (Nat.log2_lt hm0 (k := 53)).2 hm
  have hex := expo_le fn
  exact ⟨_, _, ⟨by rw [← e, textB_fin fn]; rfl, by omega, p.u53, p.k1.1, by omega⟩⟩
theorem textB_of {n t u : Nat} {k : Int} (fn : Fin n) (hm : mant n = u * 2 ^ t) (hu : u % 2 = 1) (hk : k = expo n + (t : Int)) : textB n = sgL (negN n) ++ (Lib.decDigits u ++ tailB k) := by
  obtain ⟨hm0, hm53⟩ := fn.mant
  obtain ⟨q, hq, hct⟩ := ctz_odd hm0 (show mant n < 18446744073709551616 by omega)
  have hc : Lib.ctz 64 (mant n) = t := by
    refine pow_odd_eq (m := q) (q := u / 2) ?_
    rw [show 2 * (u / 2) + 1 = u by omega, Nat.mul_comm (2 ^ t), ← hm]; exact hq.symm
  rw [textB_fin fn, hc, hm, Nat.mul_div_cancel _ (Nat.two_pow_pos t), hk]; rfl
theorem Num.sub {s : List UInt8} {g : Bool} {u : Nat} {k : Int} (x : Num s g u k) (h : k + (u.log2 : Int) < -1022) :
    sgZ g + u * 2 ^ (k + 1074).toNat < 18446744073709551616 ∧ u * 2 ^ (k + 1074).toNat < 4503599627370496 ∧ textB (sgZ g + u * 2 ^ (k + 1074).toNat) = s := by
  obtain ⟨he, ho, hl, h1, h2⟩ := x
  have hu : u ≠ 0 := by omega
  have hlog : (u * 2 ^ (k + 1074).toNat).log2 = u.log2 + (k + 1074).toNat := log2_pow hu
  have h0 : u * 2 ^ (k + 1074).toNat ≠ 0 := Nat.mul_ne_zero hu (by have := Nat.two_pow_pos (k + 1074).toNat; omega)
  have hlt : u * 2 ^ (k + 1074).toNat < 4503599627370496 := (Nat.log2_lt h0 (k := 52)).1 (by omega)
  generalize hM : u * 2 ^ (k + 1074).toNat = M at *
  have hr : rungN (sgZ g + M) = M := by unfold rungN sgZ; cases g <;> simp <;> omega
  have hg : negN (sgZ g + M) = g := by unfold negN sgZ; cases g <;> simp <;> omega
  have hlt64 : sgZ g + M < 18446744073709551616 := by unfold sgZ; cases g <;> simp <;> omega
  refine ⟨hlt64, hlt, ?_⟩
  have fn : Fin (sgZ g + M) := ⟨hlt64, by rw [hr]; omega, by rw [hr]; omega⟩
  have hE : expE (sgZ g + M) = 0 := by unfold expE; rw [hr]; omega
  have hmm : mant (sgZ g + M) = M := by unfold mant; rw [if_pos hE, hr]
  have hx : expo (sgZ g + M) = -1074 := by unfold expo; rw [hE]; decide
  rw [textB_of (t := (k + 1074).toNat) (u := u) (k := k) fn (by rw [hmm, hM]) ho (by rw [hx]; omega), hg, he]
theorem kF {k : Int} {L F : Nat} (hF : (k + (L : Int) + 1022).toNat = F) (hL : L ≤ 52) (h : -1022 ≤ k + (L : Int)) : k = (F : Int) - 1074 + ((52 - L : Nat) : Int) := by omega
theorem Num.norm {s : List UInt8} {g : Bool} {u : Nat} {k : Int} (x : Num s g u k) (h : -1022 ≤ k + (u.log2 : Int)) :
    4503599627370496 ≤ u * 2 ^ (52 - u.log2) ∧ u * 2 ^ (52 - u.log2) < 9007199254740992 ∧
    sgZ g + (k + (u.log2 : Int) + 1022).toNat * 4503599627370496 + u * 2 ^ (52 - u.log2) < 18446744073709551616 ∧
    textB (sgZ g + (k + (u.log2 : Int) + 1022).toNat * 4503599627370496 + u * 2 ^ (52 - u.log2)) = s := by
  obtain ⟨he, ho, hl, h1, h2⟩ := x
  have hu : u ≠ 0 := by omega
  have hL : u.log2 ≤ 52 := by have := (Nat.log2_lt hu (k := 53)).2 hl; omega
  obtain ⟨g1, g2⟩ := mant52 hu hL
  refine ⟨g1, g2, ?_⟩
  generalize hM : u * 2 ^ (52 - u.log2) = M at *
  obtain ⟨F, hF⟩ : ∃ F : Nat, (k + (u.log2 : Int) + 1022).toNat = F := ⟨_, rfl⟩
  have hFle : F ≤ 2045 := by omega
  rw [hF]
  have hr : rungN (sgZ g + F * 4503599627370496 + M) = F * 4503599627370496 + M := by unfold rungN sgZ; cases g <;> simp <;> omega
  have hg : negN (sgZ g + F * 4503599627370496 + M) = g := by unfold negN sgZ; cases g <;> simp <;> omega
  have hlt64 : sgZ g + F * 4503599627370496 + M < 18446744073709551616 := by unfold sgZ; cases g <;> simp <;> omega
  refine ⟨hlt64, ?_⟩
  have fn : Fin (sgZ g + F * 4503599627370496 + M) := ⟨hlt64, by rw [hr]; omega, by rw [hr]; omega⟩
  have hE : expE (sgZ g + F * 4503599627370496 + M) = F + 1 := by unfold expE; rw [hr]; omega
  have hmm : mant (sgZ g + F * 4503599627370496 + M) = M := by unfold mant; rw [if_neg (by omega), hr]; omega
  have hx : expo (sgZ g + F * 4503599627370496 + M) = (F : Int) - 1074 := by unfold expo; rw [hE]; omega
  rw [textB_of (t := 52 - u.log2) (u := u) (k := k) fn (by rw [hmm, hM]) ho (by rw [hx]; exact kF hF hL h), hg, he]
/-- where no number has the text -/
theorem no_text {s r : List UInt8} {g : Bool} (hs : s = sgL g ++ r) (hnn : g = false → r.head? ≠ some 45) (hno : ∀ c ∈ clsC, classB c ≠ s) (h : ∀ u k, ¬ Num s g u k) (n : Nat) (hn : n < 18446744073709551616) : textB n ≠ s := by
  intro e
  by_cases hc : classB n = []
  · obtain ⟨u, k, x⟩ := Num.of (Fin.of hn hc) e
    have hg : negN n = g := by
      have he := x.eq
      rw [hs] at he
      cases hd : Lib.decDigits u with
      | nil => exact absurd hd (digits_ne u)
      | cons b q =>
        have hb := digits_byte (u := u) (b := b) (by rw [hd]; exact List.mem_cons_self)
        rw [hd] at he
        cases g with
        | true =>
          cases hgn : negN n with
          | true => rfl
          | false =>
            rw [hgn] at he
            simp only [sgL, if_true, List.cons_append, List.nil_append] at he
            have h1 := (List.cons.inj he).1
            rw [← h1] at hb; exact absurd hb (by decide)
        | false =>
          cases hgn : negN n with
          | false => rfl
          | true =>
            rw [hgn] at he
            simp only [sgL, if_true, List.cons_append, List.nil_append] at he
            exact absurd (by rw [show r = 45 :: (b :: (q ++ tailB k)) from he]; rfl) (hnn rfl)
    rw [hg] at x
    exact h u k x
  · have e2 : textB n = classB n := by unfold textB; rw [if_pos hc]
    obtain ⟨c, hcc, he⟩ := cls_has n hc
    exact hno c hcc (by rw [he, ← e2, e])
/-- no digit stands behind a number's digits -/
def NoDig (t : List UInt8) : Prop := t = [] ∨ ∃ c r, t = c :: r ∧ ¬ isDig c
theorem tail_noDig (k : Int) : NoDig (tailB k) := by
  unfold tailB
  split
  · exact .inr ⟨42, _, rfl, by unfold isDig; decide⟩
  · split
    · exact .inr ⟨47, _, rfl, by unfold isDig; decide⟩
    · exact .inl rfl
theorem sg_drop (g : Bool) (x : List UInt8) : (sgL g ++ x).drop (sgL g).length = x := drop_pre _ _
/-- a row of digits that is one number's, in its one way -/
theorem canon_of {s : List UInt8} {a m v : Nat} (d : DigAt s a m v) (hf : digFlag s a m = true) : (s.drop a).take m = Lib.decDigits v ∧ m = (Lib.decDigits v).length := by
  unfold digFlag at hf
  simp only [Bool.and_eq_true, Bool.or_eq_true, decide_eq_true_eq] at hf
  obtain ⟨hm, hz⟩ := hf
  have hl := d.le
  have hlen : ((s.drop a).take m).length = m := by rw [List.length_take, List.length_drop]; omega
  have he : (s.drop a).take m = Lib.decDigits v := by
    refine decFrom_canon m _ v (by omega) d.val (fun e => by rw [e] at hlen; simp at hlen; omega) ?_
    rcases hz with hz | hz
    · left
      intro e
      apply hz
      cases m with
      | zero => omega
      | succ m =>
        rw [List.head?_take] at e
        simp only [Nat.add_eq_zero_iff, Nat.succ_ne_self, and_false, if_false, List.head?_drop] at e
        exact e
    · right; omega
  exact ⟨he, by rw [← he, hlen]⟩
theorem good_digits {s r : List UInt8} {g : Bool} {m v : Nat} (hs : s = sgL g ++ r) (d : DigAt s (sgL g).length m v) (hf : digFlag s (sgL g).length m = true) (hv : v < 9007199254740992) :
    ∃ t, r = Lib.decDigits v ++ t ∧ m = (Lib.decDigits v).length ∧ NoDig t := by
  obtain ⟨he, hm⟩ := canon_of d hf
  have h16 := len16 hv
  rw [hs, sg_drop] at he
  refine ⟨r.drop m, by rw [← he, List.take_append_drop], hm, ?_⟩
  cases ht : r.drop m with
  | nil => exact .inl rfl
  | cons c q =>
    refine .inr ⟨c, q, rfl, ?_⟩
    have hlen := congrArg List.length ht
    rw [List.length_drop, List.length_cons] at hlen
    rcases d.stop with h | h | h
    · omega
    · rw [hs, List.length_append] at h; omega
    · have hlt : (sgL g).length + m < s.length := by rw [hs, List.length_append]; omega
      have := h hlt
      have e : s[(sgL g).length + m]? = some c := by
        rw [hs, List.getElem?_append_right (by omega), Nat.add_sub_cancel_left]
        have h0 := congrArg (·[0]?) ht
        simpa using h0
      rw [List.getElem?_eq_getElem hlt] at e
      rwa [Option.some.inj e] at this
theorem bad_digits {s r : List UInt8} {g : Bool} {m v : Nat} (hs : s = sgL g ++ r) (d : DigAt s (sgL g).length m v) (hb : ¬ (digFlag s (sgL g).length m = true ∧ v % 2 = 1 ∧ v < 9007199254740992)) : ∀ u k, ¬ Num s g u k := by
  intro u k x
  have he := x.eq
  rw [he] at d hb
  obtain ⟨hm, hv⟩ := d.exact x.lt (tail_noDig k)
  subst hm hv
  exact hb ⟨flag_true (by have := x.odd; omega), x.odd, x.lt⟩
theorem Num.tail {g : Bool} {v u : Nat} {k : Int} {t : List UInt8} (hv : v < 9007199254740992) (ht : NoDig t) (x : Num (sgL g ++ (Lib.decDigits v ++ t)) g u k) : u = v ∧ t = tailB k := by
  have he := List.append_cancel_left x.eq
  have h1 : DigAt (sgL g ++ (Lib.decDigits v ++ t)) (sgL g).length (Lib.decDigits v).length v := by
    refine ⟨by have := len16 hv; omega, by simp only [List.length_append]; omega, by rw [sg_drop, List.take_left' rfl]; exact decFrom_digits v v (Nat.le_refl _), ?_⟩
    rcases ht with rfl | ⟨c, q, rfl, hc⟩
    · right; left; simp
    · right; right
      intro hl
      have e : (sgL g ++ (Lib.decDigits v ++ c :: q))[(sgL g).length + (Lib.decDigits v).length]? = some c := by
        rw [List.getElem?_append_right (by omega), Nat.add_sub_cancel_left, List.getElem?_append_right (Nat.le_refl _), Nat.sub_self]; rfl
      rw [List.getElem?_eq_getElem hl] at e
      rw [Option.some.inj e]; exact hc
  rw [x.eq] at h1
  obtain ⟨hm, hvu⟩ := h1.exact x.lt (tail_noDig k)
  subst hvu
  exact ⟨rfl, List.append_cancel_left he⟩
/-! the tail -/
def tailC (b : Bool) : UInt8 := if b then 47 else 42
def tailK (b : Bool) (p : Nat) : Int := if b then -(p : Int) else p
theorem tailB_eq {b : Bool} {p : Nat} (hp : p ≠ 0) : tailB (tailK b p) = tailC b :: 50 :: 94 :: Lib.decDigits p := by
  unfold tailB tailK tailC
  cases b
  · simp only [Bool.false_eq_true, if_false]
    rw [if_pos (by omega), Lib.itoa_nonneg]; rfl
  · simp only [if_true]
    rw [if_neg (by omega), if_pos (by omega), Int.neg_neg, Lib.itoa_nonneg]; rfl
theorem tailB_inv {k : Int} {t : List UInt8} (h : t = tailB k) : (t = [] ∧ k = 0) ∨ ∃ b p, p ≠ 0 ∧ k = tailK b p ∧ t = tailC b :: 50 :: 94 :: Lib.decDigits p := by
  by_cases h0 : k = 0
  · subst h0; left; exact ⟨h.trans (by decide), rfl⟩
  · right
    by_cases hp : 0 < k
    · refine ⟨false, k.toNat, by omega, by simp [tailK]; omega, ?_⟩
      rw [h, ← tailB_eq (b := false) (by omega)]; congr 1; simp [tailK]; omega
    · refine ⟨true, (-k).toNat, by omega, by simp [tailK]; omega, ?_⟩
      rw [h, ← tailB_eq (b := true) (by omega)]; congr 1; simp [tailK]; omega
theorem good_tail {pre q : List UInt8} {m p : Nat} (d : DigAt (pre ++ q) pre.length m p) (hf : digFlag (pre ++ q) pre.length m = true) (hl : pre.length + m = (pre ++ q).length) : q = Lib.decDigits p := by
  obtain ⟨he, _⟩ := canon_of d hf
  rw [drop_pre, List.take_of_length_le (by rw [List.length_append] at hl; omega)] at he
  exact he
theorem tail_exact {pre : List UInt8} {m p v : Nat} (hp : p < 9007199254740992) (h0 : p ≠ 0) (d : DigAt (pre ++ Lib.decDigits p) pre.length m v) : v = p ∧ pre.length + m = (pre ++ Lib.decDigits p).length ∧ digFlag (pre ++ Lib.decDigits p) pre.length m = true := by
  have d' := d
  rw [← List.append_nil (Lib.decDigits p)] at d'
  obtain ⟨hm, hv⟩ := d'.exact hp (.inl rfl)
  refine ⟨hv, by rw [hm, List.length_append], ?_⟩
  have := flag_true (pre := pre) (t := []) h0
  rw [List.append_nil] at this
  rw [hm]; exact this
end Go.Proofs.YtjcmcoabckkjoaaDoor.Li

namespace Go.Proofs.YtjcmcoabckkjoaaDoor.Li
open Go.Ev
set_option maxRecDepth 100000
set_option maxHeartbeats 400000
def errT : Value := .tuple #[.float .f64 0, .int .i64 16]
theorem half_pos {v j : Nat} (hv : v ≠ 0) : 0 < v / 2 ^ j ↔ j ≤ v.log2 := by
  rw [Nat.le_log2 hv, Nat.div_pos_iff]
  have := Nat.two_pow_pos j
  omega
theorem half_succ (v j : Nat) : v / 2 ^ (j + 1) = v / 2 ^ j / 2 := by rw [Nat.pow_succ, Nat.div_div_eq_div_mul]
theorem dbl_succ (v j : Nat) : v * 2 ^ (j + 1) = 2 * (v * 2 ^ j) := by rw [Nat.pow_succ, ← Nat.mul_assoc, Nat.mul_comm]
theorem dbl_le {v i j : Nat} (h : i ≤ j) : v * 2 ^ i ≤ v * 2 ^ j := Nat.mul_le_mul_left v (Nat.pow_le_pow_right (by omega) h)
/-- the subnormal end -/
theorem of_sub {g : Bool} {v : Nat} {k : Int} {fr : Fr} {h : Heap} {K : Value → Heap → Prop} {Q : Ex → Fr → Heap → Prop} (hQ : ∀ fr h, Q .ret fr h = resK env [.tmp 2, .tmp 3] K .ret fr h) (hk : -1074 ≤ k ∧ k ≤ 3000) (hb : v * 2 ^ (k + 1074).toNat < 4503599627370496) (g5 : fr.get 5 = some (.int .u64 (sgZ g : Nat))) (g6 : fr.get 6 = some (.int .u64 (v : Nat))) (g9 : fr.get 9 = some (.int .i64 k))
    (hK : K (ofT (.float .f64 (sgZ g + v * 2 ^ (k + 1074).toNat))) h) : s37_31.wp env 169 none fr h Q := by
  have z5 := g5
  have z9 := g9
  have hg : sgZ g ≤ 9223372036854775808 := by unfold sgZ; cases g <;> simp
  obtain ⟨S, hT⟩ : ∃ S : Nat, (k + 1074).toNat = S := ⟨_, rfl⟩
  rw [hT] at hb hK
  repeat' (first | done | with_reducible (first | refine y1 ?_ (by omega) | refine y2 ?_ (by omega) | refine y3 (fun _ => ?_) (fun _ => ?_) | refine y4 ?_ (by omega) (by omega) | refine y5 ?_ (by omega) | refine y6 ?_ (by with_unfolding_all rfl) | refine y7 ?_ (by with_unfolding_all rfl) | refine y8 ?_ (by with_unfolding_all rfl) | refine y9 ?_ (by with_unfolding_all rfl) | refine ya ?_ (by with_unfolding_all rfl)) | (simp -dsimp only [↓cw_ops, ↓cw_seq, ↓cw_block, ↓seqK_normal, ↓evK_int, ↓opsW_nil, ↓opsW_d, ↓opW_assign, ↓s37_27_w, ↓s37_28_w, ↓r37_29_w, ↓s37_30_w, ↓s37_31_w]))
  refine cw_loopI (fun n fr h' => h' = h ∧ ∃ j : Nat, j ≤ S ∧ n = S - j ∧ fr.get 16 = some (.int .i64 ((j : Int) - 1074)) ∧ fr.get 6 = some (.int .u64 ((v * 2 ^ j : Nat) : Int))) S ?_ (by omega) ?_
  · exact ⟨rfl, 0, by omega, by omega, by simp [T.get_set], by simp [T.get_set, g6]⟩
  rintro n fr' h' ⟨rfl, j, hj, rfl, g16, g6⟩ hag
  have z6 := g6
  have y5 := hag 5 rfl
  have g16 := getK_of g16
  have g6 := getK_of g6
  have a9 := getK_eq (hag 9 rfl)
  have y9 := getK_of z9
  have hjT := dbl_le (v := v) hj
  by_cases hlt : j < S
  · have h1 : (j : Int) - 1074 < k := by omega
    have hj1 := dbl_le (v := v) (show j + 1 ≤ S by omega)
    have hd := dbl_succ v j
    generalize hA : v * 2 ^ j = A at *
    generalize hB : v * 2 ^ (j + 1) = B at *
    have w1 : IntKind.u64.wrap (2 * (A : Int)) = ((B : Nat) : Int) := by rw [wrap_u64 (by omega) (by omega)]; omega
    have w2 : IntKind.i64.wrap ((j : Int) - 1074 + 1) = ((j + 1 : Nat) : Int) - 1074 := by rw [wrap_i64 (by omega) (by omega)]; omega
    repeat' (first | done | with_reducible (first | refine y1 ?_ (by omega) | refine y2 ?_ (by omega) | refine y3 (fun _ => ?_) (fun _ => ?_) | refine y4 ?_ (by omega) (by omega) | refine y5 ?_ (by omega) | refine y6 ?_ (by with_unfolding_all rfl) | refine y7 ?_ (by with_unfolding_all rfl) | refine y8 ?_ (by with_unfolding_all rfl) | refine y9 ?_ (by with_unfolding_all rfl) | refine ya ?_ (by with_unfolding_all rfl)) | (simp -dsimp only [↓cw_skip, ↓cw_ops, ↓cw_seq, ↓cw_block, ↓cw_cond, ↓seqK_normal, ↓blockK_normal, ↓loopK_normal, ↓getK_same, ↓getK_ne, ↓evK_tmp, ↓evK_int, ↓condV_var, ↓opsW_nil, ↓opsW_d, ↓opW_move, ↓opW_assign, ↓opW_bin, ↓bin_add, ↓bin_mul, ↓bin_lss, ↓r37_18_w, ↓s37_19_w, ↓r37_20_w, ↓s37_21_w, ↓s37_22_w, ↓s37_23_w, ↓r37_24_w, ↓s37_25_w, ↓s37_26_w, brK_true, true_and, ne_eq, Nat.reduceEqDiff, not_false_eq_true, ↓g16, ↓g6, ↓a9, ↓y9, h1]))
    exact ⟨S - (j + 1), by omega, j + 1, by omega, rfl, by simp only [T.get_set]; rw [w2]; simp, by simp only [T.get_set]; rw [w1, hB]; simp⟩
  · have e : j = S := by omega
    subst e
    have h1 : ¬ (j : Int) - 1074 < k := by omega
    have x5 := getK_of z5
    have a5 := getK_eq y5
    generalize hA : v * 2 ^ j = A at *
    have w1 : IntKind.u64.wrap ((sgZ g : Int) + (A : Int)) = ((sgZ g + A : Nat) : Int) := by rw [wrap_u64 (by omega) (by omega)]; omega
    repeat' (first | done | with_reducible (first | refine y1 ?_ (by omega) | refine y2 ?_ (by omega) | refine y3 (fun _ => ?_) (fun _ => ?_) | refine y4 ?_ (by omega) (by omega) | refine y5 ?_ (by omega) | refine y6 ?_ (by with_unfolding_all rfl) | refine y7 ?_ (by with_unfolding_all rfl) | refine y8 ?_ (by with_unfolding_all rfl) | refine y9 ?_ (by with_unfolding_all rfl) | refine ya ?_ (by with_unfolding_all rfl)) | (simp -dsimp only [↓cw_ops, ↓cw_seq, ↓cw_exit, ↓cw_cond, ↓seqK_normal, ↓seqK_exit, ↓blockK_same, ↓loopK_exit, ↓getK_same, ↓getK_ne, ↓evK_tmp, ↓condV_var, ↓opsW_nil, ↓opsW_d, ↓opW_move, ↓opW_bin, ↓bin_add, ↓bin_lss, ↓evs_nil, ↓evs_cons, ↓opW_call, ↓r37_16_w, ↓s37_17_w, ↓s37_23_w, ↓r37_24_w, ↓s37_25_w, ↓s37_26_w, brK_false, ne_eq, Nat.reduceEqDiff, not_false_eq_true, Bool.false_eq_true,  ↓g16, ↓g6, ↓a9, ↓y9, ↓a5, ↓x5, h1, w1]))
    refine from_u ?_
    rw [Int.toNat_natCast]
    repeat' (first | done | with_reducible (first | refine y1 ?_ (by omega) | refine y2 ?_ (by omega) | refine y3 (fun _ => ?_) (fun _ => ?_) | refine y4 ?_ (by omega) (by omega) | refine y5 ?_ (by omega) | refine y6 ?_ (by with_unfolding_all rfl) | refine y7 ?_ (by with_unfolding_all rfl) | refine y8 ?_ (by with_unfolding_all rfl) | refine y9 ?_ (by with_unfolding_all rfl) | refine ya ?_ (by with_unfolding_all rfl)) | (simp -dsimp only [↓cw_ret, ↓seqK_normal, ↓getK_same, ↓getK_ne, ↓evK_tmp, ↓evK_int, ↓opsW_nil, ↓opsW_d, ↓opW_assign, ↓resK_two, ne_eq, Nat.reduceEqDiff, not_false_eq_true, hQ]))
    exact hK
/-- the normal end -/
theorem of_norm {g : Bool} {v L F : Nat} {e : Int} {fr : Fr} {h : Heap} {K : Value → Heap → Prop} (hL : L ≤ 52) (he : e = (F : Int) - 1022) (hF : F ≤ 2045) (g1 : 4503599627370496 ≤ v * 2 ^ (52 - L)) (g2 : v * 2 ^ (52 - L) < 9007199254740992)
    (g5 : fr.get 5 = some (.int .u64 (sgZ g : Nat))) (g6 : fr.get 6 = some (.int .u64 (v : Nat))) (g13 : fr.get 13 = some (.int .i64 ((L + 1 : Nat) : Int))) (g15 : fr.get 15 = some (.int .i64 e))
    (hK : K (ofT (.float .f64 (sgZ g + F * 4503599627370496 + v * 2 ^ (52 - L)))) h) : s37_15.wp env 169 none fr h (resK env [.tmp 2, .tmp 3] K) := by
  have z5 := g5
  have z15 := g15
  have g13 := getK_of g13
  have hg : sgZ g = 0 ∨ sgZ g = 9223372036854775808 := by unfold sgZ; cases g <;> simp
  obtain ⟨S, hT⟩ : ∃ S : Nat, 52 - L = S := ⟨_, rfl⟩
  rw [hT] at g1 g2 hK
  repeat' (first | done | with_reducible (first | refine y1 ?_ (by omega) | refine y2 ?_ (by omega) | refine y3 (fun _ => ?_) (fun _ => ?_) | refine y4 ?_ (by omega) (by omega) | refine y5 ?_ (by omega) | refine y6 ?_ (by with_unfolding_all rfl) | refine y7 ?_ (by with_unfolding_all rfl) | refine y8 ?_ (by with_unfolding_all rfl) | refine y9 ?_ (by with_unfolding_all rfl) | refine ya ?_ (by with_unfolding_all rfl)) | (simp -dsimp only [↓cw_ops, ↓cw_seq, ↓cw_block, ↓seqK_normal, ↓getK_same, ↓evK_tmp, ↓opsW_nil, ↓opsW_d, ↓opW_move, ↓opW_assign, ↓s37_11_w, ↓s37_12_w, ↓r37_13_w, ↓s37_14_w, ↓s37_15_w, ↓g13]))
  refine cw_loopI (fun n fr h' => h' = h ∧ ∃ j : Nat, j ≤ S ∧ n = S - j ∧ fr.get 17 = some (.int .i64 ((L + 1 + j : Nat) : Int)) ∧ fr.get 6 = some (.int .u64 ((v * 2 ^ j : Nat) : Int))) S ?_ (by omega) ?_
  · exact ⟨rfl, 0, by omega, by omega, by simp [T.get_set], by simp [T.get_set, g6]⟩
  rintro n fr' h' ⟨rfl, j, hj, rfl, g17, g6⟩ hag
  have y5 := hag 5 rfl
  have y15 := hag 15 rfl
  have g17 := getK_of g17
  have g6 := getK_of g6
  have hjT := dbl_le (v := v) hj
  by_cases hlt : j < S
  · have h1 : ((L + 1 + j : Nat) : Int) < 53 := by omega
    have hj1 := dbl_le (v := v) (show j + 1 ≤ S by omega)
    have hd := dbl_succ v j
    generalize hA : v * 2 ^ j = A at *
    generalize hB : v * 2 ^ (j + 1) = B at *
    have w1 : IntKind.u64.wrap (2 * (A : Int)) = ((B : Nat) : Int) := by rw [wrap_u64 (by omega) (by omega)]; omega
    have w2 : IntKind.i64.wrap (((L + 1 + j : Nat) : Int) + 1) = ((L + 1 + (j + 1) : Nat) : Int) := by rw [wrap_i64 (by omega) (by omega)]; omega
    repeat' (first | done | with_reducible (first | refine y1 ?_ (by omega) | refine y2 ?_ (by omega) | refine y3 (fun _ => ?_) (fun _ => ?_) | refine y4 ?_ (by omega) (by omega) | refine y5 ?_ (by omega) | refine y6 ?_ (by with_unfolding_all rfl) | refine y7 ?_ (by with_unfolding_all rfl) | refine y8 ?_ (by with_unfolding_all rfl) | refine y9 ?_ (by with_unfolding_all rfl) | refine ya ?_ (by with_unfolding_all rfl)) | (simp -dsimp only [↓cw_skip, ↓cw_ops, ↓cw_seq, ↓cw_block, ↓cw_cond, ↓seqK_normal, ↓blockK_normal, ↓loopK_normal, ↓getK_same, ↓getK_ne, ↓evK_tmp, ↓evK_int, ↓condV_var, ↓opsW_nil, ↓opsW_d, ↓opW_move, ↓opW_assign, ↓opW_bin, ↓bin_add, ↓bin_mul, ↓bin_lss, ↓r37_2_w, ↓s37_3_w, ↓r37_4_w, ↓s37_5_w, ↓s37_6_w, ↓s37_7_w, ↓r37_8_w, ↓s37_9_w, ↓s37_10_w, brK_true, true_and, ne_eq, Nat.reduceEqDiff, not_false_eq_true, ↓g17, ↓g6, h1]))
    exact ⟨S - (j + 1), by omega, j + 1, by omega, rfl, by simp only [T.get_set]; rw [w2]; simp, by simp only [T.get_set]; rw [w1, hB]; simp⟩
  · have e : j = S := by omega
    subst e
    have h1 : ¬ ((L + 1 + j : Nat) : Int) < 53 := by omega
    have x5 := getK_of z5
    have a5 := getK_eq y5
    have x15 := getK_of z15
    have a15 := getK_eq y15
    generalize hA : v * 2 ^ j = A at *
    have w1 : IntKind.i64.wrap (e + 1023) = ((F + 1 : Nat) : Int) := by rw [wrap_i64 (by omega) (by omega)]; omega
    have w2 : IntKind.u64.wrap ((F + 1 : Nat) : Int) = ((F + 1 : Nat) : Int) := wrap_u64 (by omega) (by omega)
    have w3 : IntKind.u64.wrap (((F + 1 : Nat) : Int) * 4503599627370496) = (((F + 1) * 4503599627370496 : Nat) : Int) := by rw [wrap_u64 (by omega) (by omega)]; omega
    have w4 : IntKind.u64.wrap ((sgZ g : Int) + (((F + 1) * 4503599627370496 : Nat) : Int)) = ((sgZ g + (F + 1) * 4503599627370496 : Nat) : Int) := by rw [wrap_u64 (by omega) (by omega)]; omega
    have w5 : IntKind.u64.wrap (((sgZ g + (F + 1) * 4503599627370496 : Nat) : Int) + (A : Int)) = ((sgZ g + (F + 1) * 4503599627370496 + A : Nat) : Int) := by rw [wrap_u64 (by omega) (by omega)]; omega
    have w6 : IntKind.u64.wrap (((sgZ g + (F + 1) * 4503599627370496 + A : Nat) : Int) - 4503599627370496) = ((sgZ g + F * 4503599627370496 + A : Nat) : Int) := by rw [wrap_u64 (by omega) (by omega)]; omega
    repeat' (first | done | with_reducible (first | refine y1 ?_ (by omega) | refine y2 ?_ (by omega) | refine y3 (fun _ => ?_) (fun _ => ?_) | refine y4 ?_ (by omega) (by omega) | refine y5 ?_ (by omega) | refine y6 ?_ (by with_unfolding_all rfl) | refine y7 ?_ (by with_unfolding_all rfl) | refine y8 ?_ (by with_unfolding_all rfl) | refine y9 ?_ (by with_unfolding_all rfl) | refine ya ?_ (by with_unfolding_all rfl)) | (simp -dsimp only [↓cw_ops, ↓cw_seq, ↓cw_exit, ↓cw_cond, ↓seqK_normal, ↓seqK_exit, ↓blockK_same, ↓loopK_exit, ↓getK_same, ↓getK_ne, ↓evK_tmp, ↓evK_int, ↓condV_var, ↓opsW_nil, ↓opsW_d, ↓opW_move, ↓opW_bin, ↓bin_add, ↓bin_sub, ↓bin_mul, ↓bin_lss, ↓evs_nil, ↓evs_cons, ↓opW_call, ↓cint_int, ↓cv_3_23, ↓r37_0_w, ↓s37_1_w, ↓s37_7_w, ↓r37_8_w, ↓s37_9_w, ↓s37_10_w, brK_false, ne_eq, Nat.reduceEqDiff, not_false_eq_true, Bool.false_eq_true,  ↓g17, ↓g6, ↓a5, ↓x5, ↓a15, ↓x15, h1, w1, w2, w3, w4, w5, w6]))
    refine from_u ?_
    rw [Int.toNat_natCast]
    repeat' (first | done | with_reducible (first | refine y1 ?_ (by omega) | refine y2 ?_ (by omega) | refine y3 (fun _ => ?_) (fun _ => ?_) | refine y4 ?_ (by omega) (by omega) | refine y5 ?_ (by omega) | refine y6 ?_ (by with_unfolding_all rfl) | refine y7 ?_ (by with_unfolding_all rfl) | refine y8 ?_ (by with_unfolding_all rfl) | refine y9 ?_ (by with_unfolding_all rfl) | refine ya ?_ (by with_unfolding_all rfl)) | (simp -dsimp only [↓cw_ret, ↓seqK_normal, ↓getK_same, ↓getK_ne, ↓evK_tmp, ↓evK_int, ↓opsW_nil, ↓opsW_d, ↓opW_assign, ↓resK_two, ne_eq, Nat.reduceEqDiff, not_false_eq_true]))
    exact hK
theorem kR {k : Int} {L F : Nat} (hF : (k + (L : Int) + 1022).toNat = F) (h : -1022 ≤ k + (L : Int)) : k + (L : Int) = (F : Int) - 1022 := by omega
/-- from the odd number and the power on -/
theorem of_end {g : Bool} {s : List UInt8} {v : Nat} {k : Int} {fr : Fr} {h : Heap} {K : Value → Heap → Prop} (hs : s = sgL g ++ (Lib.decDigits v ++ tailB k)) (hodd : v % 2 = 1) (hv : v < 9007199254740992) (hk : -3000 ≤ k ∧ k ≤ 3000)
    (g5 : fr.get 5 = some (.int .u64 (sgZ g : Nat))) (g6 : fr.get 6 = some (.int .u64 (v : Nat))) (g9 : fr.get 9 = some (.int .i64 k))
    (hK : ∀ w, w < 18446744073709551616 → textB w = s → K (ofT (.float .f64 w)) h) (hE : ¬ Num s g v k → K errT h) : s37_59.wp env 169 none fr h (resK env [.tmp 2, .tmp 3] K) := by
  have hv0 : v ≠ 0 := by omega
  have h53 : v.log2 < 53 := (Nat.log2_lt hv0).2 hv
  have z5 := g5
  have z9 := g9
  have z6 := g6
  have g6 := getK_of g6
  obtain ⟨L, hL⟩ : ∃ L : Nat, v.log2 = L := ⟨_, rfl⟩
  have hpos : ∀ j, 0 < v / 2 ^ j ↔ j ≤ L := fun j => by rw [half_pos hv0, hL]
  have hle : ∀ j, v / 2 ^ j ≤ v := fun j => Nat.div_le_self _ _
  have hNum : k + (L : Int) ≤ 1023 ∧ -1074 ≤ k ↔ Num s g v k := ⟨fun q => ⟨hs, hodd, hv, q.2, by rw [hL]; exact q.1⟩, fun x => ⟨by have := x.k2; rw [hL] at this; exact this, x.k1⟩⟩
  repeat' (first | done | with_reducible (first | refine y1 ?_ (by omega) | refine y2 ?_ (by omega) | refine y3 (fun _ => ?_) (fun _ => ?_) | refine y4 ?_ (by omega) (by omega) | refine y5 ?_ (by omega) | refine y6 ?_ (by with_unfolding_all rfl) | refine y7 ?_ (by with_unfolding_all rfl) | refine y8 ?_ (by with_unfolding_all rfl) | refine y9 ?_ (by with_unfolding_all rfl) | refine ya ?_ (by with_unfolding_all rfl)) | (simp -dsimp only [↓cw_ops, ↓cw_seq, ↓cw_block, ↓seqK_normal, ↓getK_same, ↓getK_ne, ↓evK_tmp, ↓evK_int, ↓opsW_nil, ↓opsW_d, ↓opW_move, ↓opW_assign, ↓s37_53_w, ↓s37_54_w, ↓r37_55_w, ↓s37_56_w, ↓s37_57_w, ↓r37_58_w, ↓s37_59_w, ne_eq, Nat.reduceEqDiff, not_false_eq_true, ↓g6]))
  refine cw_loopI (fun n fr h' => h' = h ∧ ∃ j : Nat, j ≤ L + 1 ∧ n = L + 1 - j ∧ fr.get 13 = some (.int .i64 (j : Int)) ∧ fr.get 14 = some (.int .u64 ((v / 2 ^ j : Nat) : Int))) (L + 1) ?_ (by omega) ?_
  · exact ⟨rfl, 0, by omega, by omega, by simp [T.get_set], by simp [T.get_set]⟩
  rintro n fr' h' ⟨rfl, j, hj, rfl, g13, g14⟩ hag
  have y5 := hag 5 rfl
  have y6 := hag 6 rfl
  have y9 := hag 9 rfl
  simp only [T.get_set] at y5 y6 y9
  have z13 := g13
  have g13 := getK_of g13
  have g14 := getK_of g14
  have hlej := hle j
  by_cases hlt : j ≤ L
  · have h1 : (0 : Int) < ((v / 2 ^ j : Nat) : Int) := by have := (hpos j).2 hlt; omega
    have w2 : IntKind.i64.wrap ((j : Int) + 1) = ((j + 1 : Nat) : Int) := by rw [wrap_i64 (by omega) (by omega)]; omega
    have hd := half_succ v j
    generalize hA : v / 2 ^ j = A at *
    have w1 : IntKind.u64.wrap (Int.tdiv (A : Int) 2) = ((A / 2 : Nat) : Int) := by rw [show Int.tdiv (A : Int) 2 = ((A / 2 : Nat) : Int) from rfl, wrap_u64 (by omega) (by omega)]
    have h20 : (¬ (2 : Int) = 0) = True := eq_true (by omega)
    repeat' (first | done | with_reducible (first | refine y1 ?_ (by omega) | refine y2 ?_ (by omega) | refine y3 (fun _ => ?_) (fun _ => ?_) | refine y4 ?_ (by omega) (by omega) | refine y5 ?_ (by omega) | refine y6 ?_ (by with_unfolding_all rfl) | refine y7 ?_ (by with_unfolding_all rfl) | refine y8 ?_ (by with_unfolding_all rfl) | refine y9 ?_ (by with_unfolding_all rfl) | refine ya ?_ (by with_unfolding_all rfl)) | (simp -dsimp only [↓cw_skip, ↓cw_ops, ↓cw_seq, ↓cw_block, ↓cw_cond, ↓seqK_normal, ↓blockK_normal, ↓loopK_normal, ↓getK_same, ↓getK_ne, ↓evK_tmp, ↓evK_int, ↓condV_var, ↓opsW_nil, ↓opsW_d, ↓opW_move, ↓opW_assign, ↓opW_bin, ↓bin_add, ↓bin_quo, ↓bin_gtr, ↓r37_44_w, ↓s37_45_w, ↓r37_46_w, ↓s37_47_w, ↓s37_48_w, ↓s37_49_w, ↓r37_50_w, ↓s37_51_w, ↓s37_52_w, brK_true, true_and, ne_eq, Nat.reduceEqDiff, not_false_eq_true, ↓g13, ↓g14, h1, h20]))
    refine ⟨L + 1 - (j + 1), by omega, j + 1, by omega, rfl, by simp only [T.get_set]; rw [w2]; simp, ?_⟩
    simp only [T.get_set]
    rw [hd, w1]
    simp
  · have e : j = L + 1 := by omega
    subst e
    have h1 : ¬ (0 : Int) < ((v / 2 ^ (L + 1) : Nat) : Int) := by have := hpos (L + 1); omega
    have h5 : fr'.get 5 = some (.int .u64 (sgZ g : Nat)) := by rw [y5]; simpa using z5
    have h6 : fr'.get 6 = some (.int .u64 (v : Nat)) := by rw [y6]; simpa using z6
    have h9 : fr'.get 9 = some (.int .i64 k) := by rw [y9]; simpa using z9
    have i5 := getK_of h5
    have i6 := getK_of h6
    have i9 := getK_of h9
    have w1 : IntKind.i64.wrap (k + ((L + 1 : Nat) : Int)) = k + (L : Int) + 1 := by rw [wrap_i64 (by omega) (by omega)]; omega
    have w2 : IntKind.i64.wrap (k + (L : Int) + 1 - 1) = k + (L : Int) := by rw [wrap_i64 (by omega) (by omega)]; omega
    clear hpos hle hlej y5 y6 y9 hag
    by_cases c1 : k + (L : Int) ≤ 1023 ∧ -1074 ≤ k
    · have x := hNum.1 c1
      by_cases c2 : k + (L : Int) < -1022
      · obtain ⟨q1, q2, q3⟩ := x.sub (by rw [hL]; exact c2)
        repeat' (first | done | with_reducible (first | refine y1 ?_ (by omega) | refine y2 ?_ (by omega) | refine y3 (fun _ => ?_) (fun _ => ?_) | refine y4 ?_ (by omega) (by omega) | refine y5 ?_ (by omega) | refine y6 ?_ (by with_unfolding_all rfl) | refine y7 ?_ (by with_unfolding_all rfl) | refine y8 ?_ (by with_unfolding_all rfl) | refine y9 ?_ (by with_unfolding_all rfl) | refine ya ?_ (by with_unfolding_all rfl)) | (simp -dsimp only [↓cw_skip, ↓cw_ops, ↓cw_seq, ↓cw_exit, ↓cw_cond, ↓seqK_normal, ↓seqK_exit, ↓blockK_same, ↓loopK_exit, ↓getK_same, ↓getK_ne, ↓evK_tmp, ↓evK_int, ↓condV_var, ↓gdV_var, ↓opsW_nil, ↓opsW_d, ↓opsW_gd, ↓opW_move, ↓opW_assign, ↓opW_pick, ↓opW_bin, ↓bin_add, ↓bin_sub, ↓bin_lss, ↓bin_gtr, ↓s37_32_w, ↓r37_33_w, ↓s37_34_w, ↓s37_35_w, ↓s37_38_w, ↓r37_39_w, ↓s37_40_w, ↓s37_41_w, ↓r37_42_w, ↓s37_43_w, ↓s37_49_w, ↓r37_50_w, ↓s37_51_w, ↓s37_52_w, brK_true, brK_false, ne_eq, Nat.reduceEqDiff, not_false_eq_true, Bool.false_eq_true,  ↓g13, ↓g14, ↓i9, h1, w1, w2]))
        refine of_sub (K := K) (fun _ _ => rfl) (g := g) (v := v) (k := k) ⟨c1.2, hk.2⟩ q2 ?_ ?_ ?_ (hK _ q1 q3)
        · simp only [T.get_set]; simpa using h5
        · simp only [T.get_set]; simpa using h6
        · simp only [T.get_set]; simpa using h9
      · obtain ⟨q1, q2, q3, q4⟩ := x.norm (by rw [hL]; omega)
        rw [hL] at q1 q2 q3 q4
        obtain ⟨F, hF⟩ : ∃ F : Nat, (k + (L : Int) + 1022).toNat = F := ⟨_, rfl⟩
        have hF2 := kR hF (by omega)
        rw [hF] at q3 q4
        repeat' (first | done | with_reducible (first | refine y1 ?_ (by omega) | refine y2 ?_ (by omega) | refine y3 (fun _ => ?_) (fun _ => ?_) | refine y4 ?_ (by omega) (by omega) | refine y5 ?_ (by omega) | refine y6 ?_ (by with_unfolding_all rfl) | refine y7 ?_ (by with_unfolding_all rfl) | refine y8 ?_ (by with_unfolding_all rfl) | refine y9 ?_ (by with_unfolding_all rfl) | refine ya ?_ (by with_unfolding_all rfl)) | (simp -dsimp only [↓cw_skip, ↓cw_ops, ↓cw_seq, ↓cw_exit, ↓cw_cond, ↓seqK_normal, ↓seqK_exit, ↓blockK_same, ↓loopK_exit, ↓getK_same, ↓getK_ne, ↓evK_tmp, ↓evK_int, ↓condV_var, ↓gdV_var, ↓opsW_nil, ↓opsW_d, ↓opsW_gd, ↓opW_move, ↓opW_assign, ↓opW_pick, ↓opW_bin, ↓bin_add, ↓bin_sub, ↓bin_lss, ↓bin_gtr, ↓s37_32_w, ↓r37_33_w, ↓s37_34_w, ↓s37_35_w, ↓s37_38_w, ↓r37_39_w, ↓s37_40_w, ↓s37_41_w, ↓r37_42_w, ↓s37_43_w, ↓s37_49_w, ↓r37_50_w, ↓s37_51_w, ↓s37_52_w, brK_true, brK_false, ne_eq, Nat.reduceEqDiff, not_false_eq_true, Bool.false_eq_true,  ↓g13, ↓g14, ↓i9, h1, w1, w2]))
        refine of_norm (g := g) (v := v) (L := L) (F := F) (e := k + (L : Int)) (by omega) hF2 (by omega) q1 q2 ?_ ?_ ?_ ?_ (hK _ q3 q4)
        · simp only [T.get_set]; simpa using h5
        · simp only [T.get_set]; simpa using h6
        · simp only [T.get_set]; simpa using z13
        · simp [T.get_set]
    · have hx := hE fun x => c1 (hNum.2 x)
      unfold errT at hx
      have c3 : 1023 < k + (L : Int) ∨ k < -1074 := by omega
      by_cases c4 : 1023 < k + (L : Int)
      · repeat' (first | done | with_reducible (first | refine y1 ?_ (by omega) | refine y2 ?_ (by omega) | refine y3 (fun _ => ?_) (fun _ => ?_) | refine y4 ?_ (by omega) (by omega) | refine y5 ?_ (by omega) | refine y6 ?_ (by with_unfolding_all rfl) | refine y7 ?_ (by with_unfolding_all rfl) | refine y8 ?_ (by with_unfolding_all rfl) | refine y9 ?_ (by with_unfolding_all rfl) | refine ya ?_ (by with_unfolding_all rfl)) | (simp -dsimp only [↓cw_ops, ↓cw_seq, ↓cw_exit, ↓cw_ret, ↓cw_cond, ↓seqK_normal, ↓seqK_exit, ↓seqK_ret, ↓blockK_same, ↓loopK_exit, ↓getK_same, ↓getK_ne, ↓evK_tmp, ↓evK_int, ↓evK_bool, ↓evK_float, ↓condV_var, ↓gdV_var, ↓opsW_nil, ↓opsW_d, ↓opsW_gd, ↓opW_move, ↓opW_assign, ↓opW_pick, ↓opW_bin, ↓bin_add, ↓bin_sub, ↓bin_gtr, ↓resK_two, ↓r37_36_w, ↓s37_37_w, ↓s37_38_w, ↓r37_39_w, ↓s37_40_w, ↓s37_41_w, ↓r37_42_w, ↓s37_43_w, ↓s37_49_w, ↓r37_50_w, ↓s37_51_w, ↓s37_52_w, brK_true, brK_false, ne_eq, Nat.reduceEqDiff, not_false_eq_true, Bool.true_eq_false, Bool.false_eq_true,  ↓g13, ↓g14, ↓i9, h1, w1, w2]))
        exact hx
      · repeat' (first | done | with_reducible (first | refine y1 ?_ (by omega) | refine y2 ?_ (by omega) | refine y3 (fun _ => ?_) (fun _ => ?_) | refine y4 ?_ (by omega) (by omega) | refine y5 ?_ (by omega) | refine y6 ?_ (by with_unfolding_all rfl) | refine y7 ?_ (by with_unfolding_all rfl) | refine y8 ?_ (by with_unfolding_all rfl) | refine y9 ?_ (by with_unfolding_all rfl) | refine ya ?_ (by with_unfolding_all rfl)) | (simp -dsimp only [↓cw_ops, ↓cw_seq, ↓cw_exit, ↓cw_ret, ↓cw_cond, ↓seqK_normal, ↓seqK_exit, ↓seqK_ret, ↓blockK_same, ↓loopK_exit, ↓getK_same, ↓getK_ne, ↓evK_tmp, ↓evK_int, ↓evK_float, ↓condV_var, ↓gdV_var, ↓opsW_nil, ↓opsW_d, ↓opsW_gd, ↓opW_move, ↓opW_assign, ↓opW_pick, ↓opW_bin, ↓bin_add, ↓bin_sub, ↓bin_lss, ↓bin_gtr, ↓resK_two, ↓r37_36_w, ↓s37_37_w, ↓s37_38_w, ↓r37_39_w, ↓s37_40_w, ↓s37_41_w, ↓r37_42_w, ↓s37_43_w, ↓s37_49_w, ↓r37_50_w, ↓s37_51_w, ↓s37_52_w, brK_true, brK_false, ne_eq, Nat.reduceEqDiff, not_false_eq_true, Bool.false_eq_true,  ↓g13, ↓g14, ↓i9, h1, w1, w2]))
        exact hx
end Go.Proofs.YtjcmcoabckkjoaaDoor.Li

