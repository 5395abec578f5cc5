/- Rows in blocks; numbers' places; comparing. -/
import Derived.Test.YtjcmcoabckkjoaaDoorOP
import Derived.Test.YtjcmcoabckkjoaaDoorOA
set_option linter.unusedSimpArgs false
set_option linter.unusedVariables false
namespace Go.Proofs.YtjcmcoabckkjoaaDoor.Or
open Go.Ev
set_option maxRecDepth 100000
set_option maxHeartbeats 400000
theorem nan_fl {n : Nat} {h : Heap} {K : Value → Heap → Prop} (hn : n < 18446744073709551616) (hK : K (.bool (isNan n)) h) : Ret env (.func 19) [.float .f64 n] h K := by
  refine Ret.ext (v := .bool (isNan n)) ?_ hK
  show extNan 19 (extFl 18 10 fun _ _ _ => none) 19 [.float .f64 n] h = _
  have : Nat.blt n 18446744073709551616 = true := by rw [blt_eq]; exact decide_eq_true hn
  simp only [extNan, Nat.beq_refl, cond_true, this]
theorem nan_no {h : Heap} {K : Value → Heap → Prop} (hK : K (.bool true) h) : Ret env (.func 19) [.chan none] h K := Ret.ext (v := .bool true) rfl hK
theorem bits_fl {n : Nat} {h : Heap} {K : Value → Heap → Prop} (hK : K (.int .u64 n) h) : Ret env (.func 18) [.float .f64 n] h K := Ret.ext (v := .int .u64 n) rfl hK
theorem from_u {n : Int} {h : Heap} {K : Value → Heap → Prop} (hK : K (.float .f64 n.toNat) h) : Ret env (.func 10) [.int .u64 n] h K := Ret.ext (v := .float .f64 n.toNat) rfl hK
section
variable {E : Env} {fr : Fr} {h : Heap} {K : Value → Heap → Prop} {x : Operand} {t : TypeId}
def clrK (E : Env) (t : TypeId) (v : Value) (h : Heap) (K : Value → Heap → Prop) [Tok K] : Prop := match aclear E [t] [v] h with
  | some (u, h') => K u h'
  | none => False
theorem opW_clear : opW E (.call ⟨.builtin .clear, ⟨[x]⟩, ⟨[t]⟩⟩) fr h K = evK E fr x fun v => clrK E t v h K := by
  simp only [opW, opBy, operOf, kindOf, actOp, evs, mapOpt, evK, onV, clrK]
  cases ev E fr x with
  | none => simp [onR]
  | some a =>
    simp only [Option.some.injEq, exists_eq_left']
    generalize aclear E [t] [a] h = r
    cases r with
    | none => simp [onR]
    | some p => obtain ⟨u, h'⟩ := p; simp [onR_some]
end
/-! a row of numbers' bits -/
def rowL (f : Nat → Nat) (N : Nat) : List Value := (List.range N).map fun k => .float .f64 (f k)
theorem rowL_len (f : Nat → Nat) (N : Nat) : (rowL f N).length = N := by simp [rowL]
theorem rowL_get {f : Nat → Nat} {N k : Nat} (hk : k < N) : (rowL f N)[k]? = some (.float .f64 (f k)) := by
  rw [rowL, List.getElem?_map, List.getElem?_range hk]; rfl
theorem rowL_congr {f g : Nat → Nat} {N : Nat} (h : ∀ k, k < N → f k = g k) : rowL f N = rowL g N := by
  unfold rowL
  apply List.map_congr_left
  intro k hk
  rw [h k (List.mem_range.1 hk)]
def put (f : Nat → Nat) (i v : Nat) : Nat → Nat := fun k => if k = i then v else f k
theorem rowL_over {f : Nat → Nat} {N i v : Nat} (hi : i < N) : over (rowL f N) i [.float .f64 v] = some (rowL (put f i v) N) := by
  have h1 : rowL f N = (rowL f N).take i ++ [.float .f64 (f i)] ++ (rowL f N).drop (i + 1) := by
    have e := List.take_append_drop i (rowL f N)
    rw [List.append_assoc]
    conv => lhs; rw [← e]
    congr 1
    rw [List.drop_eq_getElem_cons (by rw [rowL_len]; exact hi)]
    simp [rowL]
  have h2 : rowL (put f i v) N = (rowL f N).take i ++ [.float .f64 v] ++ (rowL f N).drop (i + 1) := by
    apply List.ext_getElem?
    intro k
    have hl : ((rowL f N).take i).length = i := by rw [List.length_take, rowL_len]; omega
    rw [List.append_assoc]
    by_cases k1 : k < i
    · rw [List.getElem?_append_left (by omega), List.getElem?_take_of_lt k1, rowL_get (by omega), rowL_get (by omega)]
      unfold put; rw [if_neg (by omega)]
    · rw [List.getElem?_append_right (by omega), hl]
      by_cases k2 : k = i
      · subst k2
        rw [Nat.sub_self, rowL_get hi]; unfold put; rw [if_pos rfl]; rfl
      · rw [List.getElem?_append_right (by simp; omega), List.getElem?_drop]
        simp only [List.length_cons, List.length_nil]
        rw [show i + 1 + (k - i - (0 + 1)) = k by omega]
        by_cases k3 : k < N
        · rw [rowL_get k3, rowL_get k3]; unfold put; rw [if_neg k2]
        · rw [List.getElem?_eq_none (by rw [rowL_len]; omega), List.getElem?_eq_none (by rw [rowL_len]; omega)]
  have h3 := over_mid [Value.float .f64 v] ((rowL f N).take i) [.float .f64 (f i)] ((rowL f N).drop (i + 1)) rfl
  rw [← List.append_assoc, ← List.append_assoc, ← h1, ← h2] at h3
  rw [List.length_take, rowL_len, Nat.min_eq_left (by omega)] at h3
  exact h3
/-- what a row's own block holds, of a heap that is otherwise as it was -/
structure Up (h0 h : Heap) (i : Nat) (f : Nat → Nat) (N : Nat) : Prop where
  n : h.n = h0.n
  lt : i < h0.n
  g : h.b.get i = some (.cells (rowL f N) 27 false)
  o : ∀ j, j ≠ i → h.b.get j = h0.b.get j
theorem Up.start {h : Heap} {i N : Nat} {f : Nat → Nat} (hi : i < h.n) (hg : h.b.get i = some (.cells (rowL f N) 27 false)) : Up h h i f N := ⟨rfl, hi, hg, fun _ _ => rfl⟩
theorem Up.trans {h0 h h' : Heap} {i N : Nat} {f g : Nat → Nat} (u : Up h0 h i f N) (u' : Up h h' i g N) : Up h0 h' i g N := ⟨u'.n.trans u.n, u.lt, u'.g, fun j hj => (u'.o j hj).trans (u.o j hj)⟩
theorem Up.cell {h0 h : Heap} {i N k : Nat} {f : Nat → Nat} (u : Up h0 h i f N) (hk : k < N) : cellAt h ⟨i, k, none⟩ = some (.float .f64 (f k)) :=
  cellAt_blk (by rw [u.n]; exact u.lt) u.g (rowL_get hk)
theorem Up.congr {h0 h : Heap} {i N : Nat} {f g : Nat → Nat} (u : Up h0 h i f N) (e : ∀ k, k < N → f k = g k) : Up h0 h i g N := ⟨u.n, u.lt, by rw [u.g, rowL_congr e], u.o⟩
theorem Up.put {h0 h : Heap} {i N k v : Nat} {f : Nat → Nat} {K : Value → Heap → Prop} (u : Up h0 h i f N) (hk : k < N) (q : ∀ h', Up h0 h' i (Or.put f k v) N → K undef h') : stK 1 (.pointer (some ⟨i, k, none⟩)) (.float .f64 v) h K :=
  st_at u.g rfl rfl (rowL_over hk) rfl (by decide) (q _ ⟨u.n, u.lt, by simp [T.get_set], fun j hj => by rw [T.get_set_ne _ _ (Ne.symm hj)]; exact u.o j hj⟩)
theorem put_swap (f : Nat → Nat) (i j : Nat) : put (put f i (f j)) j (f i) = sw f i j := by
  funext k; unfold put sw
  by_cases h1 : k = j
  · by_cases h2 : k = i
    · subst h1; rw [if_pos rfl, if_pos h2, h2]
    · rw [if_pos h1, if_neg h2, if_pos h1]
  · rw [if_neg h1]
    by_cases h2 : k = i
    · rw [if_pos h2, if_pos h2]
    · rw [if_neg h2, if_neg h2, if_neg h1]
end Go.Proofs.YtjcmcoabckkjoaaDoor.Or

namespace Go.Proofs.YtjcmcoabckkjoaaDoor.Or
open Go.Ev
set_option maxRecDepth 100000
set_option maxHeartbeats 400000
theorem isNaN_ret {n : Nat} {h : Heap} {K : Value → Heap → Prop} (hn : n < 18446744073709551616) (hK : K (.bool (isNan n)) h) : Ret env (.func 63) [.float .f64 n] h K := by
  refine F63 rfl ?_
  have e : (Ieee.double.order n n != some .eq) = isNan n := by
    rw [ord_self hn]
    cases isNan n <;> rfl
  repeat' (first | done | with_reducible (first | refine y1 ?_ (by omega) | refine y2 ?_ (by omega) | refine y3 (fun _ => ?_) (fun _ => ?_) | refine y4 ?_ (by omega) (by omega) | refine y5 ?_ (by omega) | refine y6 ?_ (by with_unfolding_all rfl) | refine y7 ?_ (by with_unfolding_all rfl) | refine y8 ?_ (by with_unfolding_all rfl) | refine y9 ?_ (by with_unfolding_all rfl) | refine ya ?_ (by with_unfolding_all rfl)) | ((with_reducible refine And.intro ?_ ?_); (· omega)) | (simp -dsimp only [↓cw_ops, ↓cw_seq, ↓cw_ret, ↓seqK_normal, ↓getK_same, ↓getK_ne, ↓evK_tmp, ↓evK_bool, ↓opsW_nil, ↓opsW_d, ↓opW_move, ↓opW_assign, ↓opW_bin, ↓resK_one, ↓setAll_cons, ↓setAll_nil, ↓r63_0_w, ↓s63_1_w, ↓r63_2_w, ↓s63_3_w, ne_eq, Nat.reduceEqDiff, not_false_eq_true, bin_neqF, e]))
  exact hK
theorem fdiv_pow (m t : Nat) (ht : t < 64) : ((m : Nat) : Int).fdiv (2 ^ min ((t : Nat) : Int).toNat IntKind.u64.bits) = ((m / 2 ^ t : Nat) : Int) := by
  have : min ((t : Nat) : Int).toNat IntKind.u64.bits = t := by
    rw [Int.toNat_natCast]; exact Nat.min_eq_left (by show t ≤ 64; omega)
  rw [this, Int.fdiv_eq_ediv_of_nonneg _ (by exact_mod_cast Nat.zero_le _)]
  norm_cast
theorem compl64 {n : Nat} (hn : n < 18446744073709551616) : IntKind.wrap .u64 ((BitVec.ofInt IntKind.u64.bits (if IntKind.u64.signed then -1 else IntKind.u64.max) ^^^ BitVec.ofInt IntKind.u64.bits (n : Int)).toNat : Int) = ((18446744073709551615 - n : Nat) : Int) := by
  have h1 : (BitVec.ofInt IntKind.u64.bits (if IntKind.u64.signed then -1 else IntKind.u64.max) ^^^ BitVec.ofInt IntKind.u64.bits (n : Int)).toNat = 18446744073709551615 - n := by
    have e0 : (if IntKind.u64.signed = true then (-1 : Int) else IntKind.u64.max) = 18446744073709551615 := by decide
    rw [e0]
    show (BitVec.ofInt 64 18446744073709551615 ^^^ BitVec.ofInt 64 (n : Int)).toNat = _
    rw [show BitVec.ofInt 64 18446744073709551615 = BitVec.allOnes 64 by decide, BitVec.allOnes_xor, BitVec.toNat_not, BitVec.ofInt_natCast, BitVec.toNat_ofNat, Nat.mod_eq_of_lt (by omega)]
  rw [h1]; exact wrap_u64 (by omega) (by omega)
theorem or63 {n : Nat} (hn : n < 9223372036854775808) : IntKind.wrap .u64 ((BitVec.ofInt IntKind.u64.bits (n : Int) ||| BitVec.ofInt IntKind.u64.bits 9223372036854775808).toNat : Int) = ((n + 9223372036854775808 : Nat) : Int) := by
  have h1 : (BitVec.ofInt IntKind.u64.bits (n : Int) ||| BitVec.ofInt IntKind.u64.bits 9223372036854775808).toNat = n + 9223372036854775808 := by
    show (BitVec.ofInt 64 (n : Int) ||| BitVec.ofInt 64 ((9223372036854775808 : Nat) : Int)).toNat = _
    rw [BitVec.toNat_or, BitVec.ofInt_natCast, BitVec.ofInt_natCast, BitVec.toNat_ofNat, BitVec.toNat_ofNat, Nat.mod_eq_of_lt (by omega), Nat.mod_eq_of_lt (by omega), Nat.or_comm]
    have := Nat.shiftLeft_add_eq_or_of_lt (i := 63) (show n < 2 ^ 63 from hn) 1
    rw [Nat.shiftLeft_eq, show (1 : Nat) * 2 ^ 63 = 9223372036854775808 from rfl] at this
    omega
  rw [h1]; exact wrap_u64 (by omega) (by omega)
theorem key_ret {n : Nat} {h : Heap} {K : Value → Heap → Prop} (hn : n < 18446744073709551616) (hK : K (.int .u64 (keyN n : Nat)) h) : Ret env (.func 47) [.float .f64 n] h K := by
  refine F47 rfl ?_
  repeat' (first | done | with_reducible (first | refine y1 ?_ (by omega) | refine y2 ?_ (by omega) | refine y3 (fun _ => ?_) (fun _ => ?_) | refine y4 ?_ (by omega) (by omega) | refine y5 ?_ (by omega) | refine y6 ?_ (by with_unfolding_all rfl) | refine y7 ?_ (by with_unfolding_all rfl) | refine y8 ?_ (by with_unfolding_all rfl) | refine y9 ?_ (by with_unfolding_all rfl) | refine ya ?_ (by with_unfolding_all rfl)) | ((with_reducible refine And.intro ?_ ?_); (· omega)) | (simp -dsimp only [↓cw_ops, ↓cw_seq, ↓seqK_normal, ↓getK_same, ↓getK_ne, ↓evK_tmp, ↓evK_int, ↓opsW_nil, ↓opsW_d, ↓opW_move, ↓opW_assign, ↓evs_nil, ↓evs_cons, ↓opW_call, ↓setAll_cons, ↓setAll_nil, ↓r47_13_w, ↓s47_14_w, ↓r47_15_w, ↓s47_16_w, ne_eq, Nat.reduceEqDiff, not_false_eq_true]))
  refine bits_fl ?_
  repeat' (first | done | with_reducible (first | refine y1 ?_ (by omega) | refine y2 ?_ (by omega) | refine y3 (fun _ => ?_) (fun _ => ?_) | refine y4 ?_ (by omega) (by omega) | refine y5 ?_ (by omega) | refine y6 ?_ (by with_unfolding_all rfl) | refine y7 ?_ (by with_unfolding_all rfl) | refine y8 ?_ (by with_unfolding_all rfl) | refine y9 ?_ (by with_unfolding_all rfl) | refine ya ?_ (by with_unfolding_all rfl)) | ((with_reducible refine And.intro ?_ ?_); (· omega)) | (simp -dsimp only [↓cw_ops, ↓cw_seq, ↓cw_block, ↓seqK_normal, ↓getK_same, ↓getK_ne, ↓evK_tmp, ↓opsW_nil, ↓opsW_d, ↓opW_move, ↓opW_assign, ↓evs_nil, ↓evs_cons, ↓opW_call, ↓setAll_cons, ↓setAll_nil, ↓r47_10_w, ↓s47_11_w, ↓s47_12_w, ne_eq, Nat.reduceEqDiff, not_false_eq_true]))
  refine isNaN_ret hn ?_
  unfold keyN at hK
  have e63 : (n : Int).fdiv (2 ^ min (63 : Int).toNat IntKind.u64.bits) = ((n / 9223372036854775808 : Nat) : Int) := fdiv_pow n 63 (by decide)
  cases hb : isNan n with
  | true =>
    rw [hb, if_pos rfl] at hK
    repeat' (first | done | with_reducible (first | refine y1 ?_ (by omega) | refine y2 ?_ (by omega) | refine y3 (fun _ => ?_) (fun _ => ?_) | refine y4 ?_ (by omega) (by omega) | refine y5 ?_ (by omega) | refine y6 ?_ (by with_unfolding_all rfl) | refine y7 ?_ (by with_unfolding_all rfl) | refine y8 ?_ (by with_unfolding_all rfl) | refine y9 ?_ (by with_unfolding_all rfl) | refine ya ?_ (by with_unfolding_all rfl)) | ((with_reducible refine And.intro ?_ ?_); (· omega)) | (simp -dsimp only [↓cw_ops, ↓cw_seq, ↓cw_ret, ↓cw_cond, ↓seqK_normal, ↓seqK_ret, ↓blockK_ret, ↓getK_same, ↓evK_tmp, ↓evK_int, ↓condV_var, ↓opsW_nil, ↓opsW_d, ↓opW_assign, ↓resK_one, ↓r47_2_w, ↓s47_3_w, ↓s47_9_w, brK_true]))
    exact hK
  | false =>
    rw [hb, if_neg (by decide)] at hK
    by_cases h63 : 9223372036854775808 ≤ n
    · rw [if_pos h63] at hK
      have e1 : ((n / 9223372036854775808 : Nat) : Int) = 1 := by omega
      have e2 := compl64 hn
      repeat' (first | done | with_reducible (first | refine y1 ?_ (by omega) | refine y2 ?_ (by omega) | refine y3 (fun _ => ?_) (fun _ => ?_) | refine y4 ?_ (by omega) (by omega) | refine y5 ?_ (by omega) | refine y6 ?_ (by with_unfolding_all rfl) | refine y7 ?_ (by with_unfolding_all rfl) | refine y8 ?_ (by with_unfolding_all rfl) | refine y9 ?_ (by with_unfolding_all rfl) | refine ya ?_ (by with_unfolding_all rfl)) | ((with_reducible refine And.intro ?_ ?_); (· omega)) | (simp -dsimp only [↓cw_ops, ↓cw_seq, ↓cw_ret, ↓cw_cond, ↓seqK_normal, ↓seqK_ret, ↓blockK_ret, ↓getK_same, ↓getK_ne, ↓evK_tmp, ↓evK_int, ↓condV_var, ↓opsW_nil, ↓opsW_d, ↓opW_move, ↓opW_assign, ↓opW_bin, ↓bin_shr, ↓bin_eql, ↓resK_one, ↓opW_un, ↓r47_4_w, ↓s47_5_w, ↓s47_6_w, ↓r47_7_w, ↓s47_8_w, ↓s47_9_w, brK_true, brK_false, ne_eq, Nat.reduceEqDiff, not_false_eq_true, Bool.false_eq_true,  e63, e1, un_xor]))
      rw [e2]
      exact hK
    · rw [if_neg h63] at hK
      have e1 : ¬ ((n / 9223372036854775808 : Nat) : Int) = 1 := by omega
      have e2 := or63 (n := n) (by omega)
      repeat' (first | done | with_reducible (first | refine y1 ?_ (by omega) | refine y2 ?_ (by omega) | refine y3 (fun _ => ?_) (fun _ => ?_) | refine y4 ?_ (by omega) (by omega) | refine y5 ?_ (by omega) | refine y6 ?_ (by with_unfolding_all rfl) | refine y7 ?_ (by with_unfolding_all rfl) | refine y8 ?_ (by with_unfolding_all rfl) | refine y9 ?_ (by with_unfolding_all rfl) | refine ya ?_ (by with_unfolding_all rfl)) | ((with_reducible refine And.intro ?_ ?_); (· omega)) | (simp -dsimp only [↓cw_skip, ↓cw_ops, ↓cw_seq, ↓cw_ret, ↓cw_cond, ↓seqK_normal, ↓blockK_normal, ↓getK_same, ↓getK_ne, ↓evK_tmp, ↓evK_int, ↓condV_var, ↓opsW_nil, ↓opsW_d, ↓opW_move, ↓opW_assign, ↓opW_bin, ↓bin_shr, ↓bin_eql, ↓resK_one, ↓r47_0_w, ↓s47_1_w, ↓s47_6_w, ↓r47_7_w, ↓s47_8_w, ↓s47_9_w, brK_false, ne_eq, Nat.reduceEqDiff, not_false_eq_true, Bool.false_eq_true,  e63, e1, bin_or]))
      rw [e2]
      exact hK
def cmpN (a b : Nat) : Int := if keyN a < keyN b then -1 else if keyN b < keyN a then 1 else 0
theorem isn_ret {a : Nat} {h : Heap} {K : Value → Heap → Prop} (hK : K (.bool false) h) : Ret env (.func 65) [.int .u64 (a : Nat)] h K := by
  refine F65 rfl ?_
  repeat' (first | done | with_reducible (first | refine y1 ?_ (by omega) | refine y2 ?_ (by omega) | refine y3 (fun _ => ?_) (fun _ => ?_) | refine y4 ?_ (by omega) (by omega) | refine y5 ?_ (by omega) | refine y6 ?_ (by with_unfolding_all rfl) | refine y7 ?_ (by with_unfolding_all rfl) | refine y8 ?_ (by with_unfolding_all rfl) | refine y9 ?_ (by with_unfolding_all rfl) | refine ya ?_ (by with_unfolding_all rfl)) | ((with_reducible refine And.intro ?_ ?_); (· omega)) | (simp -dsimp only [↓cw_ops, ↓cw_seq, ↓cw_ret, ↓seqK_normal, ↓getK_same, ↓getK_ne, ↓evK_tmp, ↓evK_bool, ↓opsW_nil, ↓opsW_d, ↓opW_move, ↓opW_assign, ↓opW_bin, ↓bin_neq, ↓resK_one, ↓setAll_cons, ↓setAll_nil, ↓r65_0_w, ↓s65_1_w, ↓r65_2_w, ↓s65_3_w, brK_true, ne_eq, Nat.reduceEqDiff, not_false_eq_true]))
  exact hK
theorem compare_ret {a b : Nat} {h : Heap} {K : Value → Heap → Prop} (hK : K (.int .i64 (if a < b then -1 else if b < a then 1 else 0)) h) : Ret env (.func 46) [.int .u64 (a : Nat), .int .u64 (b : Nat)] h K := by
  refine F46 rfl ?_
  repeat' (first | done | with_reducible (first | refine y1 ?_ (by omega) | refine y2 ?_ (by omega) | refine y3 (fun _ => ?_) (fun _ => ?_) | refine y4 ?_ (by omega) (by omega) | refine y5 ?_ (by omega) | refine y6 ?_ (by with_unfolding_all rfl) | refine y7 ?_ (by with_unfolding_all rfl) | refine y8 ?_ (by with_unfolding_all rfl) | refine y9 ?_ (by with_unfolding_all rfl) | refine ya ?_ (by with_unfolding_all rfl)) | ((with_reducible refine And.intro ?_ ?_); (· omega)) | (simp -dsimp only [↓cw_ops, ↓cw_seq, ↓seqK_normal, ↓getK_same, ↓getK_ne, ↓evK_tmp, ↓evK_int, ↓opsW_nil, ↓opsW_d, ↓opW_move, ↓opW_assign, ↓evs_nil, ↓evs_cons, ↓opW_call, ↓setAll_cons, ↓setAll_nil, ↓r46_34_w, ↓s46_35_w, ↓r46_36_w, ↓s46_37_w, ne_eq, Nat.reduceEqDiff, Nat.reduceAdd, not_false_eq_true, Nat.one_ne_zero]))
  refine isn_ret ?_
  repeat' (first | done | with_reducible (first | refine y1 ?_ (by omega) | refine y2 ?_ (by omega) | refine y3 (fun _ => ?_) (fun _ => ?_) | refine y4 ?_ (by omega) (by omega) | refine y5 ?_ (by omega) | refine y6 ?_ (by with_unfolding_all rfl) | refine y7 ?_ (by with_unfolding_all rfl) | refine y8 ?_ (by with_unfolding_all rfl) | refine y9 ?_ (by with_unfolding_all rfl) | refine ya ?_ (by with_unfolding_all rfl)) | ((with_reducible refine And.intro ?_ ?_); (· omega)) | (simp -dsimp only [↓cw_ops, ↓cw_seq, ↓seqK_normal, ↓getK_same, ↓getK_ne, ↓evK_tmp, ↓opsW_nil, ↓opsW_d, ↓opW_move, ↓opW_assign, ↓evs_nil, ↓evs_cons, ↓opW_call, ↓setAll_cons, ↓setAll_nil, ↓r46_32_w, ↓s46_33_w, ne_eq, Nat.reduceEqDiff, Nat.reduceAdd, not_false_eq_true]))
  refine isn_ret ?_
  by_cases h1 : a < b
  · rw [if_pos h1] at hK
    have c1 : (a : Int) < (b : Int) := by omega
    repeat' (first | done | with_reducible (first | refine y1 ?_ (by omega) | refine y2 ?_ (by omega) | refine y3 (fun _ => ?_) (fun _ => ?_) | refine y4 ?_ (by omega) (by omega) | refine y5 ?_ (by omega) | refine y6 ?_ (by with_unfolding_all rfl) | refine y7 ?_ (by with_unfolding_all rfl) | refine y8 ?_ (by with_unfolding_all rfl) | refine y9 ?_ (by with_unfolding_all rfl) | refine ya ?_ (by with_unfolding_all rfl)) | ((with_reducible refine And.intro ?_ ?_); (· omega)) | (simp -dsimp only [↓cw_skip, ↓cw_ops, ↓cw_seq, ↓cw_ret, ↓cw_cond, ↓seqK_normal, ↓seqK_ret, ↓getK_same, ↓getK_ne, ↓evK_tmp, ↓evK_int, ↓condV_var, ↓opsW_nil, ↓opsW_d, ↓opW_move, ↓opW_assign, ↓opW_bin, ↓bin_lss, ↓resK_one, ↓setAll_cons, ↓setAll_nil, ↓r46_8_w, ↓s46_9_w, ↓s46_10_w, ↓r46_11_w, ↓s46_12_w, ↓s46_13_w, ↓s46_16_w, ↓r46_17_w, ↓s46_18_w, ↓s46_19_w, ↓s46_28_w, ↓r46_29_w, ↓s46_30_w, ↓s46_31_w, brK_true, brK_false, ne_eq, Nat.reduceEqDiff, Nat.reduceAdd, not_false_eq_true, Nat.one_ne_zero, Bool.false_eq_true,  c1]))
    exact hK
  · rw [if_neg h1] at hK
    have c1 : ¬ (a : Int) < (b : Int) := by omega
    by_cases h2 : b < a
    · rw [if_pos h2] at hK
      have c2 : (b : Int) < (a : Int) := by omega
      repeat' (first | done | with_reducible (first | refine y1 ?_ (by omega) | refine y2 ?_ (by omega) | refine y3 (fun _ => ?_) (fun _ => ?_) | refine y4 ?_ (by omega) (by omega) | refine y5 ?_ (by omega) | refine y6 ?_ (by with_unfolding_all rfl) | refine y7 ?_ (by with_unfolding_all rfl) | refine y8 ?_ (by with_unfolding_all rfl) | refine y9 ?_ (by with_unfolding_all rfl) | refine ya ?_ (by with_unfolding_all rfl)) | ((with_reducible refine And.intro ?_ ?_); (· omega)) | (simp -dsimp only [↓cw_skip, ↓cw_ops, ↓cw_seq, ↓cw_ret, ↓cw_cond, ↓seqK_normal, ↓seqK_ret, ↓getK_same, ↓getK_ne, ↓evK_tmp, ↓evK_int, ↓condV_var, ↓opsW_nil, ↓opsW_d, ↓opW_move, ↓opW_assign, ↓opW_bin, ↓bin_lss, ↓bin_gtr, ↓resK_one, ↓setAll_cons, ↓setAll_nil, ↓r46_2_w, ↓s46_3_w, ↓s46_4_w, ↓r46_5_w, ↓s46_6_w, ↓s46_7_w, ↓s46_10_w, ↓r46_11_w, ↓s46_12_w, ↓s46_13_w, ↓s46_16_w, ↓r46_17_w, ↓s46_18_w, ↓s46_19_w, ↓s46_28_w, ↓r46_29_w, ↓s46_30_w, ↓s46_31_w, brK_true, brK_false, ne_eq, Nat.reduceEqDiff, Nat.reduceAdd, not_false_eq_true, Nat.one_ne_zero, Bool.false_eq_true,  c1, c2]))
      exact hK
    · rw [if_neg h2] at hK
      have c2 : ¬ (b : Int) < (a : Int) := by omega
      repeat' (first | done | with_reducible (first | refine y1 ?_ (by omega) | refine y2 ?_ (by omega) | refine y3 (fun _ => ?_) (fun _ => ?_) | refine y4 ?_ (by omega) (by omega) | refine y5 ?_ (by omega) | refine y6 ?_ (by with_unfolding_all rfl) | refine y7 ?_ (by with_unfolding_all rfl) | refine y8 ?_ (by with_unfolding_all rfl) | refine y9 ?_ (by with_unfolding_all rfl) | refine ya ?_ (by with_unfolding_all rfl)) | ((with_reducible refine And.intro ?_ ?_); (· omega)) | (simp -dsimp only [↓cw_skip, ↓cw_ops, ↓cw_seq, ↓cw_ret, ↓cw_cond, ↓seqK_normal, ↓getK_same, ↓getK_ne, ↓evK_tmp, ↓evK_int, ↓condV_var, ↓opsW_nil, ↓opsW_d, ↓opW_move, ↓opW_assign, ↓opW_bin, ↓bin_lss, ↓bin_gtr, ↓resK_one, ↓setAll_cons, ↓setAll_nil, ↓r46_0_w, ↓s46_1_w, ↓s46_4_w, ↓r46_5_w, ↓s46_6_w, ↓s46_7_w, ↓s46_10_w, ↓r46_11_w, ↓s46_12_w, ↓s46_13_w, ↓s46_16_w, ↓r46_17_w, ↓s46_18_w, ↓s46_19_w, ↓s46_28_w, ↓r46_29_w, ↓s46_30_w, ↓s46_31_w, brK_false, ne_eq, Nat.reduceEqDiff, Nat.reduceAdd, not_false_eq_true, Nat.one_ne_zero, Bool.false_eq_true,  c1, c2]))
      exact hK
theorem cmp_ret {a b : Nat} {h : Heap} {K : Value → Heap → Prop} (ha : a < 18446744073709551616) (hb : b < 18446744073709551616) (hK : K (.int .i64 (cmpN a b)) h) : Ret env (.func 45) [.float .f64 a, .float .f64 b] h K := by
  refine F45 rfl ?_
  repeat' (first | done | with_reducible (first | refine y1 ?_ (by omega) | refine y2 ?_ (by omega) | refine y3 (fun _ => ?_) (fun _ => ?_) | refine y4 ?_ (by omega) (by omega) | refine y5 ?_ (by omega) | refine y6 ?_ (by with_unfolding_all rfl) | refine y7 ?_ (by with_unfolding_all rfl) | refine y8 ?_ (by with_unfolding_all rfl) | refine y9 ?_ (by with_unfolding_all rfl) | refine ya ?_ (by with_unfolding_all rfl)) | ((with_reducible refine And.intro ?_ ?_); (· omega)) | (simp -dsimp only [↓cw_ops, ↓cw_seq, ↓seqK_normal, ↓getK_same, ↓getK_ne, ↓evK_tmp, ↓evK_int, ↓opsW_nil, ↓opsW_d, ↓opW_move, ↓opW_assign, ↓evs_nil, ↓evs_cons, ↓opW_call, ↓setAll_cons, ↓setAll_nil, ↓r45_0_w, ↓s45_1_w, ↓r45_2_w, ↓s45_3_w, ne_eq, Nat.reduceEqDiff, Nat.reduceAdd, not_false_eq_true, Nat.one_ne_zero]))
  refine key_ret ha ?_
  repeat' (first | done | with_reducible (first | refine y1 ?_ (by omega) | refine y2 ?_ (by omega) | refine y3 (fun _ => ?_) (fun _ => ?_) | refine y4 ?_ (by omega) (by omega) | refine y5 ?_ (by omega) | refine y6 ?_ (by with_unfolding_all rfl) | refine y7 ?_ (by with_unfolding_all rfl) | refine y8 ?_ (by with_unfolding_all rfl) | refine y9 ?_ (by with_unfolding_all rfl) | refine ya ?_ (by with_unfolding_all rfl)) | ((with_reducible refine And.intro ?_ ?_); (· omega)) | (simp -dsimp only [↓getK_same, ↓getK_ne, ↓evK_tmp, ↓opsW_d, ↓opW_move, ↓evs_nil, ↓evs_cons, ↓opW_call, ↓setAll_cons, ↓setAll_nil, ne_eq, Nat.reduceEqDiff, Nat.reduceAdd, not_false_eq_true]))
  refine key_ret hb ?_
  repeat' (first | done | with_reducible (first | refine y1 ?_ (by omega) | refine y2 ?_ (by omega) | refine y3 (fun _ => ?_) (fun _ => ?_) | refine y4 ?_ (by omega) (by omega) | refine y5 ?_ (by omega) | refine y6 ?_ (by with_unfolding_all rfl) | refine y7 ?_ (by with_unfolding_all rfl) | refine y8 ?_ (by with_unfolding_all rfl) | refine y9 ?_ (by with_unfolding_all rfl) | refine ya ?_ (by with_unfolding_all rfl)) | ((with_reducible refine And.intro ?_ ?_); (· omega)) | (simp -dsimp only [↓getK_same, ↓getK_ne, ↓evK_tmp, ↓opsW_d, ↓evs_nil, ↓evs_cons, ↓opW_call, ne_eq, Nat.reduceEqDiff, not_false_eq_true]))
  refine compare_ret ?_
  repeat' (first | done | with_reducible (first | refine y1 ?_ (by omega) | refine y2 ?_ (by omega) | refine y3 (fun _ => ?_) (fun _ => ?_) | refine y4 ?_ (by omega) (by omega) | refine y5 ?_ (by omega) | refine y6 ?_ (by with_unfolding_all rfl) | refine y7 ?_ (by with_unfolding_all rfl) | refine y8 ?_ (by with_unfolding_all rfl) | refine y9 ?_ (by with_unfolding_all rfl) | refine ya ?_ (by with_unfolding_all rfl)) | ((with_reducible refine And.intro ?_ ?_); (· omega)) | (simp -dsimp only [↓cw_ret, ↓seqK_normal, ↓getK_same, ↓evK_tmp, ↓opsW_nil, ↓opsW_d, ↓opW_assign, ↓resK_one]))
  exact hK
theorem cmpN_lt {a b : Nat} : cmpN a b < 0 ↔ keyN a < keyN b := by
  unfold cmpN; split
  · omega
  · split <;> omega
def cmpV : Value := .func (.func 45) ⟨[]⟩ ⟨[]⟩
end Go.Proofs.YtjcmcoabckkjoaaDoor.Or

