/- Digits read. Conditions: each theorem's own. -/
import Derived.Test.YtjcmcoabckkjoaaDoorLT
set_option linter.unusedSimpArgs false
set_option linter.unusedVariables false
namespace Go.Proofs.YtjcmcoabckkjoaaDoor.Li
open Go.Ev
set_option maxRecDepth 100000
/-! digits read -/
theorem decFrom_append : ∀ (x y : List UInt8) (a : Nat), Lib.decFrom a (x ++ y) = (Lib.decFrom a x).bind fun m => Lib.decFrom m y
  | [], y, a => rfl
  | b :: x, y, a => by
    simp only [List.cons_append, Lib.decFrom]
    cases Lib.digitVal b with
    | none => rfl
    | some d => exact decFrom_append x y _
theorem decFrom_ge : ∀ (l : List UInt8) (a n : Nat), Lib.decFrom a l = some n → a ≤ n
  | [], a, n, h => by simp only [Lib.decFrom, Option.some.injEq] at h; omega
  | b :: l, a, n, h => by
    simp only [Lib.decFrom] at h
    cases hd : Lib.digitVal b with
    | none => rw [hd] at h; cases h
    | some d => rw [hd] at h; have := decFrom_ge l _ n h; omega
theorem decFrom_take_le {l : List UInt8} {k m n : Nat} (h : Lib.decFrom 0 l = some n) (hm : Lib.decFrom 0 (l.take k) = some m) : m ≤ n := by
  have := decFrom_append (l.take k) (l.drop k) 0
  rw [List.take_append_drop, hm, h, Option.bind_some] at this
  exact decFrom_ge _ _ _ this.symm
theorem decFrom_digits : ∀ (k u : Nat), u ≤ k → Lib.decFrom 0 (Lib.decDigits u) = some u := by
  intro k
  induction k with
  | zero =>
    intro u hu
    have : u = 0 := by omega
    subst this
    rw [dec_small (by decide)]; rfl
  | succ k ih =>
    intro u hu
    have dg : ∀ d : Nat, d < 10 → Lib.digitVal (UInt8.ofNat (48 + d)) = some d := by
      intro d hd
      have h3 : (UInt8.ofNat (48 + d)).toNat = 48 + d := by simp; omega
      unfold Lib.digitVal
      rw [h3, if_pos (by omega)]
      congr 1; omega
    by_cases h : u < 10
    · rw [dec_small h]
      simp only [Lib.decFrom, dg u h]
      congr 1; omega
    · rw [dec_big h, decFrom_append, ih (u / 10) (by omega), Option.bind_some]
      simp only [Lib.decFrom, dg (u % 10) (by omega)]
      congr 1; omega
theorem decNat_digits (u : Nat) : Lib.decNat (Lib.decDigits u) = some u := by
  unfold Lib.decNat
  have : Lib.decDigits u ≠ [] := by
    intro h
    have := congrArg List.length h
    rw [Lib.decDigits_length] at this
    by_cases h1 : u < 10
    · rw [Lib.nDigits_small h1] at this; simp at this
    · have h2 := dec_big h1; rw [h] at h2; simp at h2
  rw [if_neg (by simpa using this)]
  exact decFrom_digits u u (Nat.le_refl _)
theorem digits_ne (u : Nat) : Lib.decDigits u ≠ [] := fun h => by have := decNat_digits u; rw [h] at this; simp [Lib.decNat] at this
/-- each byte of a number's digits is one -/
theorem digits_byte {u : Nat} {b : UInt8} (h : b ∈ Lib.decDigits u) : 48 ≤ b.toNat ∧ b.toNat ≤ 57 := by
  obtain ⟨k, hk, e⟩ := List.getElem_of_mem h
  obtain ⟨d, hd⟩ := Lib.digit_of_decFrom _ _ _ (decFrom_digits u u (Nat.le_refl _)) k b (by rw [List.getElem?_eq_getElem hk, e])
  unfold Lib.digitVal at hd
  split at hd
  · assumption
  · cases hd
theorem atoi_itoa (k : Nat) : Lib.atoi (Lib.itoa (k : Int)) = some (k : Int) := by
  rw [Lib.itoa_nonneg]
  cases hl : Lib.decDigits k with
  | nil => exact absurd hl (digits_ne k)
  | cons b r =>
    have hb := digits_byte (u := k) (b := b) (by rw [hl]; exact List.mem_cons_self)
    unfold Lib.atoi
    have h1 : (b == 45) = false := by
      rw [beq_eq_false_iff_ne]; rintro rfl; revert hb; decide
    have h2 : (b == 43) = false := by
      rw [beq_eq_false_iff_ne]; rintro rfl; revert hb; decide
    dsimp only
    rw [h1, h2, ← hl, decNat_digits]; rfl
/-! finding -/
theorem index_nodigit : ∀ (l r sub : List UInt8) (c : UInt8), (∀ b ∈ l, b ≠ c) → Lib.index (l ++ (c :: sub) ++ r) (c :: sub) = l.length
  | [], r, sub, c, _ => by
    have : (c :: sub).isPrefixOf (c :: (sub ++ r)) = true := by
      rw [List.isPrefixOf_iff_prefix]; exact ⟨r, rfl⟩
    simp only [List.nil_append, List.cons_append, Lib.index, this, if_true]; rfl
  | b :: l, r, sub, c, h => by
    have hb : b ≠ c := h b List.mem_cons_self
    have := index_nodigit l r sub c fun x hx => h x (List.mem_cons_of_mem _ hx)
    have hp : (c :: sub).isPrefixOf (b :: (l ++ (c :: sub) ++ r)) = false := by
      rw [List.isPrefixOf, show (c == b) = false from by rw [beq_eq_false_iff_ne]; exact fun e => hb e.symm, Bool.false_and]
    rw [List.cons_append, List.cons_append, Lib.index, hp, if_neg (by decide), this, if_neg (by rw [beq_iff_eq]; omega)]
    simp
theorem index_none : ∀ (l sub : List UInt8) (c : UInt8), (∀ b ∈ l, b ≠ c) → Lib.index l (c :: sub) = -1
  | [], sub, c, _ => by simp [Lib.index]
  | b :: l, sub, c, h => by
    have hb : b ≠ c := h b List.mem_cons_self
    have := index_none l sub c fun x hx => h x (List.mem_cons_of_mem _ hx)
    have hp : (c :: sub).isPrefixOf (b :: l) = false := by
      rw [List.isPrefixOf, show (c == b) = false from by rw [beq_eq_false_iff_ne]; exact fun e => hb e.symm, Bool.false_and]
    rw [Lib.index, hp, if_neg (by decide), this]; rfl
theorem cut_at (l r sub : List UInt8) (c : UInt8) (h : ∀ b ∈ l, b ≠ c) : Lib.cut (l ++ (c :: sub) ++ r) (c :: sub) = (l, r, true) := by
  unfold Lib.cut
  rw [index_nodigit l r sub c h, if_pos (by omega)]
  simp [List.append_assoc]
theorem cut_no (l sub : List UInt8) (c : UInt8) (h : ∀ b ∈ l, b ≠ c) : Lib.cut l (c :: sub) = (l, [], false) := by
  unfold Lib.cut
  rw [index_none l sub c h, if_neg (by omega)]
end Go.Proofs.YtjcmcoabckkjoaaDoor.Li

namespace Go.Proofs.YtjcmcoabckkjoaaDoor.Li
open Go.Ev
set_option maxRecDepth 100000
set_option maxHeartbeats 400000
theorem conv987 : isSB env 9 87 = true := by kernel_rfl
/-- digits, read: of a number below 2^53 -/
theorem parseIn_ret {l : List UInt8} {u : Nat} {h : Heap} {K : Value → Heap → Prop} (hl : Lib.decFrom 0 l = some u) (hne : l ≠ []) (hn : l.length ≤ 100) (hu : u < 9007199254740992) (hK : ∀ h', ExtB h.n h h' → K (.tuple #[.int .u64 u, .nilIface]) h') :
    Ret env (.func 77) [.string ⟨l.toArray⟩, .int .i64 10, .int .i64 53] h K := by
  refine F77 rfl ?_
  have hs : ¬ ((⟨l.toArray⟩ : ByteArray) = ⟨⟨[]⟩⟩) := fun e => hne (by
    have := congrArg (fun b : ByteArray => b.data.toList) e
    simpa using this)
  have hlen : l.length ≠ 0 := fun e => hne (List.length_eq_zero_iff.1 e)
  have w53 : IntKind.u64.wrap 53 = 53 := rfl
  have wsh : IntKind.u64.wrap (1 * 2 ^ min (53 : Int).toNat IntKind.u64.bits) = 9007199254740992 := by decide
  have wmx : IntKind.u64.wrap (9007199254740992 - 1) = 9007199254740991 := by decide
  repeat' (first | done | ((with_reducible refine brK_yes ?_ ?_); (· omega)) | ((with_reducible refine brK_no ?_ ?_); (· omega)) | (with_reducible refine brK_both (fun _ => ?_) (fun _ => ?_)) | ((with_reducible refine And.intro (And.intro ?_ ?_) ?_); (· omega); (· omega)) | ((with_reducible refine And.intro ?_ ?_); (· omega)) | (with_reducible refine And.intro (show List.all _ oneCell = true from rfl) ?_) | ((with_reducible refine st_newM ?_ ?_); (· rfl)) | ((with_reducible refine bs_oneM ?_ ?_); (· rfl)) | (with_reducible refine bd_of (by with_unfolding_all (simp only [fillL_cons, fillL_nil, nth_eq, blt_eq, cond_beq, over, Value.cells, List.getElem?_cons_zero, List.getElem?_cons_succ, List.length_cons, List.length_nil, Nat.reduceAdd, Nat.reduceSub, Nat.reduceLT, Nat.reduceEqDiff, decide_true, cond_true, Option.map_some, if_true, if_false, Nat.add_one_sub_one, Nat.succ_ne_zero, reduceCtorEq, OfNat.ofNat]; rfl)) ?_) | (with_reducible refine bda_of (by with_unfolding_all rfl) ?_) | (simp -dsimp only [↓cw_skip, ↓cw_ops, ↓cw_seq, ↓cw_block, ↓cw_cond, ↓seqK_normal, ↓blockK_normal, ↓getK_same, ↓getK_ne, ↓evK_tmp, ↓evK_int, ↓evK_bool, ↓evK_string, ↓evK_nilIface, ↓condV_var, ↓gdV_var, ↓opsW_nil, ↓opsW_d, ↓opsW_gd, ↓opW_move, ↓opW_assign, ↓opW_pick, ↓opW_bin, ↓bin_sub, ↓bin_shl, ↓bin_eql, ↓bin_lss, ↓bin_leq, ↓bin_gtr, ↓lenS_some, ↓setAll_cons, ↓setAll_nil, ↓bin_eqlS, ↓cint_int, ↓cv_3_69, ↓len_87, ↓s77_61_w, ↓s77_62_w, ↓r77_63_w, ↓s77_64_w, ↓s77_65_w, ↓r77_66_w, ↓s77_67_w, ↓r77_68_w, ↓s77_69_w, ↓r77_70_w, ↓s77_71_w, ↓r77_72_w, ↓s77_73_w, ↓s77_81_w, ↓r77_82_w, ↓s77_83_w, ↓s77_84_w, ↓r77_85_w, ↓s77_86_w, ↓s77_87_w, ↓r77_88_w, ↓s77_89_w, ↓s77_94_w, ↓r77_95_w, ↓s77_96_w, ↓s77_97_w, ↓r77_98_w, ↓s77_99_w, ↓s77_100_w, ↓s77_137_w, ↓r77_138_w, ↓s77_139_w, ↓s77_140_w, ↓r77_141_w, ↓s77_142_w, ↓r77_143_w, ↓s77_144_w, ↓s77_147_w, ↓r77_148_w, ↓s77_149_w, ↓s77_150_w, ↓r77_151_w, ↓s77_152_w, brK_true, brK_false, ne_eq, Nat.reduceEqDiff, Nat.reduceAdd, not_false_eq_true, Nat.one_ne_zero, Bool.false_eq_true,  hs, ↓opW_sbytes conv987, sbK, str_size, w53, wsh, wmx]))
  have hn1 : (newBlk h (.ro fun j => nth (bytesV ⟨l.toArray⟩) j)).n = h.n + 1 := rfl
  have hb1 : (newBlk h (.ro fun j => nth (bytesV ⟨l.toArray⟩) j)).b.get h.n = some (.ro fun j => nth (bytesV ⟨l.toArray⟩) j) := newBlk_same _ _
  have X1 : ExtB h.n h (newBlk h (.ro fun j => nth (bytesV ⟨l.toArray⟩) j)) := ExtB.new _ (Nat.le_refl _)
  generalize newBlk h (.ro fun j => nth (bytesV ⟨l.toArray⟩) j) = h1 at hn1 hb1 X1 ⊢
  refine cw_loopI (fun n fr h' => h' = h1 ∧ ∃ k a : Nat, k ≤ l.length ∧ n = l.length - k ∧ fr.get 101 = some (.int .i64 k) ∧ fr.get 13 = some (.int .u64 a) ∧ fr.get 12 = some (.bool false) ∧ Lib.decFrom 0 (l.take k) = some a) l.length ?_ (by omega) ?_
  · exact ⟨rfl, 0, 0, by omega, by omega, by simp [T.get_set], by simp [T.get_set], by simp [T.get_set], rfl⟩
  rintro n fr h' ⟨rfl, k, a, hk, rfl, g101, g13, g12, ha⟩ hag
  have g101 := getK_of g101
  have g13 := getK_of g13
  have g12' := g12
  have g12 := getK_of g12
  have a1 := getK_eq (hag 1 rfl)
  have a8 := getK_eq (hag 8 rfl)
  have a10 := getK_eq (hag 10 rfl)
  have a11 := getK_eq (hag 11 rfl)
  have a99 := getK_eq (hag 99 rfl)
  have a100 := getK_eq (hag 100 rfl)
  have hau := decFrom_take_le hl ha
  by_cases hlt : k < l.length
  · obtain ⟨d, hd⟩ := Lib.digit_of_decFrom _ _ _ hl k l[k] (List.getElem?_eq_getElem hlt)
    have hs1 := Lib.decFrom_take l k 0 a l[k] d ha (List.getElem?_eq_getElem hlt) hd
    have hau1 := decFrom_take_le hl hs1
    have hd2 : 48 ≤ l[k].toNat ∧ l[k].toNat ≤ 57 ∧ d = l[k].toNat - 48 := by
      unfold Lib.digitVal at hd
      split at hd
      · rename_i hc; simp only [Option.some.injEq] at hd; exact ⟨hc.1, hc.2, hd.symm⟩
      · cases hd
    have cb := bytes_at (g := fun _ => none) hlt (show h.n < h'.n by omega) hb1
    have cb : cellAt h' ⟨h.n, 0 + k * 1, none⟩ = some (.int .u8 (l[k].toNat : Int)) := by rw [show 0 + k * 1 = k by omega]; exact cb
    have v1 : IntKind.u8.wrap ((l[k].toNat : Int) - 48) = (d : Int) := by rw [wrap_u8 (by omega) (by omega)]; omega
    have v2 : IntKind.u8.wrap 10 = 10 := by decide
    have v3 : IntKind.u64.wrap 10 = 10 := by decide
    have v4 : IntKind.u64.wrap ((a : Int) * 10) = ((a * 10 : Nat) : Int) := by rw [wrap_u64 (by omega) (by omega)]; omega
    have v5 : IntKind.u64.wrap (d : Int) = (d : Int) := wrap_u64 (by omega) (by omega)
    have v6 : IntKind.u64.wrap (((a * 10 : Nat) : Int) + (d : Int)) = ((a * 10 + d : Nat) : Int) := by rw [wrap_u64 (by omega) (by omega)]; omega
    generalize l[k].toNat = b at *
    repeat' (first | done | ((with_reducible refine brK_yes ?_ ?_); (· omega)) | ((with_reducible refine brK_no ?_ ?_); (· omega)) | (with_reducible refine brK_both (fun _ => ?_) (fun _ => ?_)) | ((with_reducible refine And.intro (And.intro ?_ ?_) ?_); (· omega); (· omega)) | ((with_reducible refine And.intro ?_ ?_); (· omega)) | (with_reducible refine And.intro (show List.all _ oneCell = true from rfl) ?_) | ((with_reducible refine st_newM ?_ ?_); (· rfl)) | ((with_reducible refine bs_oneM ?_ ?_); (· rfl)) | (with_reducible refine bd_of (by with_unfolding_all (simp only [fillL_cons, fillL_nil, nth_eq, blt_eq, cond_beq, over, Value.cells, List.getElem?_cons_zero, List.getElem?_cons_succ, List.length_cons, List.length_nil, Nat.reduceAdd, Nat.reduceSub, Nat.reduceLT, Nat.reduceEqDiff, decide_true, cond_true, Option.map_some, if_true, if_false, Nat.add_one_sub_one, Nat.succ_ne_zero, reduceCtorEq, OfNat.ofNat]; rfl)) ?_) | (with_reducible refine bda_of (by with_unfolding_all rfl) ?_) | (simp -dsimp only [↓cw_skip, ↓cw_ops, ↓cw_seq, ↓cw_block, ↓cw_cond, ↓seqK_normal, ↓blockK_normal, ↓loopK_normal, ↓getK_same, ↓getK_ne, ↓evK_tmp, ↓evK_int, ↓evK_bool, ↓condV_var, ↓gdV_var, ↓opsW_nil, ↓opsW_d, ↓opsW_gd, ↓opW_move, ↓opW_assign, ↓opW_pick, ↓opW_bin, ↓bin_add, ↓bin_sub, ↓bin_mul, ↓bin_eql, ↓bin_lss, ↓bin_leq, ↓bin_gtr, ↓bin_geq, ↓ld1_some, ↓idxS_some, ↓cint_int, ↓cv_3_23, ↓ia_87, ↓ld_5, ↓cv_3_5, ↓cv_5_23, ↓r77_8_w, ↓s77_9_w, ↓r77_10_w, ↓s77_11_w, ↓s77_14_w, ↓r77_15_w, ↓s77_16_w, ↓s77_17_w, ↓r77_18_w, ↓s77_19_w, ↓r77_20_w, ↓s77_21_w, ↓s77_24_w, ↓r77_25_w, ↓s77_26_w, ↓s77_27_w, ↓s77_30_w, ↓r77_31_w, ↓s77_32_w, ↓s77_33_w, ↓r77_36_w, ↓s77_37_w, ↓s77_45_w, ↓r77_46_w, ↓s77_47_w, ↓s77_48_w, ↓r77_49_w, ↓s77_50_w, ↓s77_51_w, ↓r77_52_w, ↓s77_53_w, ↓r77_54_w, ↓s77_55_w, ↓s77_56_w, ↓s77_57_w, ↓s77_58_w, ↓r77_59_w, ↓s77_60_w, onV_some', brK_true, brK_false, true_and, ne_eq, Nat.reduceEqDiff, not_false_eq_true, Addr.add_lit, Int.toNat_natCast, Bool.false_eq_true,  ↓g101, ↓g13, ↓a1, ↓a10, ↓a11, ↓a99, ↓a100, cb, v1, v2, v3, v4, v5, v6]))
    refine ⟨l.length - (k + 1), by omega, k + 1, a * 10 + d, by omega, rfl, ?_, ?_, ?_, hs1⟩
    · simp [T.get_set, wrap_succ (show k ≤ 4611686018427387904 by omega)]
    · simp [T.get_set]
    · simp only [T.get_set]; simpa using g12'
  · have e : k = l.length := by omega
    subst e
    rw [List.take_length, hl] at ha
    cases ha
    repeat' (first | done | ((with_reducible refine brK_yes ?_ ?_); (· omega)) | ((with_reducible refine brK_no ?_ ?_); (· omega)) | (with_reducible refine brK_both (fun _ => ?_) (fun _ => ?_)) | ((with_reducible refine And.intro (And.intro ?_ ?_) ?_); (· omega); (· omega)) | ((with_reducible refine And.intro ?_ ?_); (· omega)) | (with_reducible refine And.intro (show List.all _ oneCell = true from rfl) ?_) | ((with_reducible refine st_newM ?_ ?_); (· rfl)) | ((with_reducible refine bs_oneM ?_ ?_); (· rfl)) | (with_reducible refine bd_of (by with_unfolding_all (simp only [fillL_cons, fillL_nil, nth_eq, blt_eq, cond_beq, over, Value.cells, List.getElem?_cons_zero, List.getElem?_cons_succ, List.length_cons, List.length_nil, Nat.reduceAdd, Nat.reduceSub, Nat.reduceLT, Nat.reduceEqDiff, decide_true, cond_true, Option.map_some, if_true, if_false, Nat.add_one_sub_one, Nat.succ_ne_zero, reduceCtorEq, OfNat.ofNat]; rfl)) ?_) | (with_reducible refine bda_of (by with_unfolding_all rfl) ?_) | (simp -dsimp only [↓cw_skip, ↓cw_ops, ↓cw_seq, ↓cw_exit, ↓cw_ret, ↓cw_cond, ↓seqK_normal, ↓seqK_exit, ↓blockK_same, ↓loopK_exit, ↓getK_same, ↓getK_ne, ↓evK_tmp, ↓evK_bool, ↓evK_nilIface, ↓condV_var, ↓gdV_var, ↓opsW_nil, ↓opsW_d, ↓opsW_gd, ↓opW_move, ↓opW_assign, ↓opW_pick, ↓opW_bin, ↓bin_lss, ↓resK_two, ↓r77_0_w, ↓s77_1_w, ↓s77_4_w, ↓r77_5_w, ↓s77_6_w, ↓s77_7_w, ↓s77_57_w, ↓s77_58_w, ↓r77_59_w, ↓s77_60_w, brK_false, ne_eq, Nat.reduceEqDiff, not_false_eq_true, Bool.false_eq_true,  ↓g101, ↓g13, ↓g12, ↓a100]))
    exact hK h' X1
theorem abin_nil : abin env .neq 76 .nilIface .nilIface = some (.bool false) := by kernel_rfl
theorem bin_nil {x : Operand} {K : Value → Prop} : binK env .neq 76 (isConst x || isConst (.const .nilIface)) .nilIface .nilIface K = K (.bool false) := by
  simp only [binK, abin_nil, onV_some', isConst, Bool.or_true, true_and]
theorem parse_ret {l : List UInt8} {u : Nat} {h : Heap} {K : Value → Heap → Prop} (hl : Lib.decFrom 0 l = some u) (hne : l ≠ []) (hn : l.length ≤ 100) (hu : u < 9007199254740992) (hK : ∀ h', ExtB h.n h h' → K (.tuple #[.int .u64 u, .nilIface]) h') :
    Ret env (.func 59) [.string ⟨l.toArray⟩, .int .i64 10, .int .i64 53] h K := by
  refine F59 rfl ?_
  repeat' (first | done | ((with_reducible refine brK_yes ?_ ?_); (· omega)) | ((with_reducible refine brK_no ?_ ?_); (· omega)) | (with_reducible refine brK_both (fun _ => ?_) (fun _ => ?_)) | ((with_reducible refine And.intro (And.intro ?_ ?_) ?_); (· omega); (· omega)) | ((with_reducible refine And.intro ?_ ?_); (· omega)) | (with_reducible refine And.intro (show List.all _ oneCell = true from rfl) ?_) | ((with_reducible refine st_newM ?_ ?_); (· rfl)) | ((with_reducible refine bs_oneM ?_ ?_); (· rfl)) | (with_reducible refine bd_of (by with_unfolding_all (simp only [fillL_cons, fillL_nil, nth_eq, blt_eq, cond_beq, over, Value.cells, List.getElem?_cons_zero, List.getElem?_cons_succ, List.length_cons, List.length_nil, Nat.reduceAdd, Nat.reduceSub, Nat.reduceLT, Nat.reduceEqDiff, decide_true, cond_true, Option.map_some, if_true, if_false, Nat.add_one_sub_one, Nat.succ_ne_zero, reduceCtorEq, OfNat.ofNat]; rfl)) ?_) | (with_reducible refine bda_of (by with_unfolding_all rfl) ?_) | (simp -dsimp only [↓cw_ops, ↓cw_seq, ↓seqK_normal, ↓getK_same, ↓getK_ne, ↓evK_tmp, ↓evK_int, ↓evK_nilIface, ↓opsW_nil, ↓opsW_d, ↓opW_move, ↓opW_assign, ↓evs_nil, ↓evs_cons, ↓opW_call, ↓setAll_cons, ↓setAll_nil, ↓r59_8_w, ↓s59_9_w, ↓r59_10_w, ↓s59_11_w, ne_eq, Nat.reduceEqDiff, Nat.reduceAdd, not_false_eq_true, Nat.one_ne_zero]))
  refine parseIn_ret hl hne hn hu fun h' X => ?_
  repeat' (first | done | ((with_reducible refine brK_yes ?_ ?_); (· omega)) | ((with_reducible refine brK_no ?_ ?_); (· omega)) | (with_reducible refine brK_both (fun _ => ?_) (fun _ => ?_)) | ((with_reducible refine And.intro (And.intro ?_ ?_) ?_); (· omega); (· omega)) | ((with_reducible refine And.intro ?_ ?_); (· omega)) | (with_reducible refine And.intro (show List.all _ oneCell = true from rfl) ?_) | ((with_reducible refine st_newM ?_ ?_); (· rfl)) | ((with_reducible refine bs_oneM ?_ ?_); (· rfl)) | (with_reducible refine bd_of (by with_unfolding_all (simp only [fillL_cons, fillL_nil, nth_eq, blt_eq, cond_beq, over, Value.cells, List.getElem?_cons_zero, List.getElem?_cons_succ, List.length_cons, List.length_nil, Nat.reduceAdd, Nat.reduceSub, Nat.reduceLT, Nat.reduceEqDiff, decide_true, cond_true, Option.map_some, if_true, if_false, Nat.add_one_sub_one, Nat.succ_ne_zero, reduceCtorEq, OfNat.ofNat]; rfl)) ?_) | (with_reducible refine bda_of (by with_unfolding_all rfl) ?_) | (simp -dsimp only [↓cw_skip, ↓cw_ops, ↓cw_seq, ↓cw_ret, ↓cw_cond, ↓seqK_normal, ↓getK_same, ↓getK_ne, ↓evK_tmp, ↓evK_nilIface, ↓condV_var, ↓opsW_nil, ↓opsW_d, ↓opW_move, ↓opW_assign, ↓opW_bin, ↓resK_two, ↓opW_extract, ↓ext_tuple, ↓r59_0_w, ↓s59_1_w, ↓s59_4_w, ↓r59_5_w, ↓s59_6_w, ↓s59_7_w, List.getElem?_cons_zero, List.getElem?_cons_succ, onV_some', brK_false, ne_eq, Nat.reduceEqDiff, not_false_eq_true, Bool.false_eq_true,  bin_nil]))
  exact hK h' X
end Go.Proofs.YtjcmcoabckkjoaaDoor.Li

namespace Go.Proofs.YtjcmcoabckkjoaaDoor.Li
open Go.Ev
set_option maxRecDepth 100000
/-! numbers that the format has -/
theorem log2_pow {M t : Nat} (h : M ≠ 0) : (M * 2 ^ t).log2 = M.log2 + t := by
  have h2 : M * 2 ^ t ≠ 0 := Nat.mul_ne_zero h (Nat.pos_iff_ne_zero.1 (Nat.two_pow_pos t))
  rw [Nat.log2_eq_iff h2]
  obtain ⟨a, b⟩ := (Nat.log2_eq_iff h).1 rfl
  constructor
  · rw [Nat.pow_add]; exact Nat.mul_le_mul_right _ a
  · rw [show M.log2 + t + 1 = M.log2 + 1 + t by omega, Nat.pow_add]; exact Nat.mul_lt_mul_of_pos_right b (Nat.two_pow_pos t)
theorem log2_lt53 {M : Nat} (h : M ≠ 0) (hL : M.log2 ≤ 52) : M < 9007199254740992 := by
  have := ((Nat.log2_eq_iff h).1 rfl).2
  exact Nat.lt_of_lt_of_le this (Nat.pow_le_pow_right (by decide) (by omega : M.log2 + 1 ≤ 53))
theorem cut_exact {neg : Bool} {M t : Nat} (h : M ≠ 0) : Ieee.Toward.even.cut neg (M * 2 ^ t) t = M := by
  have e : min t ((M * 2 ^ t).log2 + 2) = t := by rw [log2_pow h]; omega
  have hp := Nat.two_pow_pos t
  unfold Ieee.Toward.cut
  simp only [e, Nat.one_shiftLeft, Nat.mul_div_cancel _ hp, Nat.mul_mod_left, Nat.mul_zero]
  have h1 : decide (2 ^ t < 0) = false := decide_eq_false (by omega)
  have h2 : (2 ^ t == 0) = false := beq_eq_false_iff_ne.2 (by omega)
  rw [h1, h2]; rfl
theorem fb52 : Ieee.double.fractionBits = 52 := rfl
theorem nearest_norm {neg : Bool} {M t : Nat} {E : Int} (hM : M ≠ 0) (hL : M.log2 = 52 ∨ (M.log2 < 52 ∧ E = -1074)) (hE : -1074 ≤ E) (hE2 : E ≤ 971) :
    Ieee.double.nearest neg (M * 2 ^ t) (E - t) = Ieee.double.word neg ((E + 1074).toNat * 4503599627370496 + M) := by
  have h0 : M * 2 ^ t ≠ 0 := Nat.mul_ne_zero hM (by have := Nat.two_pow_pos t; omega)
  have hm := log2_lt53 hM (by omega)
  unfold Ieee.Format.nearest
  rw [if_neg h0, log2_pow hM, lp, bn, ir, fb52]
  have hlast : max (E - (t : Int) + ((M.log2 + t : Nat) : Int) - ((52 : Nat) : Int)) (-1074) = E := by omega
  simp only [hlast]
  have hs : (E - (t : Int) - E).toNat = 0 := by omega
  have hd : (E - (E - (t : Int))).toNat = t := by omega
  rw [hs, hd, Nat.shiftLeft_zero, cut_exact hM]
  congr 1
  have : (E - -1074).toNat = (E + 1074).toNat := by omega
  rw [this]
  omega
/-- a whole number, as a number with a point -/
theorem nearest_int {n : Nat} (hn : n ≠ 0) (hL : n.log2 ≤ 52) : FloatKind.nearest .f64 (n : Int) = (n.log2 + 1022) * 4503599627370496 + n * 2 ^ (52 - n.log2) := by
  show Ieee.double.nearest (decide ((n : Int) < 0)) (n : Int).natAbs 0 = _
  rw [decide_eq_false (by omega), Int.natAbs_natCast]
  unfold Ieee.Format.nearest
  rw [if_neg hn, lp, bn, ir, fb52]
  have hlast : max ((0 : Int) + (n.log2 : Int) - ((52 : Nat) : Int)) (-1074) = (n.log2 : Int) - 52 := by omega
  simp only [hlast]
  have hs : ((0 : Int) - ((n.log2 : Int) - 52)).toNat = 52 - n.log2 := by omega
  have hd : ((n.log2 : Int) - 52 - 0).toNat = 0 := by omega
  rw [hs, hd, Nat.shiftLeft_eq]
  have hc : Ieee.Toward.even.cut false (n * 2 ^ (52 - n.log2)) 0 = n * 2 ^ (52 - n.log2) := by
    have := cut_exact (neg := false) (M := n * 2 ^ (52 - n.log2)) (t := 0) (Nat.mul_ne_zero hn (by have := Nat.two_pow_pos (52 - n.log2); omega))
    rwa [Nat.pow_zero, Nat.mul_one] at this
  rw [hc]
  have hM : n * 2 ^ (52 - n.log2) < 9007199254740992 := log2_lt53 (Nat.mul_ne_zero hn (by have := Nat.two_pow_pos (52 - n.log2); omega)) (by rw [log2_pow hn]; omega)
  show (if false = true then _ else _) = _
  rw [if_neg (by decide)]
  omega
theorem mant52 {n : Nat} (hn : n ≠ 0) (hL : n.log2 ≤ 52) : 4503599627370496 ≤ n * 2 ^ (52 - n.log2) ∧ n * 2 ^ (52 - n.log2) < 9007199254740992 := by
  have h0 : n * 2 ^ (52 - n.log2) ≠ 0 := Nat.mul_ne_zero hn (by have := Nat.two_pow_pos (52 - n.log2); omega)
  have e : (n * 2 ^ (52 - n.log2)).log2 = 52 := by rw [log2_pow hn]; omega
  refine ⟨?_, log2_lt53 h0 (by omega)⟩
  have := ((Nat.log2_eq_iff h0).1 e).1
  exact this
/-- a product that the format has -/
theorem mul_norm {m x : Nat} {a b : Nat} {p q : Int} {M t : Nat} {E : Int} (hm : Ieee.double.read m = .number false a p) (hx : Ieee.double.read x = .number false b q) (e1 : a * b = M * 2 ^ t) (e2 : p + q = E - t)
    (hM : M ≠ 0) (hL : M.log2 = 52 ∨ (M.log2 < 52 ∧ E = -1074)) (hE : -1074 ≤ E) (hE2 : E ≤ 971) : fA .mul (.float .f64 m) (.float .f64 x) = .float .f64 ((E + 1074).toNat * 4503599627370496 + M) := by
  show fres (Ieee.double.mul m x) = _
  unfold Ieee.Format.mul
  rw [hm, hx]
  show fres (some (Ieee.double.nearest (false ^^ false) (a * b) (p + q))) = _
  rw [e1, e2, nearest_norm hM hL hE hE2]
  rfl
theorem read_one : Ieee.double.read 4607182418800017408 = .number false 4503599627370496 (-52) := by rw [read_eq (by decide)]; rfl
theorem read_tiny : Ieee.double.read 4368491638549381120 = .number false 4503599627370496 (-105) := by rw [read_eq (by decide)]; rfl
/-- one whose place is e -/
theorem read_at {M e : Nat} (h1 : 4503599627370496 ≤ M) (h2 : M < 9007199254740992) (he : e ≤ 2045) : Ieee.double.read (e * 4503599627370496 + M) = .number false M ((e : Int) - 1074) := by
  have hr : rungN (e * 4503599627370496 + M) = e * 4503599627370496 + M := by unfold rungN; omega
  have hn : negN (e * 4503599627370496 + M) = false := by unfold negN; exact decide_eq_false (by omega)
  rw [read_eq (by omega), hr, hn, if_neg (by omega), if_pos (by omega)]
  congr 1 <;> omega
end Go.Proofs.YtjcmcoabckkjoaaDoor.Li

