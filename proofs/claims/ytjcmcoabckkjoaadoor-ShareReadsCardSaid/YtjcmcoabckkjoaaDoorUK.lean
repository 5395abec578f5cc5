/- Digits read of any bytes; share.Of where no number has the text. -/
import Derived.Test.YtjcmcoabckkjoaaDoorUH
set_option linter.unusedSimpArgs false
set_option linter.unusedVariables false
namespace Go.Proofs.YtjcmcoabckkjoaaDoor.Li
open Go.Ev
set_option maxRecDepth 100000
set_option maxHeartbeats 400000
/-! digits, read: of whatever bytes -/
section
variable {E : Env} {fr : Fr} {h : Heap} {K : Value → Heap → Prop} {x : Operand} {t : TypeId}
def ifaceT (E : Env) (t : TypeId) : Bool := match und E t with
  | some (.interface _) | some .invalid | none => true
  | some _ => false
theorem opW_mkIface (ht : ifaceT E t = false) : opW E (.makeInterface t x) fr h K = evK E fr x fun v => K (.iface t v) h := by
  unfold ifaceT at ht
  rw [opW_pure rfl (by simp)]
  simp only [pureOp, operOf, evK, onV]
  cases hu : und E t with
  | none => rw [hu] at ht; cases ht
  | some d =>
    rw [hu] at ht
    cases ev E fr x with
    | none => cases d <;> first | (cases ht; done) | simp
    | some v => cases d <;> first | (cases ht; done) | simp
end
theorem mk107 : ifaceT env 107 = false := by kernel_rfl
theorem wrapU8 (n : Int) : 0 ≤ IntKind.wrap .u8 n ∧ IntKind.wrap .u8 n ≤ 255 := by rw [IntKind.wrap_u8]; omega
def lowU (b : Int) : Int := IntKind.wrap .u8 ((BitVec.ofInt IntKind.u8.bits b ||| BitVec.ofInt IntKind.u8.bits 32).toNat : Int)
theorem lower_ret {b : Int} {h : Heap} {K : Value → Heap → Prop} (hK : K (.int .u8 (lowU b)) h) : Ret env (.func 98) [.int .u8 b] h K := by
  unfold lowU at hK
  refine F98 rfl ?_
  repeat' (first | done | with_reducible (first | refine y1 ?_ (by omega) | refine y2 ?_ (by omega) | refine y3 (fun _ => ?_) (fun _ => ?_) | refine y4 ?_ (by omega) (by omega) | refine y5 ?_ (by omega) | refine y6 ?_ (by with_unfolding_all rfl) | refine y7 ?_ (by with_unfolding_all rfl) | refine y8 ?_ (by with_unfolding_all rfl) | refine y9 ?_ (by with_unfolding_all rfl) | refine ya ?_ (by with_unfolding_all rfl)) | (simp -dsimp only [↓cw_ops, ↓cw_seq, ↓cw_ret, ↓seqK_normal, ↓getK_same, ↓getK_ne, ↓evK_tmp, ↓evK_int, ↓opsW_nil, ↓opsW_d, ↓opW_move, ↓opW_assign, ↓opW_bin, ↓resK_one, ↓setAll_cons, ↓setAll_nil, ↓r98_0_w, ↓s98_1_w, ↓r98_2_w, ↓s98_3_w, ne_eq, Nat.reduceEqDiff, not_false_eq_true, bin_or]))
  exact hK
def NumErr (v : Value) : Prop := ∃ n : Int, (n = 1 ∨ n = 2) ∧ v = .iface 107 (.int .i64 n)
theorem parseIn_any {l : List UInt8} {h : Heap} {K : Value → Heap → Prop} (hn : l.length ≤ 1000) (hK : ∀ (u : Nat) h', u < 9007199254740992 → ExtB h.n h h' → K (.tuple #[.int .u64 u, .nilIface]) h')
    (hE : ∀ (u : Nat) v h', u < 9007199254740992 → NumErr v → ExtB h.n h h' → K (.tuple #[.int .u64 u, v]) h') :
    Ret env (.func 77) [.string ⟨l.toArray⟩, .int .i64 10, .int .i64 53] h K := by
  refine F77 rfl ?_
  have syn : ∀ h', ExtB h.n h h' → K (.tuple #[.int .u64 0, .iface 107 (.int .i64 2)]) h' := fun h' X => hE 0 _ h' (by omega) ⟨2, .inr rfl, rfl⟩ X
  have rng : ∀ h', ExtB h.n h h' → K (.tuple #[.int .u64 9007199254740991, .iface 107 (.int .i64 1)]) h' := fun h' X => hE 9007199254740991 _ h' (by omega) ⟨1, .inl rfl, rfl⟩ X
  have w53 : IntKind.u64.wrap 53 = 53 := rfl
  have wsh : IntKind.u64.wrap (1 * 2 ^ min (53 : Int).toNat IntKind.u64.bits) = 9007199254740992 := by decide
  have wmx : IntKind.u64.wrap (9007199254740992 - 1) = 9007199254740991 := by decide
  by_cases hne : l = []
  · have hs : ((⟨l.toArray⟩ : ByteArray) = ⟨⟨[]⟩⟩) = True := bytes_eq hne
    repeat' (first | done | with_reducible (first | refine y1 ?_ (by omega) | refine y2 ?_ (by omega) | refine y3 (fun _ => ?_) (fun _ => ?_) | refine y4 ?_ (by omega) (by omega) | refine y5 ?_ (by omega) | refine y6 ?_ (by with_unfolding_all rfl) | refine y7 ?_ (by with_unfolding_all rfl) | refine y8 ?_ (by with_unfolding_all rfl) | refine y9 ?_ (by with_unfolding_all rfl) | refine ya ?_ (by with_unfolding_all rfl)) | (simp -dsimp only [↓cw_ops, ↓cw_seq, ↓cw_ret, ↓cw_cond, ↓seqK_normal, ↓seqK_ret, ↓getK_same, ↓getK_ne, ↓evK_tmp, ↓evK_int, ↓evK_string, ↓evK_nilIface, ↓condV_var, ↓opsW_nil, ↓opsW_d, ↓opW_move, ↓opW_assign, ↓opW_bin, ↓resK_two, ↓setAll_cons, ↓setAll_nil, ↓bin_eqlS, ↓r77_145_w, ↓s77_146_w, ↓s77_147_w, ↓r77_148_w, ↓s77_149_w, ↓s77_150_w, ↓r77_151_w, ↓s77_152_w, brK_true, ne_eq, Nat.reduceEqDiff, Nat.reduceAdd, not_false_eq_true, Nat.one_ne_zero, ↓opW_mkIface mk107, hs]))
    exact syn h (ExtB.refl _ _)
  have hs := bytes_ne hne
  have hlen : l.length ≠ 0 := fun e => hne (List.length_eq_zero_iff.1 e)
  repeat' (first | done | with_reducible (first | refine y1 ?_ (by omega) | refine y2 ?_ (by omega) | refine y3 (fun _ => ?_) (fun _ => ?_) | refine y4 ?_ (by omega) (by omega) | refine y5 ?_ (by omega) | refine y6 ?_ (by with_unfolding_all rfl) | refine y7 ?_ (by with_unfolding_all rfl) | refine y8 ?_ (by with_unfolding_all rfl) | refine y9 ?_ (by with_unfolding_all rfl) | refine ya ?_ (by with_unfolding_all rfl)) | (simp -dsimp only [↓cw_skip, ↓cw_ops, ↓cw_seq, ↓cw_block, ↓cw_cond, ↓seqK_normal, ↓blockK_normal, ↓getK_same, ↓getK_ne, ↓evK_tmp, ↓evK_int, ↓evK_bool, ↓evK_string, ↓evK_nilIface, ↓condV_var, ↓gdV_var, ↓opsW_nil, ↓opsW_d, ↓opsW_gd, ↓opW_move, ↓opW_assign, ↓opW_pick, ↓opW_bin, ↓bin_sub, ↓bin_shl, ↓bin_eql, ↓bin_lss, ↓bin_leq, ↓bin_gtr, ↓lenS_some, ↓setAll_cons, ↓setAll_nil, ↓bin_eqlS, ↓cint_int, ↓cv_3_69, ↓len_87, ↓s77_61_w, ↓s77_62_w, ↓r77_63_w, ↓s77_64_w, ↓s77_65_w, ↓r77_66_w, ↓s77_67_w, ↓r77_68_w, ↓s77_69_w, ↓r77_70_w, ↓s77_71_w, ↓r77_72_w, ↓s77_73_w, ↓s77_81_w, ↓r77_82_w, ↓s77_83_w, ↓s77_84_w, ↓r77_85_w, ↓s77_86_w, ↓s77_87_w, ↓r77_88_w, ↓s77_89_w, ↓s77_94_w, ↓r77_95_w, ↓s77_96_w, ↓s77_97_w, ↓r77_98_w, ↓s77_99_w, ↓s77_100_w, ↓s77_137_w, ↓r77_138_w, ↓s77_139_w, ↓s77_140_w, ↓r77_141_w, ↓s77_142_w, ↓r77_143_w, ↓s77_144_w, ↓s77_147_w, ↓r77_148_w, ↓s77_149_w, ↓s77_150_w, ↓r77_151_w, ↓s77_152_w, brK_true, brK_false, ne_eq, Nat.reduceEqDiff, Nat.reduceAdd, not_false_eq_true, Nat.one_ne_zero, Bool.false_eq_true,  hs, ↓opW_sbytes conv987, sbK, str_size, w53, wsh, wmx]))
  have hn1 : (newBlk h (.ro fun j => nth (bytesV ⟨l.toArray⟩) j)).n = h.n + 1 := rfl
  have hb1 : (newBlk h (.ro fun j => nth (bytesV ⟨l.toArray⟩) j)).b.get h.n = some (.ro fun j => nth (bytesV ⟨l.toArray⟩) j) := newBlk_same _ _
  have X1 : ExtB h.n h (newBlk h (.ro fun j => nth (bytesV ⟨l.toArray⟩) j)) := ExtB.new _ (Nat.le_refl _)
  generalize newBlk h (.ro fun j => nth (bytesV ⟨l.toArray⟩) j) = h1 at hn1 hb1 X1 ⊢
  refine cw_loopI (fun n fr h' => h' = h1 ∧ ∃ k a : Nat, k ≤ l.length ∧ n = l.length - k ∧ fr.get 101 = some (.int .i64 k) ∧ fr.get 13 = some (.int .u64 a) ∧ fr.get 12 = some (.bool false) ∧ a < 9007199254740992) l.length ?_ (by omega) ?_
  · exact ⟨rfl, 0, 0, by omega, by omega, by simp [T.get_set], by simp [T.get_set], by simp [T.get_set], by omega⟩
  rintro n fr h' ⟨rfl, k, a, hk, rfl, g101, g13, g12, ha⟩ hag
  have g101 := getK_of g101
  have g13 := getK_of g13
  have g12' := g12
  have g12 := getK_of g12
  have a1 := getK_eq (hag 1 rfl)
  have a8 := getK_eq (hag 8 rfl)
  have a10 := getK_eq (hag 10 rfl)
  have a11 := getK_eq (hag 11 rfl)
  have a99 := getK_eq (hag 99 rfl)
  have a100 := getK_eq (hag 100 rfl)
  by_cases hlt : k < l.length
  · have cb := bytes_at (g := fun _ => none) hlt (show h.n < h'.n by omega) hb1
    have cb : cellAt h' ⟨h.n, 0 + k * 1, none⟩ = some (.int .u8 (l[k].toNat : Int)) := by rw [show 0 + k * 1 = k by omega]; exact cb
    have hb256 : l[k].toNat < 256 := UInt8.toNat_lt _
    generalize l[k].toNat = b at cb hb256
    have v2 : IntKind.u8.wrap 10 = 10 := by decide
    have v3 : IntKind.u64.wrap 10 = 10 := by decide
    by_cases hd : 48 ≤ b ∧ b ≤ 57
    · obtain ⟨d, hd2⟩ : ∃ d : Nat, b = d + 48 := ⟨b - 48, by omega⟩
      subst hd2
      have h95 : ¬ ((d + 48 : Nat) : Int) = 95 := by omega
      have c1 : (48 : Int) ≤ ((d + 48 : Nat) : Int) := by omega
      have c2 : ((d + 48 : Nat) : Int) ≤ 57 := by omega
      have c3 : ¬ (10 : Int) ≤ (d : Int) := by omega
      have c4 : ¬ (1844674407370955162 : Int) ≤ (a : Int) := by omega
      have v1 : IntKind.u8.wrap (((d + 48 : Nat) : Int) - 48) = (d : Int) := by rw [wrap_u8 (by omega) (by omega)]; omega
      have v4 : IntKind.u64.wrap ((a : Int) * 10) = ((a * 10 : Nat) : Int) := by rw [wrap_u64 (by omega) (by omega)]; omega
      have v5 : IntKind.u64.wrap (d : Int) = (d : Int) := wrap_u64 (by omega) (by omega)
      have v6 : IntKind.u64.wrap (((a * 10 : Nat) : Int) + (d : Int)) = ((a * 10 + d : Nat) : Int) := by rw [wrap_u64 (by omega) (by omega)]; omega
      have c5 : ¬ ((a * 10 + d : Nat) : Int) < ((a * 10 : Nat) : Int) := by omega
      by_cases hov : 9007199254740991 < a * 10 + d
      · have c6 : (9007199254740991 : Int) < ((a * 10 + d : Nat) : Int) := by omega
        repeat' (first | done | with_reducible (first | refine y1 ?_ (by omega) | refine y2 ?_ (by omega) | refine y3 (fun _ => ?_) (fun _ => ?_) | refine y4 ?_ (by omega) (by omega) | refine y5 ?_ (by omega) | refine y6 ?_ (by with_unfolding_all rfl) | refine y7 ?_ (by with_unfolding_all rfl) | refine y8 ?_ (by with_unfolding_all rfl) | refine y9 ?_ (by with_unfolding_all rfl) | refine ya ?_ (by with_unfolding_all rfl)) | (simp -dsimp only [↓cw_skip, ↓cw_ops, ↓cw_seq, ↓cw_block, ↓cw_ret, ↓cw_cond, ↓seqK_normal, ↓seqK_ret, ↓blockK_normal, ↓blockK_ret, ↓loopK_ret, ↓getK_same, ↓getK_ne, ↓evK_tmp, ↓evK_int, ↓evK_bool, ↓condV_var, ↓gdV_var, ↓opsW_nil, ↓opsW_d, ↓opsW_gd, ↓opW_move, ↓opW_assign, ↓opW_pick, ↓opW_bin, ↓bin_add, ↓bin_sub, ↓bin_mul, ↓bin_eql, ↓bin_lss, ↓bin_leq, ↓bin_gtr, ↓bin_geq, ↓ld1_some, ↓idxS_some, ↓resK_two, ↓cint_int, ↓cv_3_23, ↓ia_87, ↓ld_5, ↓cv_3_5, ↓cv_5_23, ↓r77_12_w, ↓s77_13_w, ↓s77_14_w, ↓r77_15_w, ↓s77_16_w, ↓s77_17_w, ↓r77_18_w, ↓s77_19_w, ↓r77_20_w, ↓s77_21_w, ↓s77_24_w, ↓r77_25_w, ↓s77_26_w, ↓s77_27_w, ↓s77_30_w, ↓r77_31_w, ↓s77_32_w, ↓s77_33_w, ↓r77_36_w, ↓s77_37_w, ↓s77_45_w, ↓r77_46_w, ↓s77_47_w, ↓s77_48_w, ↓r77_49_w, ↓s77_50_w, ↓s77_51_w, ↓r77_52_w, ↓s77_53_w, ↓r77_54_w, ↓s77_55_w, ↓s77_56_w, ↓s77_57_w, ↓s77_58_w, ↓r77_59_w, ↓s77_60_w, onV_some', brK_true, brK_false, ne_eq, Nat.reduceEqDiff, not_false_eq_true, Addr.add_lit, Int.toNat_natCast, Bool.false_eq_true,  ↓opW_mkIface mk107, ↓g101, ↓g13, ↓a1, ↓a10, ↓a11, ↓a99, ↓a100, cb, h95, c1, c2, v1, v2, c3, c4, v3, v4, v5, v6, c5, c6]))
        exact rng h' X1
      · have c6 : ¬ (9007199254740991 : Int) < ((a * 10 + d : Nat) : Int) := by omega
        repeat' (first | done | with_reducible (first | refine y1 ?_ (by omega) | refine y2 ?_ (by omega) | refine y3 (fun _ => ?_) (fun _ => ?_) | refine y4 ?_ (by omega) (by omega) | refine y5 ?_ (by omega) | refine y6 ?_ (by with_unfolding_all rfl) | refine y7 ?_ (by with_unfolding_all rfl) | refine y8 ?_ (by with_unfolding_all rfl) | refine y9 ?_ (by with_unfolding_all rfl) | refine ya ?_ (by with_unfolding_all rfl)) | (simp -dsimp only [↓cw_skip, ↓cw_ops, ↓cw_seq, ↓cw_block, ↓cw_cond, ↓seqK_normal, ↓blockK_normal, ↓loopK_normal, ↓getK_same, ↓getK_ne, ↓evK_tmp, ↓evK_int, ↓evK_bool, ↓condV_var, ↓gdV_var, ↓opsW_nil, ↓opsW_d, ↓opsW_gd, ↓opW_move, ↓opW_assign, ↓opW_pick, ↓opW_bin, ↓bin_add, ↓bin_sub, ↓bin_mul, ↓bin_eql, ↓bin_lss, ↓bin_leq, ↓bin_gtr, ↓bin_geq, ↓ld1_some, ↓idxS_some, ↓cint_int, ↓cv_3_23, ↓ia_87, ↓ld_5, ↓cv_3_5, ↓cv_5_23, ↓r77_8_w, ↓s77_9_w, ↓r77_10_w, ↓s77_11_w, ↓s77_14_w, ↓r77_15_w, ↓s77_16_w, ↓s77_17_w, ↓r77_18_w, ↓s77_19_w, ↓r77_20_w, ↓s77_21_w, ↓s77_24_w, ↓r77_25_w, ↓s77_26_w, ↓s77_27_w, ↓s77_30_w, ↓r77_31_w, ↓s77_32_w, ↓s77_33_w, ↓r77_36_w, ↓s77_37_w, ↓s77_45_w, ↓r77_46_w, ↓s77_47_w, ↓s77_48_w, ↓r77_49_w, ↓s77_50_w, ↓s77_51_w, ↓r77_52_w, ↓s77_53_w, ↓r77_54_w, ↓s77_55_w, ↓s77_56_w, ↓s77_57_w, ↓s77_58_w, ↓r77_59_w, ↓s77_60_w, onV_some', brK_true, brK_false, true_and, ne_eq, Nat.reduceEqDiff, not_false_eq_true, Addr.add_lit, Int.toNat_natCast, Bool.false_eq_true,  ↓g101, ↓g13, ↓a1, ↓a10, ↓a11, ↓a99, ↓a100, cb, h95, c1, c2, v1, v2, c3, c4, v3, v4, v5, v6, c5, c6]))
        refine ⟨l.length - (k + 1), by omega, k + 1, a * 10 + d, by omega, rfl, ?_, ?_, ?_, by omega⟩
        · simp [T.get_set, wrap_succ (show k ≤ 4611686018427387904 by omega)]
        · simp [T.get_set]
        · simp only [T.get_set]; simpa using g12'
    · have sx := syn h' X1
      have hc0 := wrapU8 ((BitVec.ofInt IntKind.u8.bits (b : Int) ||| BitVec.ofInt IntKind.u8.bits 32).toNat : Int)
      obtain ⟨c, hc, low⟩ : ∃ c : Int, (0 ≤ c ∧ c ≤ 255) ∧ ∀ {h : Heap} {K : Value → Heap → Prop}, K (.int .u8 c) h → Ret env (.func 98) [.int .u8 (b : Int)] h K := ⟨_, hc0, fun hK => lower_ret hK⟩
      by_cases h48 : 48 ≤ b
      · have c1 : (48 : Int) ≤ (b : Int) := by omega
        have c2 : ¬ (b : Int) ≤ 57 := by omega
        by_cases l97 : 97 ≤ c
        · by_cases l122 : c ≤ 122
          · have e1 : IntKind.u8.wrap (c - 97) = c - 97 := wrap_u8 (by omega) (by omega)
            have e2 : IntKind.u8.wrap (c - 97 + 10) = c - 87 := by rw [wrap_u8 (by omega) (by omega)]; omega
            have e3 : 10 ≤ c - 87 := by omega
            all_goals (repeat' (first | done | with_reducible (first | refine y1 ?_ (by omega) | refine y2 ?_ (by omega) | refine y3 (fun _ => ?_) (fun _ => ?_) | refine y4 ?_ (by omega) (by omega) | refine y5 ?_ (by omega) | refine y6 ?_ (by with_unfolding_all rfl) | refine y7 ?_ (by with_unfolding_all rfl) | refine y8 ?_ (by with_unfolding_all rfl) | refine y9 ?_ (by with_unfolding_all rfl) | refine ya ?_ (by with_unfolding_all rfl)) | (simp -dsimp only [↓cw_skip, ↓cw_ops, ↓cw_seq, ↓cw_block, ↓cw_cond, ↓seqK_normal, ↓getK_same, ↓getK_ne, ↓evK_tmp, ↓evK_int, ↓evK_bool, ↓condV_var, ↓gdV_var, ↓opsW_nil, ↓opsW_d, ↓opsW_gd, ↓opW_move, ↓opW_assign, ↓opW_pick, ↓opW_bin, ↓bin_eql, ↓bin_lss, ↓bin_leq, ↓ld1_some, ↓idxS_some, ↓evs_nil, ↓evs_cons, ↓opW_call, ↓ia_87, ↓ld_5, ↓r77_43_w, ↓s77_44_w, ↓s77_45_w, ↓r77_46_w, ↓s77_47_w, ↓s77_48_w, ↓r77_49_w, ↓s77_50_w, ↓s77_51_w, ↓r77_52_w, ↓s77_53_w, ↓r77_54_w, ↓s77_55_w, ↓s77_56_w, ↓s77_57_w, ↓s77_58_w, ↓r77_59_w, ↓s77_60_w, onV_some', brK_true, brK_false, ne_eq, Nat.reduceEqDiff, not_false_eq_true, Addr.add_lit, Int.toNat_natCast, Bool.false_eq_true,  ↓g101, ↓a8, ↓a99, ↓a100, cb, c1, c2])))
            all_goals refine low ?_
            all_goals (repeat' (first | done | with_reducible (first | refine y1 ?_ (by omega) | refine y2 ?_ (by omega) | refine y3 (fun _ => ?_) (fun _ => ?_) | refine y4 ?_ (by omega) (by omega) | refine y5 ?_ (by omega) | refine y6 ?_ (by with_unfolding_all rfl) | refine y7 ?_ (by with_unfolding_all rfl) | refine y8 ?_ (by with_unfolding_all rfl) | refine y9 ?_ (by with_unfolding_all rfl) | refine ya ?_ (by with_unfolding_all rfl)) | (simp -dsimp only [↓getK_same, ↓getK_ne, ↓evK_tmp, ↓evK_int, ↓gdV_var, ↓opsW_d, ↓opsW_gd, ↓opW_move, ↓opW_bin, ↓bin_leq, ↓evs_nil, ↓evs_cons, ↓opW_call, brK_true, ne_eq, Nat.reduceEqDiff, not_false_eq_true, l97])))
            all_goals refine low ?_
            all_goals (repeat' (first | done | with_reducible (first | refine y1 ?_ (by omega) | refine y2 ?_ (by omega) | refine y3 (fun _ => ?_) (fun _ => ?_) | refine y4 ?_ (by omega) (by omega) | refine y5 ?_ (by omega) | refine y6 ?_ (by with_unfolding_all rfl) | refine y7 ?_ (by with_unfolding_all rfl) | refine y8 ?_ (by with_unfolding_all rfl) | refine y9 ?_ (by with_unfolding_all rfl) | refine ya ?_ (by with_unfolding_all rfl)) | (simp -dsimp only [↓cw_ops, ↓cw_cond, ↓seqK_normal, ↓getK_same, ↓getK_ne, ↓evK_tmp, ↓evK_int, ↓condV_var, ↓gdV_var, ↓opsW_nil, ↓opsW_d, ↓opsW_gd, ↓opW_move, ↓opW_assign, ↓opW_pick, ↓opW_bin, ↓bin_leq, ↓evs_nil, ↓evs_cons, ↓opW_call, ↓r77_38_w, ↓s77_39_w, ↓s77_42_w, brK_true, ne_eq, Nat.reduceEqDiff, not_false_eq_true, l122])))
            all_goals refine low ?_
            all_goals (repeat' (first | done | with_reducible (first | refine y1 ?_ (by omega) | refine y2 ?_ (by omega) | refine y3 (fun _ => ?_) (fun _ => ?_) | refine y4 ?_ (by omega) (by omega) | refine y5 ?_ (by omega) | refine y6 ?_ (by with_unfolding_all rfl) | refine y7 ?_ (by with_unfolding_all rfl) | refine y8 ?_ (by with_unfolding_all rfl) | refine y9 ?_ (by with_unfolding_all rfl) | refine ya ?_ (by with_unfolding_all rfl)) | (simp -dsimp only [↓cw_ops, ↓cw_seq, ↓cw_ret, ↓cw_cond, ↓seqK_normal, ↓seqK_ret, ↓blockK_normal, ↓blockK_ret, ↓loopK_ret, ↓getK_same, ↓getK_ne, ↓evK_tmp, ↓evK_int, ↓condV_var, ↓opsW_nil, ↓opsW_d, ↓opW_move, ↓opW_assign, ↓opW_bin, ↓bin_add, ↓bin_sub, ↓bin_geq, ↓resK_two, ↓cint_int, ↓cv_3_5, ↓r77_28_w, ↓s77_29_w, ↓s77_30_w, ↓r77_31_w, ↓s77_32_w, ↓s77_33_w, brK_true, ne_eq, Nat.reduceEqDiff, not_false_eq_true, ↓opW_mkIface mk107, ↓a1, v2, e1, e2, e3])))
            all_goals exact sx
          · skip
            all_goals (repeat' (first | done | with_reducible (first | refine y1 ?_ (by omega) | refine y2 ?_ (by omega) | refine y3 (fun _ => ?_) (fun _ => ?_) | refine y4 ?_ (by omega) (by omega) | refine y5 ?_ (by omega) | refine y6 ?_ (by with_unfolding_all rfl) | refine y7 ?_ (by with_unfolding_all rfl) | refine y8 ?_ (by with_unfolding_all rfl) | refine y9 ?_ (by with_unfolding_all rfl) | refine ya ?_ (by with_unfolding_all rfl)) | (simp -dsimp only [↓cw_skip, ↓cw_ops, ↓cw_seq, ↓cw_block, ↓cw_cond, ↓seqK_normal, ↓getK_same, ↓getK_ne, ↓evK_tmp, ↓evK_int, ↓evK_bool, ↓condV_var, ↓gdV_var, ↓opsW_nil, ↓opsW_d, ↓opsW_gd, ↓opW_move, ↓opW_assign, ↓opW_pick, ↓opW_bin, ↓bin_eql, ↓bin_lss, ↓bin_leq, ↓ld1_some, ↓idxS_some, ↓evs_nil, ↓evs_cons, ↓opW_call, ↓ia_87, ↓ld_5, ↓r77_43_w, ↓s77_44_w, ↓s77_45_w, ↓r77_46_w, ↓s77_47_w, ↓s77_48_w, ↓r77_49_w, ↓s77_50_w, ↓s77_51_w, ↓r77_52_w, ↓s77_53_w, ↓r77_54_w, ↓s77_55_w, ↓s77_56_w, ↓s77_57_w, ↓s77_58_w, ↓r77_59_w, ↓s77_60_w, onV_some', brK_true, brK_false, ne_eq, Nat.reduceEqDiff, not_false_eq_true, Addr.add_lit, Int.toNat_natCast, Bool.false_eq_true,  ↓g101, ↓a8, ↓a99, ↓a100, cb, c1, c2])))
            all_goals refine low ?_
            all_goals (repeat' (first | done | with_reducible (first | refine y1 ?_ (by omega) | refine y2 ?_ (by omega) | refine y3 (fun _ => ?_) (fun _ => ?_) | refine y4 ?_ (by omega) (by omega) | refine y5 ?_ (by omega) | refine y6 ?_ (by with_unfolding_all rfl) | refine y7 ?_ (by with_unfolding_all rfl) | refine y8 ?_ (by with_unfolding_all rfl) | refine y9 ?_ (by with_unfolding_all rfl) | refine ya ?_ (by with_unfolding_all rfl)) | (simp -dsimp only [↓getK_same, ↓getK_ne, ↓evK_tmp, ↓evK_int, ↓gdV_var, ↓opsW_d, ↓opsW_gd, ↓opW_move, ↓opW_bin, ↓bin_leq, ↓evs_nil, ↓evs_cons, ↓opW_call, brK_true, ne_eq, Nat.reduceEqDiff, not_false_eq_true, l97])))
            all_goals refine low ?_
            all_goals (repeat' (first | done | with_reducible (first | refine y1 ?_ (by omega) | refine y2 ?_ (by omega) | refine y3 (fun _ => ?_) (fun _ => ?_) | refine y4 ?_ (by omega) (by omega) | refine y5 ?_ (by omega) | refine y6 ?_ (by with_unfolding_all rfl) | refine y7 ?_ (by with_unfolding_all rfl) | refine y8 ?_ (by with_unfolding_all rfl) | refine y9 ?_ (by with_unfolding_all rfl) | refine ya ?_ (by with_unfolding_all rfl)) | (simp -dsimp only [↓cw_ops, ↓cw_seq, ↓cw_ret, ↓cw_cond, ↓seqK_normal, ↓seqK_ret, ↓blockK_ret, ↓loopK_ret, ↓getK_same, ↓getK_ne, ↓evK_tmp, ↓evK_int, ↓condV_var, ↓gdV_var, ↓opsW_nil, ↓opsW_d, ↓opsW_gd, ↓opW_assign, ↓opW_pick, ↓opW_bin, ↓bin_leq, ↓resK_two, ↓r77_40_w, ↓s77_41_w, ↓s77_42_w, brK_true, brK_false, ne_eq, Nat.reduceEqDiff, not_false_eq_true, Bool.false_eq_true,  ↓opW_mkIface mk107, l122])))
            all_goals exact sx
        · skip
          all_goals (repeat' (first | done | with_reducible (first | refine y1 ?_ (by omega) | refine y2 ?_ (by omega) | refine y3 (fun _ => ?_) (fun _ => ?_) | refine y4 ?_ (by omega) (by omega) | refine y5 ?_ (by omega) | refine y6 ?_ (by with_unfolding_all rfl) | refine y7 ?_ (by with_unfolding_all rfl) | refine y8 ?_ (by with_unfolding_all rfl) | refine y9 ?_ (by with_unfolding_all rfl) | refine ya ?_ (by with_unfolding_all rfl)) | (simp -dsimp only [↓cw_skip, ↓cw_ops, ↓cw_seq, ↓cw_block, ↓cw_cond, ↓seqK_normal, ↓getK_same, ↓getK_ne, ↓evK_tmp, ↓evK_int, ↓evK_bool, ↓condV_var, ↓gdV_var, ↓opsW_nil, ↓opsW_d, ↓opsW_gd, ↓opW_move, ↓opW_assign, ↓opW_pick, ↓opW_bin, ↓bin_eql, ↓bin_lss, ↓bin_leq, ↓ld1_some, ↓idxS_some, ↓evs_nil, ↓evs_cons, ↓opW_call, ↓ia_87, ↓ld_5, ↓r77_43_w, ↓s77_44_w, ↓s77_45_w, ↓r77_46_w, ↓s77_47_w, ↓s77_48_w, ↓r77_49_w, ↓s77_50_w, ↓s77_51_w, ↓r77_52_w, ↓s77_53_w, ↓r77_54_w, ↓s77_55_w, ↓s77_56_w, ↓s77_57_w, ↓s77_58_w, ↓r77_59_w, ↓s77_60_w, onV_some', brK_true, brK_false, ne_eq, Nat.reduceEqDiff, not_false_eq_true, Addr.add_lit, Int.toNat_natCast, Bool.false_eq_true,  ↓g101, ↓a8, ↓a99, ↓a100, cb, c1, c2])))
          all_goals refine low ?_
          all_goals (repeat' (first | done | with_reducible (first | refine y1 ?_ (by omega) | refine y2 ?_ (by omega) | refine y3 (fun _ => ?_) (fun _ => ?_) | refine y4 ?_ (by omega) (by omega) | refine y5 ?_ (by omega) | refine y6 ?_ (by with_unfolding_all rfl) | refine y7 ?_ (by with_unfolding_all rfl) | refine y8 ?_ (by with_unfolding_all rfl) | refine y9 ?_ (by with_unfolding_all rfl) | refine ya ?_ (by with_unfolding_all rfl)) | (simp -dsimp only [↓cw_ops, ↓cw_seq, ↓cw_ret, ↓cw_cond, ↓seqK_normal, ↓seqK_ret, ↓blockK_ret, ↓loopK_ret, ↓getK_same, ↓getK_ne, ↓evK_tmp, ↓evK_int, ↓evK_bool, ↓condV_var, ↓gdV_var, ↓opsW_nil, ↓opsW_d, ↓opsW_gd, ↓opW_move, ↓opW_assign, ↓opW_pick, ↓opW_bin, ↓bin_leq, ↓resK_two, ↓r77_40_w, ↓s77_41_w, ↓s77_42_w, brK_false, ne_eq, Nat.reduceEqDiff, not_false_eq_true, Bool.false_eq_true,  ↓opW_mkIface mk107, l97])))
          all_goals exact sx
      · have c1 : ¬ (48 : Int) ≤ (b : Int) := by omega
        by_cases l97 : 97 ≤ c
        · by_cases l122 : c ≤ 122
          · have e1 : IntKind.u8.wrap (c - 97) = c - 97 := wrap_u8 (by omega) (by omega)
            have e2 : IntKind.u8.wrap (c - 97 + 10) = c - 87 := by rw [wrap_u8 (by omega) (by omega)]; omega
            have e3 : 10 ≤ c - 87 := by omega
            all_goals (repeat' (first | done | with_reducible (first | refine y1 ?_ (by omega) | refine y2 ?_ (by omega) | refine y3 (fun _ => ?_) (fun _ => ?_) | refine y4 ?_ (by omega) (by omega) | refine y5 ?_ (by omega) | refine y6 ?_ (by with_unfolding_all rfl) | refine y7 ?_ (by with_unfolding_all rfl) | refine y8 ?_ (by with_unfolding_all rfl) | refine y9 ?_ (by with_unfolding_all rfl) | refine ya ?_ (by with_unfolding_all rfl)) | (simp -dsimp only [↓cw_skip, ↓cw_ops, ↓cw_seq, ↓cw_block, ↓cw_cond, ↓seqK_normal, ↓getK_same, ↓getK_ne, ↓evK_tmp, ↓evK_int, ↓evK_bool, ↓condV_var, ↓gdV_var, ↓opsW_nil, ↓opsW_d, ↓opsW_gd, ↓opW_move, ↓opW_assign, ↓opW_pick, ↓opW_bin, ↓bin_eql, ↓bin_lss, ↓bin_leq, ↓ld1_some, ↓idxS_some, ↓evs_nil, ↓evs_cons, ↓opW_call, ↓ia_87, ↓ld_5, ↓r77_43_w, ↓s77_44_w, ↓s77_45_w, ↓r77_46_w, ↓s77_47_w, ↓s77_48_w, ↓r77_49_w, ↓s77_50_w, ↓s77_51_w, ↓r77_52_w, ↓s77_53_w, ↓r77_54_w, ↓s77_55_w, ↓s77_56_w, ↓s77_57_w, ↓s77_58_w, ↓r77_59_w, ↓s77_60_w, onV_some', brK_true, brK_false, ne_eq, Nat.reduceEqDiff, not_false_eq_true, Addr.add_lit, Int.toNat_natCast, Bool.false_eq_true,  ↓g101, ↓a99, ↓a100, cb, c1])))
            all_goals refine low ?_
            all_goals (repeat' (first | done | with_reducible (first | refine y1 ?_ (by omega) | refine y2 ?_ (by omega) | refine y3 (fun _ => ?_) (fun _ => ?_) | refine y4 ?_ (by omega) (by omega) | refine y5 ?_ (by omega) | refine y6 ?_ (by with_unfolding_all rfl) | refine y7 ?_ (by with_unfolding_all rfl) | refine y8 ?_ (by with_unfolding_all rfl) | refine y9 ?_ (by with_unfolding_all rfl) | refine ya ?_ (by with_unfolding_all rfl)) | (simp -dsimp only [↓getK_same, ↓getK_ne, ↓evK_tmp, ↓evK_int, ↓gdV_var, ↓opsW_d, ↓opsW_gd, ↓opW_move, ↓opW_bin, ↓bin_leq, ↓evs_nil, ↓evs_cons, ↓opW_call, brK_true, ne_eq, Nat.reduceEqDiff, not_false_eq_true, l97])))
            all_goals refine low ?_
            all_goals (repeat' (first | done | with_reducible (first | refine y1 ?_ (by omega) | refine y2 ?_ (by omega) | refine y3 (fun _ => ?_) (fun _ => ?_) | refine y4 ?_ (by omega) (by omega) | refine y5 ?_ (by omega) | refine y6 ?_ (by with_unfolding_all rfl) | refine y7 ?_ (by with_unfolding_all rfl) | refine y8 ?_ (by with_unfolding_all rfl) | refine y9 ?_ (by with_unfolding_all rfl) | refine ya ?_ (by with_unfolding_all rfl)) | (simp -dsimp only [↓cw_ops, ↓cw_cond, ↓seqK_normal, ↓getK_same, ↓getK_ne, ↓evK_tmp, ↓evK_int, ↓condV_var, ↓gdV_var, ↓opsW_nil, ↓opsW_d, ↓opsW_gd, ↓opW_move, ↓opW_assign, ↓opW_pick, ↓opW_bin, ↓bin_leq, ↓evs_nil, ↓evs_cons, ↓opW_call, ↓r77_38_w, ↓s77_39_w, ↓s77_42_w, brK_true, ne_eq, Nat.reduceEqDiff, not_false_eq_true, l122])))
            all_goals refine low ?_
            all_goals (repeat' (first | done | with_reducible (first | refine y1 ?_ (by omega) | refine y2 ?_ (by omega) | refine y3 (fun _ => ?_) (fun _ => ?_) | refine y4 ?_ (by omega) (by omega) | refine y5 ?_ (by omega) | refine y6 ?_ (by with_unfolding_all rfl) | refine y7 ?_ (by with_unfolding_all rfl) | refine y8 ?_ (by with_unfolding_all rfl) | refine y9 ?_ (by with_unfolding_all rfl) | refine ya ?_ (by with_unfolding_all rfl)) | (simp -dsimp only [↓cw_ops, ↓cw_seq, ↓cw_ret, ↓cw_cond, ↓seqK_normal, ↓seqK_ret, ↓blockK_normal, ↓blockK_ret, ↓loopK_ret, ↓getK_same, ↓getK_ne, ↓evK_tmp, ↓evK_int, ↓condV_var, ↓opsW_nil, ↓opsW_d, ↓opW_move, ↓opW_assign, ↓opW_bin, ↓bin_add, ↓bin_sub, ↓bin_geq, ↓resK_two, ↓cint_int, ↓cv_3_5, ↓r77_28_w, ↓s77_29_w, ↓s77_30_w, ↓r77_31_w, ↓s77_32_w, ↓s77_33_w, brK_true, ne_eq, Nat.reduceEqDiff, not_false_eq_true, ↓opW_mkIface mk107, ↓a1, v2, e1, e2, e3])))
            all_goals exact sx
          · skip
            all_goals (repeat' (first | done | with_reducible (first | refine y1 ?_ (by omega) | refine y2 ?_ (by omega) | refine y3 (fun _ => ?_) (fun _ => ?_) | refine y4 ?_ (by omega) (by omega) | refine y5 ?_ (by omega) | refine y6 ?_ (by with_unfolding_all rfl) | refine y7 ?_ (by with_unfolding_all rfl) | refine y8 ?_ (by with_unfolding_all rfl) | refine y9 ?_ (by with_unfolding_all rfl) | refine ya ?_ (by with_unfolding_all rfl)) | (simp -dsimp only [↓cw_skip, ↓cw_ops, ↓cw_seq, ↓cw_block, ↓cw_cond, ↓seqK_normal, ↓getK_same, ↓getK_ne, ↓evK_tmp, ↓evK_int, ↓evK_bool, ↓condV_var, ↓gdV_var, ↓opsW_nil, ↓opsW_d, ↓opsW_gd, ↓opW_move, ↓opW_assign, ↓opW_pick, ↓opW_bin, ↓bin_eql, ↓bin_lss, ↓bin_leq, ↓ld1_some, ↓idxS_some, ↓evs_nil, ↓evs_cons, ↓opW_call, ↓ia_87, ↓ld_5, ↓r77_43_w, ↓s77_44_w, ↓s77_45_w, ↓r77_46_w, ↓s77_47_w, ↓s77_48_w, ↓r77_49_w, ↓s77_50_w, ↓s77_51_w, ↓r77_52_w, ↓s77_53_w, ↓r77_54_w, ↓s77_55_w, ↓s77_56_w, ↓s77_57_w, ↓s77_58_w, ↓r77_59_w, ↓s77_60_w, onV_some', brK_true, brK_false, ne_eq, Nat.reduceEqDiff, not_false_eq_true, Addr.add_lit, Int.toNat_natCast, Bool.false_eq_true,  ↓g101, ↓a99, ↓a100, cb, c1])))
            all_goals refine low ?_
            all_goals (repeat' (first | done | with_reducible (first | refine y1 ?_ (by omega) | refine y2 ?_ (by omega) | refine y3 (fun _ => ?_) (fun _ => ?_) | refine y4 ?_ (by omega) (by omega) | refine y5 ?_ (by omega) | refine y6 ?_ (by with_unfolding_all rfl) | refine y7 ?_ (by with_unfolding_all rfl) | refine y8 ?_ (by with_unfolding_all rfl) | refine y9 ?_ (by with_unfolding_all rfl) | refine ya ?_ (by with_unfolding_all rfl)) | (simp -dsimp only [↓getK_same, ↓getK_ne, ↓evK_tmp, ↓evK_int, ↓gdV_var, ↓opsW_d, ↓opsW_gd, ↓opW_move, ↓opW_bin, ↓bin_leq, ↓evs_nil, ↓evs_cons, ↓opW_call, brK_true, ne_eq, Nat.reduceEqDiff, not_false_eq_true, l97])))
            all_goals refine low ?_
            all_goals (repeat' (first | done | with_reducible (first | refine y1 ?_ (by omega) | refine y2 ?_ (by omega) | refine y3 (fun _ => ?_) (fun _ => ?_) | refine y4 ?_ (by omega) (by omega) | refine y5 ?_ (by omega) | refine y6 ?_ (by with_unfolding_all rfl) | refine y7 ?_ (by with_unfolding_all rfl) | refine y8 ?_ (by with_unfolding_all rfl) | refine y9 ?_ (by with_unfolding_all rfl) | refine ya ?_ (by with_unfolding_all rfl)) | (simp -dsimp only [↓cw_ops, ↓cw_seq, ↓cw_ret, ↓cw_cond, ↓seqK_normal, ↓seqK_ret, ↓blockK_ret, ↓loopK_ret, ↓getK_same, ↓getK_ne, ↓evK_tmp, ↓evK_int, ↓condV_var, ↓gdV_var, ↓opsW_nil, ↓opsW_d, ↓opsW_gd, ↓opW_assign, ↓opW_pick, ↓opW_bin, ↓bin_leq, ↓resK_two, ↓r77_40_w, ↓s77_41_w, ↓s77_42_w, brK_true, brK_false, ne_eq, Nat.reduceEqDiff, not_false_eq_true, Bool.false_eq_true,  ↓opW_mkIface mk107, l122])))
            all_goals exact sx
        · skip
          all_goals (repeat' (first | done | with_reducible (first | refine y1 ?_ (by omega) | refine y2 ?_ (by omega) | refine y3 (fun _ => ?_) (fun _ => ?_) | refine y4 ?_ (by omega) (by omega) | refine y5 ?_ (by omega) | refine y6 ?_ (by with_unfolding_all rfl) | refine y7 ?_ (by with_unfolding_all rfl) | refine y8 ?_ (by with_unfolding_all rfl) | refine y9 ?_ (by with_unfolding_all rfl) | refine ya ?_ (by with_unfolding_all rfl)) | (simp -dsimp only [↓cw_skip, ↓cw_ops, ↓cw_seq, ↓cw_block, ↓cw_cond, ↓seqK_normal, ↓getK_same, ↓getK_ne, ↓evK_tmp, ↓evK_int, ↓evK_bool, ↓condV_var, ↓gdV_var, ↓opsW_nil, ↓opsW_d, ↓opsW_gd, ↓opW_move, ↓opW_assign, ↓opW_pick, ↓opW_bin, ↓bin_eql, ↓bin_lss, ↓bin_leq, ↓ld1_some, ↓idxS_some, ↓evs_nil, ↓evs_cons, ↓opW_call, ↓ia_87, ↓ld_5, ↓r77_43_w, ↓s77_44_w, ↓s77_45_w, ↓r77_46_w, ↓s77_47_w, ↓s77_48_w, ↓r77_49_w, ↓s77_50_w, ↓s77_51_w, ↓r77_52_w, ↓s77_53_w, ↓r77_54_w, ↓s77_55_w, ↓s77_56_w, ↓s77_57_w, ↓s77_58_w, ↓r77_59_w, ↓s77_60_w, onV_some', brK_true, brK_false, ne_eq, Nat.reduceEqDiff, not_false_eq_true, Addr.add_lit, Int.toNat_natCast, Bool.false_eq_true,  ↓g101, ↓a99, ↓a100, cb, c1])))
          all_goals refine low ?_
          all_goals (repeat' (first | done | with_reducible (first | refine y1 ?_ (by omega) | refine y2 ?_ (by omega) | refine y3 (fun _ => ?_) (fun _ => ?_) | refine y4 ?_ (by omega) (by omega) | refine y5 ?_ (by omega) | refine y6 ?_ (by with_unfolding_all rfl) | refine y7 ?_ (by with_unfolding_all rfl) | refine y8 ?_ (by with_unfolding_all rfl) | refine y9 ?_ (by with_unfolding_all rfl) | refine ya ?_ (by with_unfolding_all rfl)) | (simp -dsimp only [↓cw_ops, ↓cw_seq, ↓cw_ret, ↓cw_cond, ↓seqK_normal, ↓seqK_ret, ↓blockK_ret, ↓loopK_ret, ↓getK_same, ↓getK_ne, ↓evK_tmp, ↓evK_int, ↓evK_bool, ↓condV_var, ↓gdV_var, ↓opsW_nil, ↓opsW_d, ↓opsW_gd, ↓opW_move, ↓opW_assign, ↓opW_pick, ↓opW_bin, ↓bin_leq, ↓resK_two, ↓r77_40_w, ↓s77_41_w, ↓s77_42_w, brK_false, ne_eq, Nat.reduceEqDiff, not_false_eq_true, Bool.false_eq_true,  ↓opW_mkIface mk107, l97])))
          all_goals exact sx
  · have e : k = l.length := by omega
    subst e
    repeat' (first | done | with_reducible (first | refine y1 ?_ (by omega) | refine y2 ?_ (by omega) | refine y3 (fun _ => ?_) (fun _ => ?_) | refine y4 ?_ (by omega) (by omega) | refine y5 ?_ (by omega) | refine y6 ?_ (by with_unfolding_all rfl) | refine y7 ?_ (by with_unfolding_all rfl) | refine y8 ?_ (by with_unfolding_all rfl) | refine y9 ?_ (by with_unfolding_all rfl) | refine ya ?_ (by with_unfolding_all rfl)) | (simp -dsimp only [↓cw_skip, ↓cw_ops, ↓cw_seq, ↓cw_exit, ↓cw_ret, ↓cw_cond, ↓seqK_normal, ↓seqK_exit, ↓blockK_same, ↓loopK_exit, ↓getK_same, ↓getK_ne, ↓evK_tmp, ↓evK_bool, ↓evK_nilIface, ↓condV_var, ↓gdV_var, ↓opsW_nil, ↓opsW_d, ↓opsW_gd, ↓opW_move, ↓opW_assign, ↓opW_pick, ↓opW_bin, ↓bin_lss, ↓resK_two, ↓r77_0_w, ↓s77_1_w, ↓s77_4_w, ↓r77_5_w, ↓s77_6_w, ↓s77_7_w, ↓s77_57_w, ↓s77_58_w, ↓r77_59_w, ↓s77_60_w, brK_false, ne_eq, Nat.reduceEqDiff, not_false_eq_true, Bool.false_eq_true,  ↓g101, ↓g13, ↓g12, ↓a100]))
    exact hK _ h' ha X1
end Go.Proofs.YtjcmcoabckkjoaaDoor.Li

namespace Go.Proofs.YtjcmcoabckkjoaaDoor.Li
open Go.Ev
set_option maxRecDepth 100000
set_option maxHeartbeats 400000
theorem abin_err1 : abin env .neq 76 (.iface 107 (.int .i64 1)) .nilIface = some (.bool true) := by kernel_rfl
theorem abin_err2 : abin env .neq 76 (.iface 107 (.int .i64 2)) .nilIface = some (.bool true) := by kernel_rfl
theorem bin_err {c : Bool} {v : Value} {K : Value → Prop} (hv : NumErr v) : binK env .neq 76 c v .nilIface K = K (.bool true) := by
  obtain ⟨n, hn, rfl⟩ := hv
  rcases hn with rfl | rfl
  · simp only [binK, abin_err1, onV_some']
  · simp only [binK, abin_err2, onV_some']
theorem parse_any {l : List UInt8} {h : Heap} {K : Value → Heap → Prop} (hh : 5 < h.n) (he : errsOk h = true) (hn : l.length ≤ 1000) (hK : ∀ (u : Nat) v h', u < 9007199254740992 → ExtB h.n h h' → K (.tuple #[.int .u64 u, v]) h') :
    Ret env (.func 59) [.string ⟨l.toArray⟩, .int .i64 10, .int .i64 53] h K := by
  refine F59 rfl ?_
  repeat' (first | done | with_reducible (first | refine y1 ?_ (by omega) | refine y2 ?_ (by omega) | refine y3 (fun _ => ?_) (fun _ => ?_) | refine y4 ?_ (by omega) (by omega) | refine y5 ?_ (by omega) | refine y6 ?_ (by with_unfolding_all rfl) | refine y7 ?_ (by with_unfolding_all rfl) | refine y8 ?_ (by with_unfolding_all rfl) | refine y9 ?_ (by with_unfolding_all rfl) | refine ya ?_ (by with_unfolding_all rfl)) | (simp -dsimp only [↓cw_ops, ↓cw_seq, ↓seqK_normal, ↓getK_same, ↓getK_ne, ↓evK_tmp, ↓evK_int, ↓evK_nilIface, ↓opsW_nil, ↓opsW_d, ↓opW_move, ↓opW_assign, ↓evs_nil, ↓evs_cons, ↓opW_call, ↓setAll_cons, ↓setAll_nil, ↓r59_8_w, ↓s59_9_w, ↓r59_10_w, ↓s59_11_w, ne_eq, Nat.reduceEqDiff, Nat.reduceAdd, not_false_eq_true, Nat.one_ne_zero]))
  refine parseIn_any hn (fun u h' hu X => ?_) fun u v h' hu hv X => ?_
  · repeat' (first | done | with_reducible (first | refine y1 ?_ (by omega) | refine y2 ?_ (by omega) | refine y3 (fun _ => ?_) (fun _ => ?_) | refine y4 ?_ (by omega) (by omega) | refine y5 ?_ (by omega) | refine y6 ?_ (by with_unfolding_all rfl) | refine y7 ?_ (by with_unfolding_all rfl) | refine y8 ?_ (by with_unfolding_all rfl) | refine y9 ?_ (by with_unfolding_all rfl) | refine ya ?_ (by with_unfolding_all rfl)) | (simp -dsimp only [↓cw_skip, ↓cw_ops, ↓cw_seq, ↓cw_ret, ↓cw_cond, ↓seqK_normal, ↓getK_same, ↓getK_ne, ↓evK_tmp, ↓evK_nilIface, ↓condV_var, ↓opsW_nil, ↓opsW_d, ↓opW_move, ↓opW_assign, ↓opW_bin, ↓resK_two, ↓opW_extract, ↓ext_tuple, ↓r59_0_w, ↓s59_1_w, ↓s59_4_w, ↓r59_5_w, ↓s59_6_w, ↓s59_7_w, List.getElem?_cons_zero, List.getElem?_cons_succ, onV_some', brK_false, ne_eq, Nat.reduceEqDiff, not_false_eq_true, Bool.false_eq_true,  bin_nil]))
    exact hK u _ h' hu X
  · have hb := fun c K => bin_err (c := c) (K := K) hv
    have hv' := hv
    obtain ⟨n, hn12, rfl⟩ := hv
    have he' := errs_ext hh X he
    have n1 := X.n
    repeat' (first | done | with_reducible (first | refine y1 ?_ (by omega) | refine y2 ?_ (by omega) | refine y3 (fun _ => ?_) (fun _ => ?_) | refine y4 ?_ (by omega) (by omega) | refine y5 ?_ (by omega) | refine y6 ?_ (by with_unfolding_all rfl) | refine y7 ?_ (by with_unfolding_all rfl) | refine y8 ?_ (by with_unfolding_all rfl) | refine y9 ?_ (by with_unfolding_all rfl) | refine ya ?_ (by with_unfolding_all rfl)) | (simp -dsimp only [↓cw_ops, ↓cw_seq, ↓cw_cond, ↓seqK_normal, ↓getK_same, ↓getK_ne, ↓evK_tmp, ↓evK_string, ↓evK_nilIface, ↓condV_var, ↓opsW_nil, ↓opsW_d, ↓opW_move, ↓opW_assign, ↓opW_bin, ↓evs_nil, ↓evs_cons, ↓opW_call, ↓setAll_cons, ↓setAll_nil, ↓opW_extract, ↓ext_tuple, ↓r59_2_w, ↓s59_3_w, ↓s59_4_w, ↓r59_5_w, ↓s59_6_w, ↓s59_7_w, List.getElem?_cons_zero, List.getElem?_cons_succ, onV_some', brK_true, ne_eq, Nat.reduceEqDiff, Nat.reduceAdd, not_false_eq_true, Nat.one_ne_zero, hb]))
    refine toErr_ret (by rw [str_size]; exact hn) he' hn12 ?_
    repeat' (first | done | with_reducible (first | refine y1 ?_ (by omega) | refine y2 ?_ (by omega) | refine y3 (fun _ => ?_) (fun _ => ?_) | refine y4 ?_ (by omega) (by omega) | refine y5 ?_ (by omega) | refine y6 ?_ (by with_unfolding_all rfl) | refine y7 ?_ (by with_unfolding_all rfl) | refine y8 ?_ (by with_unfolding_all rfl) | refine y9 ?_ (by with_unfolding_all rfl) | refine ya ?_ (by with_unfolding_all rfl)) | (simp -dsimp only [↓cw_ret, ↓seqK_normal, ↓seqK_ret, ↓getK_same, ↓getK_ne, ↓evK_tmp, ↓opsW_nil, ↓opsW_d, ↓opW_assign, ↓resK_two, ne_eq, Nat.reduceEqDiff, not_false_eq_true]))
    exact hK u _ _ hu (X.trans (ExtB.new _ n1))
/-! math.Ldexp, of whatever power -/
theorem wrapU64 (n : Int) : (IntKind.wrap .u64 n).toNat < 18446744073709551616 := by
  simp only [IntKind.wrap, IntKind.bits, IntKind.signed]
  omega
theorem flF {n : Int} : FB (.float .f64 (IntKind.wrap .u64 n).toNat) := .inr ⟨_, wrapU64 n, rfl⟩
theorem csign_any {n : Nat} {h : Heap} {K : Value → Heap → Prop} (hK : ∀ v, FB v → K v h) : Ret env (.func 39) [.float .f64 0, .float .f64 n] h K := by
  refine F39 rfl ?_
  repeat' (first | done | with_reducible (first | refine y1 ?_ (by omega) | refine y2 ?_ (by omega) | refine y3 (fun _ => ?_) (fun _ => ?_) | refine y4 ?_ (by omega) (by omega) | refine y5 ?_ (by omega) | refine y6 ?_ (by with_unfolding_all rfl) | refine y7 ?_ (by with_unfolding_all rfl) | refine y8 ?_ (by with_unfolding_all rfl) | refine y9 ?_ (by with_unfolding_all rfl) | refine ya ?_ (by with_unfolding_all rfl)) | (simp -dsimp only [↓cw_ops, ↓cw_seq, ↓seqK_normal, ↓getK_same, ↓getK_ne, ↓evK_tmp, ↓evK_float, ↓opsW_nil, ↓opsW_d, ↓opW_move, ↓opW_assign, ↓evs_nil, ↓evs_cons, ↓opW_call, ↓setAll_cons, ↓setAll_nil, ↓r39_0_w, ↓s39_1_w, ↓r39_2_w, ↓s39_3_w, ne_eq, Nat.reduceEqDiff, Nat.reduceAdd, not_false_eq_true, Nat.one_ne_zero]))
  refine bits_fl ?_
  repeat' (first | done | with_reducible (first | refine y1 ?_ (by omega) | refine y2 ?_ (by omega) | refine y3 (fun _ => ?_) (fun _ => ?_) | refine y4 ?_ (by omega) (by omega) | refine y5 ?_ (by omega) | refine y6 ?_ (by with_unfolding_all rfl) | refine y7 ?_ (by with_unfolding_all rfl) | refine y8 ?_ (by with_unfolding_all rfl) | refine y9 ?_ (by with_unfolding_all rfl) | refine ya ?_ (by with_unfolding_all rfl)) | (simp -dsimp only [↓getK_same, ↓getK_ne, ↓evK_tmp, ↓evK_int, ↓opsW_d, ↓opW_move, ↓opW_bin, ↓evs_nil, ↓evs_cons, ↓opW_call, ↓setAll_cons, ↓setAll_nil, ne_eq, Nat.reduceEqDiff, Nat.reduceAdd, not_false_eq_true, bin_andnot]))
  refine bits_fl ?_
  repeat' (first | done | with_reducible (first | refine y1 ?_ (by omega) | refine y2 ?_ (by omega) | refine y3 (fun _ => ?_) (fun _ => ?_) | refine y4 ?_ (by omega) (by omega) | refine y5 ?_ (by omega) | refine y6 ?_ (by with_unfolding_all rfl) | refine y7 ?_ (by with_unfolding_all rfl) | refine y8 ?_ (by with_unfolding_all rfl) | refine y9 ?_ (by with_unfolding_all rfl) | refine ya ?_ (by with_unfolding_all rfl)) | (simp -dsimp only [↓getK_same, ↓getK_ne, ↓evK_tmp, ↓evK_int, ↓opsW_d, ↓opW_bin, ↓evs_nil, ↓evs_cons, ↓opW_call, ↓bin_and, ne_eq, Nat.reduceEqDiff, not_false_eq_true, bin_or, bin_and]))
  refine from_u ?_
  repeat' (first | done | with_reducible (first | refine y1 ?_ (by omega) | refine y2 ?_ (by omega) | refine y3 (fun _ => ?_) (fun _ => ?_) | refine y4 ?_ (by omega) (by omega) | refine y5 ?_ (by omega) | refine y6 ?_ (by with_unfolding_all rfl) | refine y7 ?_ (by with_unfolding_all rfl) | refine y8 ?_ (by with_unfolding_all rfl) | refine y9 ?_ (by with_unfolding_all rfl) | refine ya ?_ (by with_unfolding_all rfl)) | (simp -dsimp only [↓cw_ret, ↓seqK_normal, ↓getK_same, ↓evK_tmp, ↓opsW_nil, ↓opsW_d, ↓opW_assign, ↓resK_one]))
  exact hK _ flF
theorem inf_one {h : Heap} {K : Value → Heap → Prop} (hK : ∀ v, FB v → K v h) : Ret env (.func 38) [.int .i64 1] h K := inf_ret (hK _ (.inr ⟨_, by omega, rfl⟩))
theorem ldexp_any {u : Nat} {k : Int} {h : Heap} {K : Value → Heap → Prop} (hu : u < 9007199254740992) (hk : -5000 ≤ k ∧ k ≤ 5000) (hK : ∀ v, FB v → K v h) :
    Ret env (.func 79) [.float .f64 (FloatKind.nearest .f64 (u : Int)), .int .i64 k] h K := by
  by_cases h0 : u = 0
  · subst h0
    have hz : FloatKind.nearest .f64 (((0 : Nat) : Int)) = 0 := by decide +kernel
    have e0 : (Ieee.double.order 0 0 == some .eq) = true := by decide +kernel
    rw [hz]
    refine F79 rfl ?_
    repeat' (first | done | with_reducible (first | refine y1 ?_ (by omega) | refine y2 ?_ (by omega) | refine y3 (fun _ => ?_) (fun _ => ?_) | refine y4 ?_ (by omega) (by omega) | refine y5 ?_ (by omega) | refine y6 ?_ (by with_unfolding_all rfl) | refine y7 ?_ (by with_unfolding_all rfl) | refine y8 ?_ (by with_unfolding_all rfl) | refine y9 ?_ (by with_unfolding_all rfl) | refine ya ?_ (by with_unfolding_all rfl)) | (simp -dsimp only [↓cw_ops, ↓cw_seq, ↓cw_block, ↓cw_ret, ↓cw_cond, ↓seqK_normal, ↓seqK_ret, ↓blockK_ret, ↓getK_same, ↓getK_ne, ↓evK_tmp, ↓evK_float, ↓condV_var, ↓opsW_nil, ↓opsW_d, ↓opW_move, ↓opW_assign, ↓opW_bin, ↓resK_one, ↓setAll_cons, ↓setAll_nil, ↓r79_42_w, ↓s79_43_w, ↓s79_49_w, ↓r79_50_w, ↓s79_51_w, ↓s79_52_w, ↓r79_53_w, ↓s79_54_w, brK_true, ne_eq, Nat.reduceEqDiff, Nat.reduceAdd, not_false_eq_true, Nat.one_ne_zero, bin_eqlF, e0]))
    exact hK _ (.inr ⟨0, by omega, rfl⟩)
  have h53 : u.log2 < 53 := (Nat.log2_lt h0).2 hu
  have hL : u.log2 ≤ 52 := by omega
  obtain ⟨g1, g2⟩ := mant52 h0 hL
  rw [nearest_int h0 hL]
  generalize u.log2 = L at *
  generalize u * 2 ^ (52 - L) = M at *
  have hlt : (L + 1022) * 4503599627370496 + M < 9223372036854775808 := by omega
  have hn : negN ((L + 1022) * 4503599627370496 + M) = false := by unfold negN; exact decide_eq_false (by omega)
  have hr : rungN ((L + 1022) * 4503599627370496 + M) = (L + 1022) * 4503599627370496 + M := by unfold rungN; omega
  have hnan : isNan ((L + 1022) * 4503599627370496 + M) = false := by rw [isNan_iff, hr]; exact decide_eq_false (by omega)
  have e0 : (Ieee.double.order ((L + 1022) * 4503599627370496 + M) 0 == some .eq) = false := by
    rw [ord_zero (by omega), hnan, hr, hn, if_neg (by decide), if_neg (by omega), if_neg (by decide)]; rfl
  have e1 : (Ieee.double.order ((L + 1022) * 4503599627370496 + M) 0 == some .lt) = false := by
    rw [ord_zero (by omega), hnan, hr, hn, if_neg (by decide), if_neg (by omega), if_neg (by decide)]; rfl
  have q1 : ((L + 1022) * 4503599627370496 + M) / 4503599627370496 = L + 1023 := by omega
  have w1 : IntKind.wrap .i64 (k + 0) = k := by rw [Int.add_zero]; exact wrap_i64 (by omega) (by omega)
  have w3 : IntKind.wrap .u64 ((L + 1023 : Nat) : Int) = ((L + 1023 : Nat) : Int) := wrap_u64 (by omega) (by omega)
  have w4 : IntKind.wrap .i64 ((L + 1023 : Nat) : Int) = ((L + 1023 : Nat) : Int) := wrap_i64 (by omega) (by omega)
  have w6 : IntKind.wrap .i64 (((L + 1023 : Nat) : Int) - 1023) = (L : Int) := by rw [wrap_i64 (by omega) (by omega)]; omega
  have w7 : IntKind.wrap .i64 (k + (L : Int)) = k + (L : Int) := wrap_i64 (by omega) (by omega)
  have s4 := and2047 (x := L + 1023) (by omega)
  have f1 : FB (.float .f64 4607182418800017408) := .inr ⟨_, by omega, rfl⟩
  have f2 : FB (.float .f64 4368491638549381120) := .inr ⟨_, by omega, rfl⟩
  refine F79 rfl ?_
  repeat' (first | done | with_reducible (first | refine y1 ?_ (by omega) | refine y2 ?_ (by omega) | refine y3 (fun _ => ?_) (fun _ => ?_) | refine y4 ?_ (by omega) (by omega) | refine y5 ?_ (by omega) | refine y6 ?_ (by with_unfolding_all rfl) | refine y7 ?_ (by with_unfolding_all rfl) | refine y8 ?_ (by with_unfolding_all rfl) | refine y9 ?_ (by with_unfolding_all rfl) | refine ya ?_ (by with_unfolding_all rfl)) | (simp -dsimp only [↓cw_ops, ↓cw_seq, ↓cw_block, ↓cw_cond, ↓seqK_normal, ↓getK_same, ↓getK_ne, ↓evK_tmp, ↓evK_int, ↓evK_float, ↓condV_var, ↓opsW_nil, ↓opsW_d, ↓opW_move, ↓opW_assign, ↓opW_bin, ↓evs_nil, ↓evs_cons, ↓opW_call, ↓setAll_cons, ↓setAll_nil, ↓r79_47_w, ↓s79_48_w, ↓s79_49_w, ↓r79_50_w, ↓s79_51_w, ↓s79_52_w, ↓r79_53_w, ↓s79_54_w, brK_false, ne_eq, Nat.reduceEqDiff, Nat.reduceAdd, not_false_eq_true, Nat.one_ne_zero, Bool.false_eq_true,  bin_eqlF, e0]))
  refine isInf_no (by omega) (by rw [hr]; omega) ?_
  repeat' (first | done | with_reducible (first | refine y1 ?_ (by omega) | refine y2 ?_ (by omega) | refine y3 (fun _ => ?_) (fun _ => ?_) | refine y4 ?_ (by omega) (by omega) | refine y5 ?_ (by omega) | refine y6 ?_ (by with_unfolding_all rfl) | refine y7 ?_ (by with_unfolding_all rfl) | refine y8 ?_ (by with_unfolding_all rfl) | refine y9 ?_ (by with_unfolding_all rfl) | refine ya ?_ (by with_unfolding_all rfl)) | (simp -dsimp only [↓getK_same, ↓getK_ne, ↓evK_tmp, ↓gdV_var, ↓opsW_d, ↓opsW_gd, ↓opW_move, ↓evs_nil, ↓evs_cons, ↓opW_call, ↓setAll_cons, ↓setAll_nil, brK_true, ne_eq, Nat.reduceEqDiff, Nat.reduceAdd, not_false_eq_true, Nat.one_ne_zero]))
  refine isNaN_ret (by omega) ?_
  rw [hnan]
  repeat' (first | done | with_reducible (first | refine y1 ?_ (by omega) | refine y2 ?_ (by omega) | refine y3 (fun _ => ?_) (fun _ => ?_) | refine y4 ?_ (by omega) (by omega) | refine y5 ?_ (by omega) | refine y6 ?_ (by with_unfolding_all rfl) | refine y7 ?_ (by with_unfolding_all rfl) | refine y8 ?_ (by with_unfolding_all rfl) | refine y9 ?_ (by with_unfolding_all rfl) | refine ya ?_ (by with_unfolding_all rfl)) | (simp -dsimp only [↓cw_skip, ↓cw_ops, ↓cw_seq, ↓cw_cond, ↓seqK_normal, ↓blockK_normal, ↓getK_same, ↓getK_ne, ↓evK_tmp, ↓condV_var, ↓opsW_nil, ↓opsW_d, ↓opW_move, ↓opW_assign, ↓opW_pick, ↓evs_nil, ↓evs_cons, ↓opW_call, ↓setAll_cons, ↓setAll_nil, ↓r79_40_w, ↓s79_41_w, ↓s79_46_w, brK_false, ne_eq, Nat.reduceEqDiff, Nat.reduceAdd, not_false_eq_true, Nat.one_ne_zero, Bool.false_eq_true]))
  refine norm_ret g1 g2 (by omega) (by omega) ?_
  repeat' (first | done | with_reducible (first | refine y1 ?_ (by omega) | refine y2 ?_ (by omega) | refine y3 (fun _ => ?_) (fun _ => ?_) | refine y4 ?_ (by omega) (by omega) | refine y5 ?_ (by omega) | refine y6 ?_ (by with_unfolding_all rfl) | refine y7 ?_ (by with_unfolding_all rfl) | refine y8 ?_ (by with_unfolding_all rfl) | refine y9 ?_ (by with_unfolding_all rfl) | refine ya ?_ (by with_unfolding_all rfl)) | (simp -dsimp only [↓cw_ops, ↓cw_seq, ↓seqK_normal, ↓getK_same, ↓getK_ne, ↓evK_tmp, ↓opsW_nil, ↓opsW_d, ↓opW_move, ↓opW_assign, ↓opW_bin, ↓bin_add, ↓evs_nil, ↓evs_cons, ↓opW_call, ↓setAll_cons, ↓setAll_nil, ↓opW_extract, ↓ext_tuple, ↓r79_36_w, ↓s79_37_w, ↓r79_38_w, ↓s79_39_w, List.getElem?_cons_zero, List.getElem?_cons_succ, onV_some', ne_eq, Nat.reduceEqDiff, Nat.reduceAdd, not_false_eq_true, Nat.one_ne_zero, Nat.zero_ne_one]))
  refine bits_fl ?_
  by_cases c1 : k + (L : Int) < -1075
  · repeat' (first | done | with_reducible (first | refine y1 ?_ (by omega) | refine y2 ?_ (by omega) | refine y3 (fun _ => ?_) (fun _ => ?_) | refine y4 ?_ (by omega) (by omega) | refine y5 ?_ (by omega) | refine y6 ?_ (by with_unfolding_all rfl) | refine y7 ?_ (by with_unfolding_all rfl) | refine y8 ?_ (by with_unfolding_all rfl) | refine y9 ?_ (by with_unfolding_all rfl) | refine ya ?_ (by with_unfolding_all rfl)) | (simp -dsimp only [↓cw_ops, ↓cw_seq, ↓cw_cond, ↓seqK_normal, ↓getK_same, ↓getK_ne, ↓evK_tmp, ↓evK_int, ↓evK_float, ↓condV_var, ↓opsW_nil, ↓opsW_d, ↓opW_move, ↓opW_assign, ↓opW_bin, ↓bin_add, ↓bin_sub, ↓bin_shr, ↓bin_lss, ↓evs_nil, ↓evs_cons, ↓opW_call, ↓cint_int, ↓bin_and, ↓cv_23_3, ↓r79_28_w, ↓s79_29_w, ↓s79_30_w, ↓r79_31_w, ↓s79_32_w, ↓s79_33_w, ↓r79_34_w, ↓s79_35_w, brK_true, ne_eq, Nat.reduceEqDiff, not_false_eq_true, Nat.one_ne_zero, w1, w4, w6, w7, shr52, q1, s4, bin_and]))
    refine csign_any fun v hv => ?_
    repeat' (first | done | with_reducible (first | refine y1 ?_ (by omega) | refine y2 ?_ (by omega) | refine y3 (fun _ => ?_) (fun _ => ?_) | refine y4 ?_ (by omega) (by omega) | refine y5 ?_ (by omega) | refine y6 ?_ (by with_unfolding_all rfl) | refine y7 ?_ (by with_unfolding_all rfl) | refine y8 ?_ (by with_unfolding_all rfl) | refine y9 ?_ (by with_unfolding_all rfl) | refine ya ?_ (by with_unfolding_all rfl)) | (simp -dsimp only [↓cw_ret, ↓seqK_normal, ↓seqK_ret, ↓getK_same, ↓evK_tmp, ↓opsW_nil, ↓opsW_d, ↓opW_assign, ↓resK_one]))
    exact hK v hv
  by_cases c2 : 1023 < k + (L : Int)
  · repeat' (first | done | with_reducible (first | refine y1 ?_ (by omega) | refine y2 ?_ (by omega) | refine y3 (fun _ => ?_) (fun _ => ?_) | refine y4 ?_ (by omega) (by omega) | refine y5 ?_ (by omega) | refine y6 ?_ (by with_unfolding_all rfl) | refine y7 ?_ (by with_unfolding_all rfl) | refine y8 ?_ (by with_unfolding_all rfl) | refine y9 ?_ (by with_unfolding_all rfl) | refine ya ?_ (by with_unfolding_all rfl)) | (simp -dsimp only [↓cw_skip, ↓cw_ops, ↓cw_seq, ↓cw_cond, ↓seqK_normal, ↓getK_same, ↓getK_ne, ↓evK_tmp, ↓evK_int, ↓evK_float, ↓condV_var, ↓opsW_nil, ↓opsW_d, ↓opW_move, ↓opW_assign, ↓opW_bin, ↓bin_add, ↓bin_sub, ↓bin_shr, ↓bin_lss, ↓bin_gtr, ↓evs_nil, ↓evs_cons, ↓opW_call, ↓cint_int, ↓bin_and, ↓cv_23_3, ↓r79_16_w, ↓s79_17_w, ↓s79_20_w, ↓r79_21_w, ↓s79_22_w, ↓s79_23_w, ↓s79_24_w, ↓r79_25_w, ↓s79_26_w, ↓s79_27_w, ↓s79_30_w, ↓r79_31_w, ↓s79_32_w, ↓s79_33_w, ↓r79_34_w, ↓s79_35_w, brK_true, brK_false, ne_eq, Nat.reduceEqDiff, not_false_eq_true, Nat.one_ne_zero, Bool.false_eq_true,  w1, w4, w6, w7, shr52, q1, s4, bin_and, bin_lssF, e1]))
    refine inf_one fun v hv => ?_
    repeat' (first | done | with_reducible (first | refine y1 ?_ (by omega) | refine y2 ?_ (by omega) | refine y3 (fun _ => ?_) (fun _ => ?_) | refine y4 ?_ (by omega) (by omega) | refine y5 ?_ (by omega) | refine y6 ?_ (by with_unfolding_all rfl) | refine y7 ?_ (by with_unfolding_all rfl) | refine y8 ?_ (by with_unfolding_all rfl) | refine y9 ?_ (by with_unfolding_all rfl) | refine ya ?_ (by with_unfolding_all rfl)) | (simp -dsimp only [↓cw_ret, ↓seqK_normal, ↓seqK_ret, ↓getK_same, ↓evK_tmp, ↓opsW_nil, ↓opsW_d, ↓opW_assign, ↓resK_one]))
    exact hK v hv
  by_cases c3 : k + (L : Int) < -1022
  · repeat' (first | done | with_reducible (first | refine y1 ?_ (by omega) | refine y2 ?_ (by omega) | refine y3 (fun _ => ?_) (fun _ => ?_) | refine y4 ?_ (by omega) (by omega) | refine y5 ?_ (by omega) | refine y6 ?_ (by with_unfolding_all rfl) | refine y7 ?_ (by with_unfolding_all rfl) | refine y8 ?_ (by with_unfolding_all rfl) | refine y9 ?_ (by with_unfolding_all rfl) | refine ya ?_ (by with_unfolding_all rfl)) | (simp -dsimp only [↓cw_skip, ↓cw_ops, ↓cw_seq, ↓cw_cond, ↓seqK_normal, ↓getK_same, ↓getK_ne, ↓evK_tmp, ↓evK_int, ↓evK_float, ↓condV_var, ↓opsW_nil, ↓opsW_d, ↓opW_move, ↓opW_assign, ↓opW_bin, ↓bin_add, ↓bin_sub, ↓bin_shl, ↓bin_shr, ↓bin_lss, ↓bin_gtr, ↓evs_nil, ↓evs_cons, ↓opW_call, ↓cint_int, ↓bin_and, ↓cv_23_3, ↓cv_3_23, ↓r79_0_w, ↓s79_1_w, ↓r79_2_w, ↓s79_3_w, ↓r79_4_w, ↓s79_5_w, ↓r79_6_w, ↓s79_7_w, ↓r79_8_w, ↓s79_9_w, ↓s79_10_w, ↓r79_11_w, ↓s79_12_w, ↓s79_13_w, ↓r79_14_w, ↓s79_15_w, ↓s79_24_w, ↓r79_25_w, ↓s79_26_w, ↓s79_27_w, ↓s79_30_w, ↓r79_31_w, ↓s79_32_w, ↓s79_33_w, ↓r79_34_w, ↓s79_35_w, brK_true, brK_false, ne_eq, Nat.reduceEqDiff, not_false_eq_true, Bool.false_eq_true,  w1, w4, w6, w7, shr52, q1, s4, bin_and, bin_or, bin_andnot]))
    refine from_u ?_
    repeat' (first | done | with_reducible (first | refine y1 ?_ (by omega) | refine y2 ?_ (by omega) | refine y3 (fun _ => ?_) (fun _ => ?_) | refine y4 ?_ (by omega) (by omega) | refine y5 ?_ (by omega) | refine y6 ?_ (by with_unfolding_all rfl) | refine y7 ?_ (by with_unfolding_all rfl) | refine y8 ?_ (by with_unfolding_all rfl) | refine y9 ?_ (by with_unfolding_all rfl) | refine ya ?_ (by with_unfolding_all rfl)) | (simp -dsimp only [↓cw_ret, ↓seqK_normal, ↓getK_same, ↓getK_ne, ↓evK_tmp, ↓opsW_nil, ↓opsW_d, ↓opW_assign, ↓opW_bin, ↓resK_one, ↓bin_mulF, ↓isF_float, ne_eq, Nat.reduceEqDiff, not_false_eq_true]))
    exact hK _ (fA_FB rfl f2 flF)
  · repeat' (first | done | with_reducible (first | refine y1 ?_ (by omega) | refine y2 ?_ (by omega) | refine y3 (fun _ => ?_) (fun _ => ?_) | refine y4 ?_ (by omega) (by omega) | refine y5 ?_ (by omega) | refine y6 ?_ (by with_unfolding_all rfl) | refine y7 ?_ (by with_unfolding_all rfl) | refine y8 ?_ (by with_unfolding_all rfl) | refine y9 ?_ (by with_unfolding_all rfl) | refine ya ?_ (by with_unfolding_all rfl)) | (simp -dsimp only [↓cw_skip, ↓cw_ops, ↓cw_seq, ↓cw_cond, ↓seqK_normal, ↓getK_same, ↓getK_ne, ↓evK_tmp, ↓evK_int, ↓evK_float, ↓condV_var, ↓opsW_nil, ↓opsW_d, ↓opW_move, ↓opW_assign, ↓opW_bin, ↓bin_add, ↓bin_sub, ↓bin_shl, ↓bin_shr, ↓bin_lss, ↓bin_gtr, ↓evs_nil, ↓evs_cons, ↓opW_call, ↓cint_int, ↓bin_and, ↓cv_23_3, ↓cv_3_23, ↓r79_0_w, ↓s79_1_w, ↓r79_2_w, ↓s79_3_w, ↓r79_4_w, ↓s79_5_w, ↓s79_10_w, ↓r79_11_w, ↓s79_12_w, ↓s79_13_w, ↓r79_14_w, ↓s79_15_w, ↓s79_24_w, ↓r79_25_w, ↓s79_26_w, ↓s79_27_w, ↓s79_30_w, ↓r79_31_w, ↓s79_32_w, ↓s79_33_w, ↓r79_34_w, ↓s79_35_w, brK_false, ne_eq, Nat.reduceEqDiff, not_false_eq_true, Bool.false_eq_true,  w1, w4, w6, w7, shr52, q1, s4, bin_and, bin_or, bin_andnot]))
    refine from_u ?_
    repeat' (first | done | with_reducible (first | refine y1 ?_ (by omega) | refine y2 ?_ (by omega) | refine y3 (fun _ => ?_) (fun _ => ?_) | refine y4 ?_ (by omega) (by omega) | refine y5 ?_ (by omega) | refine y6 ?_ (by with_unfolding_all rfl) | refine y7 ?_ (by with_unfolding_all rfl) | refine y8 ?_ (by with_unfolding_all rfl) | refine y9 ?_ (by with_unfolding_all rfl) | refine ya ?_ (by with_unfolding_all rfl)) | (simp -dsimp only [↓cw_ret, ↓seqK_normal, ↓getK_same, ↓getK_ne, ↓evK_tmp, ↓opsW_nil, ↓opsW_d, ↓opW_assign, ↓opW_bin, ↓resK_one, ↓bin_mulF, ↓isF_float, ne_eq, Nat.reduceEqDiff, not_false_eq_true]))
    exact hK _ (fA_FB rfl f1 flF)
theorem ldexp_any' {u : Nat} {k : Int} {h : Heap} {K : Value → Heap → Prop} (hu : u < 9007199254740992) (hk : -5000 ≤ k ∧ k ≤ 5000) (hK : ∀ v, FB v → K v h) :
    Ret env (.func 60) [.float .f64 (FloatKind.nearest .f64 (u : Int)), .int .i64 k] h K := by
  refine F60 rfl ?_
  repeat' (first | done | with_reducible (first | refine y1 ?_ (by omega) | refine y2 ?_ (by omega) | refine y3 (fun _ => ?_) (fun _ => ?_) | refine y4 ?_ (by omega) (by omega) | refine y5 ?_ (by omega) | refine y6 ?_ (by with_unfolding_all rfl) | refine y7 ?_ (by with_unfolding_all rfl) | refine y8 ?_ (by with_unfolding_all rfl) | refine y9 ?_ (by with_unfolding_all rfl) | refine ya ?_ (by with_unfolding_all rfl)) | (simp -dsimp only [↓cw_skip, ↓cw_ops, ↓cw_seq, ↓cw_cond, ↓seqK_normal, ↓getK_same, ↓getK_ne, ↓evK_tmp, ↓evK_bool, ↓evK_float, ↓condV_var, ↓opsW_nil, ↓opsW_d, ↓opW_move, ↓opW_assign, ↓evs_nil, ↓evs_cons, ↓opW_call, ↓setAll_cons, ↓setAll_nil, ↓r60_0_w, ↓s60_1_w, ↓s60_4_w, ↓s60_5_w, ↓r60_6_w, ↓s60_7_w, brK_false, ne_eq, Nat.reduceEqDiff, Nat.reduceAdd, not_false_eq_true, Nat.one_ne_zero, Bool.false_eq_true]))
  refine ldexp_any hu hk fun v hv => ?_
  repeat' (first | done | with_reducible (first | refine y1 ?_ (by omega) | refine y2 ?_ (by omega) | refine y3 (fun _ => ?_) (fun _ => ?_) | refine y4 ?_ (by omega) (by omega) | refine y5 ?_ (by omega) | refine y6 ?_ (by with_unfolding_all rfl) | refine y7 ?_ (by with_unfolding_all rfl) | refine y8 ?_ (by with_unfolding_all rfl) | refine y9 ?_ (by with_unfolding_all rfl) | refine ya ?_ (by with_unfolding_all rfl)) | (simp -dsimp only [↓cw_ret, ↓seqK_normal, ↓getK_same, ↓evK_tmp, ↓opsW_nil, ↓opsW_d, ↓opW_assign, ↓resK_one]))
  exact hK v hv
end Go.Proofs.YtjcmcoabckkjoaaDoor.Li

namespace Go.Proofs.YtjcmcoabckkjoaaDoor.Li
open Go.Ev
set_option maxRecDepth 100000
set_option maxHeartbeats 400000
theorem textL_no {s : List UInt8} (hno : ∀ n, n < 18446744073709551616 → textB n ≠ s) {v : Value} (hv : FB v) : textL v ≠ s := by
  rcases hv with rfl | ⟨n, hn, rfl⟩
  · show [110, 97, 110] ≠ s
    rw [← nan_text]
    exact hno _ (by omega)
  · exact hno n hn
theorem neg_F {v : Value} (hv : FB v) : ∃ u, FB u ∧ ∀ K : Value → Prop, unK .neg v K = K u := by
  rcases hv with rfl | ⟨n, hn, rfl⟩
  · exact ⟨_, .inl rfl, fun K => un_negN⟩
  · exact ⟨_, .inr ⟨n ^^^ 9223372036854775808, Nat.xor_lt_two_pow (n := 64) hn (by decide), rfl⟩, fun K => un_negF'⟩
/-- where no number has the text: the end -/
theorem of_tail_no {s odd : List UInt8} {b : Bool} {fr : Fr} {h : Heap} {K : Value → Heap → Prop} (hno : ∀ n, n < 18446744073709551616 → textB n ≠ s) (ht : tabsOk tabs h = true) (he : errsOk h = true) (hh : 5 < h.n) (hl : odd.length ≤ 1000)
    (g0 : fr.get 0 = some (strV s)) (g7 : fr.get 7 = some (.bool b)) (g8 : ∃ k, fr.get 8 = some (.int .i64 k)) (g9 : fr.get 9 = some (strV odd)) (hK : ∀ h', ExtB h.n h h' → K errT h') : s35_17.wp env 80 none fr h (resK env [.tmp 2, .tmp 3] K) := by
  have g0 := getK_of g0
  have g7 := getK_of g7
  obtain ⟨k, g8⟩ := g8
  have g8 := getK_of g8
  have g9 := getK_of g9
  unfold strV at g0 g9
  unfold errT at hK
  repeat' (first | done | with_reducible (first | refine y1 ?_ (by omega) | refine y2 ?_ (by omega) | refine y3 (fun _ => ?_) (fun _ => ?_) | refine y4 ?_ (by omega) (by omega) | refine y5 ?_ (by omega) | refine y6 ?_ (by with_unfolding_all rfl) | refine y7 ?_ (by with_unfolding_all rfl) | refine y8 ?_ (by with_unfolding_all rfl) | refine y9 ?_ (by with_unfolding_all rfl) | refine ya ?_ (by with_unfolding_all rfl)) | (simp -dsimp only [↓cw_ops, ↓cw_seq, ↓getK_same, ↓evK_tmp, ↓evK_int, ↓opsW_d, ↓opW_move, ↓evs_nil, ↓evs_cons, ↓opW_call, ↓r35_16_w, ↓s35_17_w, ↓g9]))
  refine parse_any hh he hl fun u v h1 hu X1 => ?_
  have n1 := X1.n
  have ht1 := tabs_ext (by omega) X1 ht
  have mn : -5000 ≤ max (min k 5000) (-5000) ∧ max (min k 5000) (-5000) ≤ 5000 := by omega
  generalize hmx : max (min k 5000) (-5000) = k2 at mn
  repeat' (first | done | with_reducible (first | refine y1 ?_ (by omega) | refine y2 ?_ (by omega) | refine y3 (fun _ => ?_) (fun _ => ?_) | refine y4 ?_ (by omega) (by omega) | refine y5 ?_ (by omega) | refine y6 ?_ (by with_unfolding_all rfl) | refine y7 ?_ (by with_unfolding_all rfl) | refine y8 ?_ (by with_unfolding_all rfl) | refine y9 ?_ (by with_unfolding_all rfl) | refine ya ?_ (by with_unfolding_all rfl)) | (simp -dsimp only [↓cw_ops, ↓cw_seq, ↓seqK_normal, ↓getK_same, ↓getK_ne, ↓evK_tmp, ↓evK_int, ↓opsW_nil, ↓opsW_d, ↓opW_move, ↓opW_assign, ↓evs_nil, ↓evs_cons, ↓opW_call, ↓opW_extract, ↓ext_tuple, ↓opW_max, ↓max_int, ↓cif_int, ↓cv_23_27, ↓r35_14_w, ↓s35_15_w, List.getElem?_cons_zero, List.getElem?_cons_succ, onV_some', ne_eq, Nat.reduceEqDiff, not_false_eq_true, ↓g8, ↓opW_min, min_int, hmx]))
  refine ldexp_any' hu mn fun x hx => ?_
  cases b with
  | true =>
    obtain ⟨y, hy, hn⟩ := neg_F hx
    repeat' (first | done | with_reducible (first | refine y1 ?_ (by omega) | refine y2 ?_ (by omega) | refine y3 (fun _ => ?_) (fun _ => ?_) | refine y4 ?_ (by omega) (by omega) | refine y5 ?_ (by omega) | refine y6 ?_ (by with_unfolding_all rfl) | refine y7 ?_ (by with_unfolding_all rfl) | refine y8 ?_ (by with_unfolding_all rfl) | refine y9 ?_ (by with_unfolding_all rfl) | refine ya ?_ (by with_unfolding_all rfl)) | (simp -dsimp only [↓cw_ops, ↓cw_seq, ↓cw_cond, ↓seqK_normal, ↓getK_same, ↓getK_ne, ↓evK_tmp, ↓condV_var, ↓opsW_nil, ↓opsW_d, ↓opW_move, ↓opW_assign, ↓evs_nil, ↓evs_cons, ↓opW_call, ↓opW_un, ↓r35_5_w, ↓s35_6_w, ↓s35_7_w, ↓r35_8_w, ↓s35_9_w, ↓s35_10_w, ↓r35_11_w, ↓s35_12_w, ↓s35_13_w, brK_true, ne_eq, Nat.reduceEqDiff, not_false_eq_true, ↓g7, hn]))
    refine text_v hy ht1 (by omega) fun h2 X2 => ?_
    have hne := bytes_ne (textL_no hno hy)
    have hne : ¬ ((⟨(textL y).toArray⟩ : ByteArray) = ⟨s.toArray⟩) := hne
    unfold strV
    repeat' (first | done | with_reducible (first | refine y1 ?_ (by omega) | refine y2 ?_ (by omega) | refine y3 (fun _ => ?_) (fun _ => ?_) | refine y4 ?_ (by omega) (by omega) | refine y5 ?_ (by omega) | refine y6 ?_ (by with_unfolding_all rfl) | refine y7 ?_ (by with_unfolding_all rfl) | refine y8 ?_ (by with_unfolding_all rfl) | refine y9 ?_ (by with_unfolding_all rfl) | refine ya ?_ (by with_unfolding_all rfl)) | (simp -dsimp only [↓cw_ops, ↓cw_seq, ↓cw_ret, ↓cw_cond, ↓seqK_normal, ↓seqK_ret, ↓getK_same, ↓getK_ne, ↓evK_tmp, ↓evK_int, ↓evK_float, ↓condV_var, ↓opsW_nil, ↓opsW_d, ↓opW_move, ↓opW_assign, ↓opW_bin, ↓resK_two, ↓bin_neqS, ↓r35_2_w, ↓s35_3_w, ↓s35_4_w, brK_true, brK_false, ne_eq, Nat.reduceEqDiff, not_false_eq_true, ↓g0, hne]))
    exact hK h2 (X1.trans (X2.mono n1))
  | false =>
    repeat' (first | done | with_reducible (first | refine y1 ?_ (by omega) | refine y2 ?_ (by omega) | refine y3 (fun _ => ?_) (fun _ => ?_) | refine y4 ?_ (by omega) (by omega) | refine y5 ?_ (by omega) | refine y6 ?_ (by with_unfolding_all rfl) | refine y7 ?_ (by with_unfolding_all rfl) | refine y8 ?_ (by with_unfolding_all rfl) | refine y9 ?_ (by with_unfolding_all rfl) | refine ya ?_ (by with_unfolding_all rfl)) | (simp -dsimp only [↓cw_skip, ↓cw_ops, ↓cw_seq, ↓cw_cond, ↓seqK_normal, ↓getK_same, ↓getK_ne, ↓evK_tmp, ↓condV_var, ↓opsW_nil, ↓opsW_d, ↓opW_move, ↓opW_assign, ↓evs_nil, ↓evs_cons, ↓opW_call, ↓r35_5_w, ↓s35_6_w, ↓s35_7_w, ↓s35_10_w, ↓r35_11_w, ↓s35_12_w, ↓s35_13_w, brK_false, ne_eq, Nat.reduceEqDiff, not_false_eq_true, Bool.false_eq_true,  ↓g7]))
    refine text_v hx ht1 (by omega) fun h2 X2 => ?_
    have hne : ¬ ((⟨(textL x).toArray⟩ : ByteArray) = ⟨s.toArray⟩) := bytes_ne (textL_no hno hx)
    unfold strV
    repeat' (first | done | with_reducible (first | refine y1 ?_ (by omega) | refine y2 ?_ (by omega) | refine y3 (fun _ => ?_) (fun _ => ?_) | refine y4 ?_ (by omega) (by omega) | refine y5 ?_ (by omega) | refine y6 ?_ (by with_unfolding_all rfl) | refine y7 ?_ (by with_unfolding_all rfl) | refine y8 ?_ (by with_unfolding_all rfl) | refine y9 ?_ (by with_unfolding_all rfl) | refine ya ?_ (by with_unfolding_all rfl)) | (simp -dsimp only [↓cw_ops, ↓cw_seq, ↓cw_ret, ↓cw_cond, ↓seqK_normal, ↓seqK_ret, ↓getK_same, ↓getK_ne, ↓evK_tmp, ↓evK_int, ↓evK_float, ↓condV_var, ↓opsW_nil, ↓opsW_d, ↓opW_move, ↓opW_assign, ↓opW_bin, ↓resK_two, ↓bin_neqS, ↓r35_2_w, ↓s35_3_w, ↓s35_4_w, brK_true, brK_false, ne_eq, Nat.reduceEqDiff, not_false_eq_true, ↓g0, hne]))
    exact hK h2 (X1.trans (X2.mono n1))
theorem trim_len (s p : List UInt8) : (Lib.trimPrefix s p).length ≤ s.length := by
  unfold Lib.trimPrefix; split <;> simp
theorem cut_len (s p : List UInt8) : (Lib.cut s p).1.length ≤ s.length ∧ (Lib.cut s p).2.1.length ≤ s.length := by
  unfold Lib.cut; split
  · constructor
    · simp only [List.length_take]; omega
    · simp
  · simp
theorem wrapI64 (n : Int) : -9223372036854775808 ≤ IntKind.wrap .i64 n ∧ IntKind.wrap .i64 n ≤ 9223372036854775807 := by rw [IntKind.wrap_i64]; omega
theorem of_no {s : List UInt8} {h : Heap} {K : Value → Heap → Prop} (hs : s.length ≤ 1000) (hno : ∀ n, n < 18446744073709551616 → textB n ≠ s) (ht : tabsOk tabs h = true) (he : errsOk h = true) (hh : 5 < h.n) (hm : isI (cellAt h ⟨3, 0, none⟩) = true)
    (hK : ∀ h', ExtB 4 h h' → K errT h') : Ret env (.func 35) [strV s] h K := by
  have hlt64 : ∀ n ∈ clsC, n < 18446744073709551616 := by decide
  have hne : ∀ n ∈ clsC, classB n ≠ [] := by decide
  refine of_loop (fun c h' hc _ e => absurd ((textB_cls (hne c hc)).trans e) (hno c (hlt64 c hc))) fun _ fr h1 X1 g0 => ?_
  have hm1 := isI_ext (by omega) X1 hm
  have ht1 := tabs_ext (by omega) X1 ht
  have he1 := errs_ext hh X1 he
  have g0' := g0
  have g0 := getK_of g0
  have n1 := X1.n
  unfold strV at g0
  have hK1 : ∀ h2 h', ExtB h1.n h1 h2 → ExtB h2.n h2 h' → K errT h' := fun h2 h' a b => hK h' ((X1.trans ((a.trans (b.mono a.n)).mono n1)).mono (by omega))
  repeat' (first | done | with_reducible (first | refine y1 ?_ (by omega) | refine y2 ?_ (by omega) | refine y3 (fun _ => ?_) (fun _ => ?_) | refine y4 ?_ (by omega) (by omega) | refine y5 ?_ (by omega) | refine y6 ?_ (by with_unfolding_all rfl) | refine y7 ?_ (by with_unfolding_all rfl) | refine y8 ?_ (by with_unfolding_all rfl) | refine y9 ?_ (by with_unfolding_all rfl) | refine ya ?_ (by with_unfolding_all rfl)) | (simp -dsimp only [↓cw_ops, ↓cw_seq, ↓getK_same, ↓evK_tmp, ↓evK_string, ↓opsW_d, ↓opW_move, ↓evs_nil, ↓evs_cons, ↓opW_call, ↓r35_44_w, ↓s35_45_w, ↓g0]))
  refine cutP_ret (s := s) (p := [45]) ?_
  have hl1 := trim_len s [45]
  generalize Lib.trimPrefix s [45] = rest at hl1 ⊢
  generalize Lib.hasPrefix s [45] = b
  unfold strV
  repeat' (first | done | with_reducible (first | refine y1 ?_ (by omega) | refine y2 ?_ (by omega) | refine y3 (fun _ => ?_) (fun _ => ?_) | refine y4 ?_ (by omega) (by omega) | refine y5 ?_ (by omega) | refine y6 ?_ (by with_unfolding_all rfl) | refine y7 ?_ (by with_unfolding_all rfl) | refine y8 ?_ (by with_unfolding_all rfl) | refine y9 ?_ (by with_unfolding_all rfl) | refine ya ?_ (by with_unfolding_all rfl)) | (simp -dsimp only [↓cw_ops, ↓cw_seq, ↓seqK_normal, ↓getK_same, ↓getK_ne, ↓evK_tmp, ↓evK_int, ↓evK_string, ↓opsW_nil, ↓opsW_d, ↓opW_move, ↓opW_assign, ↓evs_nil, ↓evs_cons, ↓opW_call, ↓opW_extract, ↓ext_tuple, ↓r35_40_w, ↓s35_41_w, ↓r35_42_w, ↓s35_43_w, List.getElem?_cons_zero, List.getElem?_cons_succ, onV_some', ne_eq, Nat.reduceEqDiff, not_false_eq_true]))
  refine cut_ret (s := rest) (p := [42, 50, 94]) hm1 (by omega) ?_
  have hl2 := cut_len rest [42, 50, 94]
  generalize Lib.cut rest [42, 50, 94] = c at hl2 ⊢
  obtain ⟨odd, power, is⟩ := c
  obtain ⟨hl2, hl3⟩ := hl2
  unfold strV
  cases is with
  | true =>
    repeat' (first | done | with_reducible (first | refine y1 ?_ (by omega) | refine y2 ?_ (by omega) | refine y3 (fun _ => ?_) (fun _ => ?_) | refine y4 ?_ (by omega) (by omega) | refine y5 ?_ (by omega) | refine y6 ?_ (by with_unfolding_all rfl) | refine y7 ?_ (by with_unfolding_all rfl) | refine y8 ?_ (by with_unfolding_all rfl) | refine y9 ?_ (by with_unfolding_all rfl) | refine ya ?_ (by with_unfolding_all rfl)) | (simp -dsimp only [↓cw_skip, ↓cw_ops, ↓cw_seq, ↓cw_block, ↓cw_exit, ↓cw_cond, ↓seqK_normal, ↓seqK_exit, ↓blockK_same, ↓blockK_ne, ↓getK_same, ↓getK_ne, ↓evK_tmp, ↓evK_int, ↓condV_var, ↓opsW_nil, ↓opsW_d, ↓opW_move, ↓opW_assign, ↓evs_nil, ↓evs_cons, ↓opW_call, ↓opW_un, ↓un_not, ↓opW_extract, ↓ext_tuple, ↓r35_20_w, ↓s35_21_w, ↓s35_22_w, ↓r35_23_w, ↓s35_24_w, ↓s35_25_w, ↓s35_30_w, ↓r35_31_w, ↓s35_32_w, ↓s35_33_w, ↓s35_34_w, ↓s35_35_w, ↓s35_36_w, ↓r35_37_w, ↓s35_38_w, ↓s35_39_w, List.getElem?_cons_zero, List.getElem?_cons_succ, onV_some', brK_true, brK_false, ne_eq, Nat.reduceEqDiff, not_false_eq_true, Bool.false_eq_true,  Bool.not_true]))
    refine atoi_any (s := power) (by dsimp only at hl3; omega) he1 fun n v h2 _ X2 => ?_
    have ht2 := tabs_ext (by omega) X2 ht1
    have he2 := errs_ext (by omega) X2 he1
    have n2 := X2.n
    repeat' (first | done | with_reducible (first | refine y1 ?_ (by omega) | refine y2 ?_ (by omega) | refine y3 (fun _ => ?_) (fun _ => ?_) | refine y4 ?_ (by omega) (by omega) | refine y5 ?_ (by omega) | refine y6 ?_ (by with_unfolding_all rfl) | refine y7 ?_ (by with_unfolding_all rfl) | refine y8 ?_ (by with_unfolding_all rfl) | refine y9 ?_ (by with_unfolding_all rfl) | refine ya ?_ (by with_unfolding_all rfl)) | (simp -dsimp only [↓cw_ops, ↓cw_exit, ↓seqK_normal, ↓blockK_same, ↓getK_same, ↓getK_ne, ↓evK_tmp, ↓opsW_nil, ↓opsW_d, ↓opW_move, ↓opW_assign, ↓opW_bin, ↓bin_mul, ↓opW_extract, ↓ext_tuple, ↓r35_18_w, ↓s35_19_w, List.getElem?_cons_zero, List.getElem?_cons_succ, onV_some', ne_eq, Nat.reduceEqDiff, not_false_eq_true, Bool.not_true]))
    refine of_tail_no (b := b) hno ht2 he2 (by omega) (odd := odd) (by dsimp only at hl2; omega) ?_ ?_ ?_ ?_ fun h' X' => hK1 h2 h' X2 X'
    · simp only [T.get_set]; simpa [strV] using g0'
    · simp [T.get_set]
    · simp [T.get_set]
    · simp [T.get_set, strV]
  | false =>
    repeat' (first | done | with_reducible (first | refine y1 ?_ (by omega) | refine y2 ?_ (by omega) | refine y3 (fun _ => ?_) (fun _ => ?_) | refine y4 ?_ (by omega) (by omega) | refine y5 ?_ (by omega) | refine y6 ?_ (by with_unfolding_all rfl) | refine y7 ?_ (by with_unfolding_all rfl) | refine y8 ?_ (by with_unfolding_all rfl) | refine y9 ?_ (by with_unfolding_all rfl) | refine ya ?_ (by with_unfolding_all rfl)) | (simp -dsimp only [↓cw_ops, ↓cw_seq, ↓cw_block, ↓cw_exit, ↓cw_cond, ↓seqK_normal, ↓seqK_exit, ↓blockK_same, ↓getK_same, ↓getK_ne, ↓evK_tmp, ↓evK_int, ↓evK_string, ↓condV_var, ↓opsW_nil, ↓opsW_d, ↓opW_move, ↓opW_assign, ↓evs_nil, ↓evs_cons, ↓opW_call, ↓opW_un, ↓un_not, ↓opW_extract, ↓ext_tuple, ↓r35_28_w, ↓s35_29_w, ↓s35_30_w, ↓r35_31_w, ↓s35_32_w, ↓s35_33_w, ↓s35_34_w, ↓s35_35_w, ↓s35_36_w, ↓r35_37_w, ↓s35_38_w, ↓s35_39_w, List.getElem?_cons_zero, List.getElem?_cons_succ, onV_some', brK_true, ne_eq, Nat.reduceEqDiff, not_false_eq_true, Bool.not_false]))
    refine cut_ret (s := rest) (p := [47, 50, 94]) hm1 (by omega) ?_
    have hl4 := cut_len rest [47, 50, 94]
    generalize Lib.cut rest [47, 50, 94] = c at hl4 ⊢
    obtain ⟨odd2, power2, is2⟩ := c
    obtain ⟨hl4, hl5⟩ := hl4
    unfold strV
    cases is2 with
    | true =>
      repeat' (first | done | with_reducible (first | refine y1 ?_ (by omega) | refine y2 ?_ (by omega) | refine y3 (fun _ => ?_) (fun _ => ?_) | refine y4 ?_ (by omega) (by omega) | refine y5 ?_ (by omega) | refine y6 ?_ (by with_unfolding_all rfl) | refine y7 ?_ (by with_unfolding_all rfl) | refine y8 ?_ (by with_unfolding_all rfl) | refine y9 ?_ (by with_unfolding_all rfl) | refine ya ?_ (by with_unfolding_all rfl)) | (simp -dsimp only [↓cw_ops, ↓cw_seq, ↓cw_cond, ↓seqK_normal, ↓blockK_normal, ↓getK_same, ↓getK_ne, ↓evK_tmp, ↓evK_int, ↓condV_var, ↓opsW_nil, ↓opsW_d, ↓opW_move, ↓opW_assign, ↓evs_nil, ↓evs_cons, ↓opW_call, ↓opW_extract, ↓ext_tuple, ↓r35_20_w, ↓s35_21_w, ↓s35_22_w, ↓r35_23_w, ↓s35_24_w, ↓s35_25_w, ↓r35_26_w, ↓s35_27_w, List.getElem?_cons_zero, List.getElem?_cons_succ, onV_some', brK_true, ne_eq, Nat.reduceEqDiff, not_false_eq_true]))
      refine atoi_any (s := power2) (by dsimp only at hl5; omega) he1 fun n v h2 _ X2 => ?_
      have ht2 := tabs_ext (by omega) X2 ht1
      have he2 := errs_ext (by omega) X2 he1
      have n2 := X2.n
      repeat' (first | done | with_reducible (first | refine y1 ?_ (by omega) | refine y2 ?_ (by omega) | refine y3 (fun _ => ?_) (fun _ => ?_) | refine y4 ?_ (by omega) (by omega) | refine y5 ?_ (by omega) | refine y6 ?_ (by with_unfolding_all rfl) | refine y7 ?_ (by with_unfolding_all rfl) | refine y8 ?_ (by with_unfolding_all rfl) | refine y9 ?_ (by with_unfolding_all rfl) | refine ya ?_ (by with_unfolding_all rfl)) | (simp -dsimp only [↓cw_ops, ↓cw_exit, ↓seqK_normal, ↓blockK_same, ↓getK_same, ↓getK_ne, ↓evK_tmp, ↓opsW_nil, ↓opsW_d, ↓opW_move, ↓opW_assign, ↓opW_bin, ↓bin_mul, ↓opW_extract, ↓ext_tuple, ↓r35_18_w, ↓s35_19_w, List.getElem?_cons_zero, List.getElem?_cons_succ, onV_some', ne_eq, Nat.reduceEqDiff, not_false_eq_true, Bool.not_false]))
      refine of_tail_no (b := b) hno ht2 he2 (by omega) (odd := odd2) (by dsimp only at hl4; omega) ?_ ?_ ?_ ?_ fun h' X' => hK1 h2 h' X2 X'
      · simp only [T.get_set]; simpa [strV] using g0'
      · simp [T.get_set]
      · simp [T.get_set]
      · simp [T.get_set, strV]
    | false =>
      repeat' (first | done | with_reducible (first | refine y1 ?_ (by omega) | refine y2 ?_ (by omega) | refine y3 (fun _ => ?_) (fun _ => ?_) | refine y4 ?_ (by omega) (by omega) | refine y5 ?_ (by omega) | refine y6 ?_ (by with_unfolding_all rfl) | refine y7 ?_ (by with_unfolding_all rfl) | refine y8 ?_ (by with_unfolding_all rfl) | refine y9 ?_ (by with_unfolding_all rfl) | refine ya ?_ (by with_unfolding_all rfl)) | (simp -dsimp only [↓cw_skip, ↓cw_ops, ↓cw_seq, ↓cw_exit, ↓cw_cond, ↓seqK_normal, ↓blockK_normal, ↓blockK_same, ↓getK_same, ↓getK_ne, ↓evK_tmp, ↓evK_int, ↓condV_var, ↓opsW_nil, ↓opsW_d, ↓opW_move, ↓opW_assign, ↓opW_extract, ↓ext_tuple, ↓s35_22_w, ↓r35_23_w, ↓s35_24_w, ↓s35_25_w, ↓r35_26_w, ↓s35_27_w, List.getElem?_cons_zero, List.getElem?_cons_succ, onV_some', brK_false, ne_eq, Nat.reduceEqDiff, not_false_eq_true, Bool.false_eq_true,  Bool.not_false]))
      refine of_tail_no (b := b) hno ht1 he1 (by omega) (odd := odd2) (by dsimp only at hl4; omega) ?_ ?_ ?_ ?_ fun h' X' => hK1 h1 h' (ExtB.refl _ _) X'
      · simp only [T.get_set]; simpa [strV] using g0'
      · simp [T.get_set]
      · simp [T.get_set]
      · simp [T.get_set, strV]
end Go.Proofs.YtjcmcoabckkjoaaDoor.Li

