/- The dump's numbers are of one kind. -/
import Derived.Test.YtjcmcoabckkjoaaDoorZLib3
import Derived.Test.YtjcmcoabckkjoaaDoorChecked
import Derived.KernelRfl
set_option linter.unusedSimpArgs false
set_option linter.unusedVariables false
/- The dump's numbers are of one kind. -/
set_option linter.unusedSimpArgs false
set_option linter.unusedVariables false
namespace Go.Proofs.YtjcmcoabckkjoaaDoor.Na
open Go.Ev
set_option maxRecDepth 100000
set_option linter.defProp false
noncomputable def env : Env := envOf Tryd.prog 0 (extFl 18 10 fun _ _ _ => none)
section
variable {fr : Fr} {h : Heap} {K : Value → Heap → Prop} {x y z : Operand} {ps : List (Nat × Operand)}
theorem cv_23_3 : opW env (.convert 23 3 x) fr h K = evK env fr x fun v => cintK .i64 v fun u => K u h := opW_cint (k' := .u64) (by kernel_rfl) (by kernel_rfl)
end
/-! helmsman/helmsmanref31.NaN -/
def r19_0 : List GO := [⟨none, some 12, .move (.tmp 4)⟩,
  ⟨none, some 13, .binOp .eql 3 (.tmp 12) (.const (.int .i64 2047)) 3⟩,
  ⟨none, some 14, .move (.tmp 13)⟩,
  ⟨some (14, true), some 15, .move (.tmp 5)⟩,
  ⟨some (14, true), some 16, .binOp .gtr 23 (.tmp 15) (.const (.int .u64 0)) 23⟩,
  ⟨none, some 17, .pick (.tmp 14) (.tmp 16) (.const (.bool false))⟩,
  ⟨none, some 2, .assign (.tmp 17)⟩]
def r19_0_w {E fr h Q} := @opsW_unf E fr h Q _ _ r19_0.eq_1
def s19_1 : GC := .seq (.ops r19_0) .ret
def s19_1_w {E nt rd fr h Q} := @wp_unf E nt rd fr h Q _ _ s19_1.eq_1
def r19_2 : List GO := [⟨none, some 7, .move (.tmp 0)⟩,
  ⟨none, some 8, .call ⟨.value (.func 40), ⟨[.tmp 7]⟩, ⟨[27]⟩⟩⟩,
  ⟨none, some 6, .move (.tmp 8)⟩,
  ⟨none, some 9, .extract (.tmp 6) 0⟩,
  ⟨none, some 10, .extract (.tmp 6) 1⟩,
  ⟨none, some 11, .extract (.tmp 6) 2⟩,
  ⟨none, some 3, .assign (.tmp 9)⟩,
  ⟨none, some 4, .assign (.tmp 10)⟩,
  ⟨none, some 5, .assign (.tmp 11)⟩]
def r19_2_w {E fr h Q} := @opsW_unf E fr h Q _ _ r19_2.eq_1
def s19_3 : GC := .seq (.ops r19_2) s19_1
def s19_3_w {E nt rd fr h Q} := @wp_unf E nt rd fr h Q _ _ s19_3.eq_1
def r19_4 : List GO := [⟨none, some 2, .assign (.const (.bool false))⟩]
def r19_4_w {E fr h Q} := @opsW_unf E fr h Q _ _ r19_4.eq_1
def s19_5 : GC := .seq (.ops r19_4) s19_3
def s19_5_w {E nt rd fr h Q} := @wp_unf E nt rd fr h Q _ _ s19_5.eq_1
theorem c19 : Tryd.f19.body.bind (clean env 18) = some s19_5 := by kernel_rfl
theorem e19 : env.funs.get 19 = some Tryd.f19 := by kernel_rfl
theorem F19 {args : List Value} {h : Heap} {K : Value → Heap → Prop} (hl : args.length = 1) (w : s19_5.wp env 18 none (setAll args 0 .leaf) h (resK env [.tmp 2] K)) : Ret env (.func 19) args h K :=
  Ret.of_body' rfl e19 c19 rfl rfl (by rw [hl]; decide) w
/-! helmsman/helmsmanref31.parts -/
def r40_0 : List GO := [⟨none, some 8, .move (.tmp 5)⟩,
  ⟨none, some 9, .binOp .gtr 23 (.tmp 8) (.const (.int .u64 9223372036854775807)) 23⟩,
  ⟨none, some 10, .move (.tmp 5)⟩,
  ⟨none, some 11, .binOp .quo 23 (.tmp 10) (.const (.int .u64 4503599627370496)) 23⟩,
  ⟨none, some 12, .binOp .rem 23 (.tmp 11) (.const (.int .u64 2048)) 23⟩,
  ⟨none, some 13, .convert 23 3 (.tmp 12)⟩,
  ⟨none, some 14, .move (.tmp 5)⟩,
  ⟨none, some 15, .binOp .rem 23 (.tmp 14) (.const (.int .u64 4503599627370496)) 23⟩,
  ⟨none, some 2, .assign (.tmp 9)⟩,
  ⟨none, some 3, .assign (.tmp 13)⟩,
  ⟨none, some 4, .assign (.tmp 15)⟩]
def r40_0_w {E fr h Q} := @opsW_unf E fr h Q _ _ r40_0.eq_1
def s40_1 : GC := .seq (.ops r40_0) .ret
def s40_1_w {E nt rd fr h Q} := @wp_unf E nt rd fr h Q _ _ s40_1.eq_1
def r40_2 : List GO := [⟨none, some 6, .move (.tmp 0)⟩,
  ⟨none, some 7, .call ⟨.value (.func 18), ⟨[.tmp 6]⟩, ⟨[27]⟩⟩⟩,
  ⟨none, some 5, .assign (.tmp 7)⟩]
def r40_2_w {E fr h Q} := @opsW_unf E fr h Q _ _ r40_2.eq_1
def s40_3 : GC := .seq (.ops r40_2) s40_1
def s40_3_w {E nt rd fr h Q} := @wp_unf E nt rd fr h Q _ _ s40_3.eq_1
def r40_4 : List GO := [⟨none, some 2, .assign (.const (.bool false))⟩,
  ⟨none, some 3, .assign (.const (.int .i64 0))⟩,
  ⟨none, some 4, .assign (.const (.int .u64 0))⟩]
def r40_4_w {E fr h Q} := @opsW_unf E fr h Q _ _ r40_4.eq_1
def s40_5 : GC := .seq (.ops r40_4) s40_3
def s40_5_w {E nt rd fr h Q} := @wp_unf E nt rd fr h Q _ _ s40_5.eq_1
theorem c40 : Tryd.f40.body.bind (clean env 16) = some s40_5 := by kernel_rfl
theorem e40 : env.funs.get 40 = some Tryd.f40 := by kernel_rfl
theorem F40 {args : List Value} {h : Heap} {K : Value → Heap → Prop} (hl : args.length = 1) (w : s40_5.wp env 16 none (setAll args 0 .leaf) h (resK env [.tmp 2, .tmp 3, .tmp 4] K)) : Ret env (.func 40) args h K :=
  Ret.of_body' rfl e40 c40 rfl rfl (by rw [hl]; decide) w
/-! helmsman/helmsmanref31.Text -/
def r36_0 : List GO := [⟨none, some 67, .move (.tmp 6)⟩,
  ⟨none, some 2, .assign (.tmp 67)⟩]
def r36_0_w {E fr h Q} := @opsW_unf E fr h Q _ _ r36_0.eq_1
def s36_1 : GC := .seq (.ops r36_0) .ret
def s36_1_w {E nt rd fr h Q} := @wp_unf E nt rd fr h Q _ _ s36_1.eq_1
def r36_2 : List GO := [⟨none, some 61, .move (.tmp 6)⟩,
  ⟨none, some 62, .binOp .add 9 (.tmp 61) (.const (.string ⟨⟨[47, 50, 94]⟩⟩)) 9⟩,
  ⟨none, some 63, .move (.tmp 8)⟩,
  ⟨none, some 64, .unOp .neg 3 (.tmp 63)⟩,
  ⟨none, some 65, .call ⟨.value (.func 52), ⟨[.tmp 64]⟩, ⟨[3]⟩⟩⟩,
  ⟨none, some 66, .binOp .add 9 (.tmp 62) (.tmp 65) 9⟩,
  ⟨none, some 2, .assign (.tmp 66)⟩]
def r36_2_w {E fr h Q} := @opsW_unf E fr h Q _ _ r36_2.eq_1
def s36_3 : GC := .seq (.ops r36_2) .ret
def s36_3_w {E nt rd fr h Q} := @wp_unf E nt rd fr h Q _ _ s36_3.eq_1
def s36_4 : GC := .cond (.tmp 60) s36_3 .skip
def s36_4_w {E nt rd fr h Q} := @wp_unf E nt rd fr h Q _ _ s36_4.eq_1
def r36_5 : List GO := [⟨none, some 59, .move (.tmp 8)⟩,
  ⟨none, some 60, .binOp .lss 3 (.tmp 59) (.const (.int .i64 0)) 3⟩]
def r36_5_w {E fr h Q} := @opsW_unf E fr h Q _ _ r36_5.eq_1
def s36_6 : GC := .seq (.ops r36_5) s36_4
def s36_6_w {E nt rd fr h Q} := @wp_unf E nt rd fr h Q _ _ s36_6.eq_1
def s36_7 : GC := .seq (s36_6) s36_1
def s36_7_w {E nt rd fr h Q} := @wp_unf E nt rd fr h Q _ _ s36_7.eq_1
def r36_8 : List GO := [⟨none, some 54, .move (.tmp 6)⟩,
  ⟨none, some 55, .binOp .add 9 (.tmp 54) (.const (.string ⟨⟨[42, 50, 94]⟩⟩)) 9⟩,
  ⟨none, some 56, .move (.tmp 8)⟩,
  ⟨none, some 57, .call ⟨.value (.func 52), ⟨[.tmp 56]⟩, ⟨[3]⟩⟩⟩,
  ⟨none, some 58, .binOp .add 9 (.tmp 55) (.tmp 57) 9⟩,
  ⟨none, some 2, .assign (.tmp 58)⟩]
def r36_8_w {E fr h Q} := @opsW_unf E fr h Q _ _ r36_8.eq_1
def s36_9 : GC := .seq (.ops r36_8) .ret
def s36_9_w {E nt rd fr h Q} := @wp_unf E nt rd fr h Q _ _ s36_9.eq_1
def s36_10 : GC := .cond (.tmp 53) s36_9 .skip
def s36_10_w {E nt rd fr h Q} := @wp_unf E nt rd fr h Q _ _ s36_10.eq_1
def r36_11 : List GO := [⟨none, some 52, .move (.tmp 8)⟩,
  ⟨none, some 53, .binOp .gtr 3 (.tmp 52) (.const (.int .i64 0)) 3⟩]
def r36_11_w {E fr h Q} := @opsW_unf E fr h Q _ _ r36_11.eq_1
def s36_12 : GC := .seq (.ops r36_11) s36_10
def s36_12_w {E nt rd fr h Q} := @wp_unf E nt rd fr h Q _ _ s36_12.eq_1
def s36_13 : GC := .seq (s36_12) s36_7
def s36_13_w {E nt rd fr h Q} := @wp_unf E nt rd fr h Q _ _ s36_13.eq_1
def r36_14 : List GO := [⟨none, some 48, .move (.tmp 6)⟩,
  ⟨none, some 49, .move (.tmp 7)⟩,
  ⟨none, some 50, .call ⟨.value (.func 53), ⟨[.tmp 49]⟩, ⟨[23]⟩⟩⟩,
  ⟨none, some 51, .binOp .add 9 (.tmp 48) (.tmp 50) 9⟩,
  ⟨none, some 6, .assign (.tmp 51)⟩]
def r36_14_w {E fr h Q} := @opsW_unf E fr h Q _ _ r36_14.eq_1
def s36_15 : GC := .seq (.ops r36_14) s36_13
def s36_15_w {E nt rd fr h Q} := @wp_unf E nt rd fr h Q _ _ s36_15.eq_1
def r36_16 : List GO := [⟨none, some 46, .move (.tmp 8)⟩,
  ⟨none, some 47, .binOp .add 3 (.tmp 46) (.const (.int .i64 1)) 3⟩,
  ⟨none, some 8, .assign (.tmp 47)⟩]
def r36_16_w {E fr h Q} := @opsW_unf E fr h Q _ _ r36_16.eq_1
def s36_17 : GC := .ops r36_16
def s36_17_w {E nt rd fr h Q} := @wp_unf E nt rd fr h Q _ _ s36_17.eq_1
def r36_18 : List GO := [⟨none, some 44, .move (.tmp 7)⟩,
  ⟨none, some 45, .binOp .quo 23 (.tmp 44) (.const (.int .u64 2)) 23⟩,
  ⟨none, some 7, .assign (.tmp 45)⟩]
def r36_18_w {E fr h Q} := @opsW_unf E fr h Q _ _ r36_18.eq_1
def s36_19 : GC := .seq (.ops r36_18) s36_17
def s36_19_w {E nt rd fr h Q} := @wp_unf E nt rd fr h Q _ _ s36_19.eq_1
def s36_20 : GC := .block 1 s36_19
def s36_20_w {E nt rd fr h Q} := @wp_unf E nt rd fr h Q _ _ s36_20.eq_1
def s36_21 : GC := .cond (.tmp 43) .skip (.exit 0)
def s36_21_w {E nt rd fr h Q} := @wp_unf E nt rd fr h Q _ _ s36_21.eq_1
def r36_22 : List GO := [⟨none, some 41, .move (.tmp 7)⟩,
  ⟨none, some 42, .binOp .rem 23 (.tmp 41) (.const (.int .u64 2)) 23⟩,
  ⟨none, some 43, .binOp .eql 23 (.tmp 42) (.const (.int .u64 0)) 23⟩]
def r36_22_w {E fr h Q} := @opsW_unf E fr h Q _ _ r36_22.eq_1
def s36_23 : GC := .seq (.ops r36_22) s36_21
def s36_23_w {E nt rd fr h Q} := @wp_unf E nt rd fr h Q _ _ s36_23.eq_1
def s36_24 : GC := .seq (s36_23) s36_20
def s36_24_w {E nt rd fr h Q} := @wp_unf E nt rd fr h Q _ _ s36_24.eq_1
def s36_25 : GC := .loop s36_24
def s36_25_w {E nt rd fr h Q} := @wp_unf E nt rd fr h Q _ _ s36_25.eq_1
def s36_26 : GC := .seq (.block 0 s36_25) s36_15
def s36_26_w {E nt rd fr h Q} := @wp_unf E nt rd fr h Q _ _ s36_26.eq_1
def r36_27 : List GO := [⟨none, some 39, .move (.tmp 4)⟩,
  ⟨none, some 40, .binOp .sub 3 (.tmp 39) (.const (.int .i64 1075)) 3⟩,
  ⟨none, some 8, .assign (.tmp 40)⟩]
def r36_27_w {E fr h Q} := @opsW_unf E fr h Q _ _ r36_27.eq_1
def s36_28 : GC := .ops r36_27
def s36_28_w {E nt rd fr h Q} := @wp_unf E nt rd fr h Q _ _ s36_28.eq_1
def r36_29 : List GO := [⟨none, some 37, .move (.tmp 5)⟩,
  ⟨none, some 38, .binOp .add 23 (.tmp 37) (.const (.int .u64 4503599627370496)) 23⟩,
  ⟨none, some 7, .assign (.tmp 38)⟩]
def r36_29_w {E fr h Q} := @opsW_unf E fr h Q _ _ r36_29.eq_1
def s36_30 : GC := .seq (.ops r36_29) s36_28
def s36_30_w {E nt rd fr h Q} := @wp_unf E nt rd fr h Q _ _ s36_30.eq_1
def s36_31 : GC := .cond (.tmp 36) s36_30 .skip
def s36_31_w {E nt rd fr h Q} := @wp_unf E nt rd fr h Q _ _ s36_31.eq_1
def r36_32 : List GO := [⟨none, some 35, .move (.tmp 4)⟩,
  ⟨none, some 36, .binOp .gtr 3 (.tmp 35) (.const (.int .i64 0)) 3⟩]
def r36_32_w {E fr h Q} := @opsW_unf E fr h Q _ _ r36_32.eq_1
def s36_33 : GC := .seq (.ops r36_32) s36_31
def s36_33_w {E nt rd fr h Q} := @wp_unf E nt rd fr h Q _ _ s36_33.eq_1
def s36_34 : GC := .seq (s36_33) s36_26
def s36_34_w {E nt rd fr h Q} := @wp_unf E nt rd fr h Q _ _ s36_34.eq_1
def r36_35 : List GO := [⟨none, some 34, .move (.tmp 5)⟩,
  ⟨none, some 7, .assign (.tmp 34)⟩,
  ⟨none, some 8, .assign (.const (.int .i64 (-1074)))⟩]
def r36_35_w {E fr h Q} := @opsW_unf E fr h Q _ _ r36_35.eq_1
def s36_36 : GC := .seq (.ops r36_35) s36_34
def s36_36_w {E nt rd fr h Q} := @wp_unf E nt rd fr h Q _ _ s36_36.eq_1
def r36_37 : List GO := [⟨none, some 32, .move (.tmp 6)⟩,
  ⟨none, some 33, .binOp .add 9 (.tmp 32) (.const (.string ⟨⟨[48]⟩⟩)) 9⟩,
  ⟨none, some 2, .assign (.tmp 33)⟩]
def r36_37_w {E fr h Q} := @opsW_unf E fr h Q _ _ r36_37.eq_1
def s36_38 : GC := .seq (.ops r36_37) .ret
def s36_38_w {E nt rd fr h Q} := @wp_unf E nt rd fr h Q _ _ s36_38.eq_1
def s36_39 : GC := .cond (.tmp 31) s36_38 .skip
def s36_39_w {E nt rd fr h Q} := @wp_unf E nt rd fr h Q _ _ s36_39.eq_1
def r36_40 : List GO := [⟨none, some 26, .move (.tmp 4)⟩,
  ⟨none, some 27, .binOp .eql 3 (.tmp 26) (.const (.int .i64 0)) 3⟩,
  ⟨none, some 28, .move (.tmp 27)⟩,
  ⟨some (28, true), some 29, .move (.tmp 5)⟩,
  ⟨some (28, true), some 30, .binOp .eql 23 (.tmp 29) (.const (.int .u64 0)) 23⟩,
  ⟨none, some 31, .pick (.tmp 28) (.tmp 30) (.const (.bool false))⟩]
def r36_40_w {E fr h Q} := @opsW_unf E fr h Q _ _ r36_40.eq_1
def s36_41 : GC := .seq (.ops r36_40) s36_39
def s36_41_w {E nt rd fr h Q} := @wp_unf E nt rd fr h Q _ _ s36_41.eq_1
def s36_42 : GC := .seq (s36_41) s36_36
def s36_42_w {E nt rd fr h Q} := @wp_unf E nt rd fr h Q _ _ s36_42.eq_1
def r36_43 : List GO := [⟨none, some 24, .move (.tmp 6)⟩,
  ⟨none, some 25, .binOp .add 9 (.tmp 24) (.const (.string ⟨⟨[105, 110, 102]⟩⟩)) 9⟩,
  ⟨none, some 2, .assign (.tmp 25)⟩]
def r36_43_w {E fr h Q} := @opsW_unf E fr h Q _ _ r36_43.eq_1
def s36_44 : GC := .seq (.ops r36_43) .ret
def s36_44_w {E nt rd fr h Q} := @wp_unf E nt rd fr h Q _ _ s36_44.eq_1
def s36_45 : GC := .cond (.tmp 23) s36_44 .skip
def s36_45_w {E nt rd fr h Q} := @wp_unf E nt rd fr h Q _ _ s36_45.eq_1
def r36_46 : List GO := [⟨none, some 22, .move (.tmp 4)⟩,
  ⟨none, some 23, .binOp .eql 3 (.tmp 22) (.const (.int .i64 2047)) 3⟩]
def r36_46_w {E fr h Q} := @opsW_unf E fr h Q _ _ r36_46.eq_1
def s36_47 : GC := .seq (.ops r36_46) s36_45
def s36_47_w {E nt rd fr h Q} := @wp_unf E nt rd fr h Q _ _ s36_47.eq_1
def s36_48 : GC := .seq (s36_47) s36_42
def s36_48_w {E nt rd fr h Q} := @wp_unf E nt rd fr h Q _ _ s36_48.eq_1
def r36_49 : List GO := [⟨none, some 2, .assign (.const (.string ⟨⟨[110, 97, 110]⟩⟩))⟩]
def r36_49_w {E fr h Q} := @opsW_unf E fr h Q _ _ r36_49.eq_1
def s36_50 : GC := .seq (.ops r36_49) .ret
def s36_50_w {E nt rd fr h Q} := @wp_unf E nt rd fr h Q _ _ s36_50.eq_1
def s36_51 : GC := .cond (.tmp 21) s36_50 .skip
def s36_51_w {E nt rd fr h Q} := @wp_unf E nt rd fr h Q _ _ s36_51.eq_1
def r36_52 : List GO := [⟨none, some 16, .move (.tmp 4)⟩,
  ⟨none, some 17, .binOp .eql 3 (.tmp 16) (.const (.int .i64 2047)) 3⟩,
  ⟨none, some 18, .move (.tmp 17)⟩,
  ⟨some (18, true), some 19, .move (.tmp 5)⟩,
  ⟨some (18, true), some 20, .binOp .gtr 23 (.tmp 19) (.const (.int .u64 0)) 23⟩,
  ⟨none, some 21, .pick (.tmp 18) (.tmp 20) (.const (.bool false))⟩]
def r36_52_w {E fr h Q} := @opsW_unf E fr h Q _ _ r36_52.eq_1
def s36_53 : GC := .seq (.ops r36_52) s36_51
def s36_53_w {E nt rd fr h Q} := @wp_unf E nt rd fr h Q _ _ s36_53.eq_1
def s36_54 : GC := .seq (s36_53) s36_48
def s36_54_w {E nt rd fr h Q} := @wp_unf E nt rd fr h Q _ _ s36_54.eq_1
def r36_55 : List GO := [⟨none, some 6, .assign (.const (.string ⟨⟨[45]⟩⟩))⟩]
def r36_55_w {E fr h Q} := @opsW_unf E fr h Q _ _ r36_55.eq_1
def s36_56 : GC := .ops r36_55
def s36_56_w {E nt rd fr h Q} := @wp_unf E nt rd fr h Q _ _ s36_56.eq_1
def s36_57 : GC := .cond (.tmp 15) s36_56 .skip
def s36_57_w {E nt rd fr h Q} := @wp_unf E nt rd fr h Q _ _ s36_57.eq_1
def r36_58 : List GO := [⟨none, some 15, .move (.tmp 3)⟩]
def r36_58_w {E fr h Q} := @opsW_unf E fr h Q _ _ r36_58.eq_1
def s36_59 : GC := .seq (.ops r36_58) s36_57
def s36_59_w {E nt rd fr h Q} := @wp_unf E nt rd fr h Q _ _ s36_59.eq_1
def s36_60 : GC := .seq (s36_59) s36_54
def s36_60_w {E nt rd fr h Q} := @wp_unf E nt rd fr h Q _ _ s36_60.eq_1
def r36_61 : List GO := [⟨none, some 6, .assign (.const (.string ⟨⟨[]⟩⟩))⟩]
def r36_61_w {E fr h Q} := @opsW_unf E fr h Q _ _ r36_61.eq_1
def s36_62 : GC := .seq (.ops r36_61) s36_60
def s36_62_w {E nt rd fr h Q} := @wp_unf E nt rd fr h Q _ _ s36_62.eq_1
def r36_63 : List GO := [⟨none, some 10, .move (.tmp 0)⟩,
  ⟨none, some 11, .call ⟨.value (.func 40), ⟨[.tmp 10]⟩, ⟨[27]⟩⟩⟩,
  ⟨none, some 9, .move (.tmp 11)⟩,
  ⟨none, some 12, .extract (.tmp 9) 0⟩,
  ⟨none, some 13, .extract (.tmp 9) 1⟩,
  ⟨none, some 14, .extract (.tmp 9) 2⟩,
  ⟨none, some 3, .assign (.tmp 12)⟩,
  ⟨none, some 4, .assign (.tmp 13)⟩,
  ⟨none, some 5, .assign (.tmp 14)⟩]
def r36_63_w {E fr h Q} := @opsW_unf E fr h Q _ _ r36_63.eq_1
def s36_64 : GC := .seq (.ops r36_63) s36_62
def s36_64_w {E nt rd fr h Q} := @wp_unf E nt rd fr h Q _ _ s36_64.eq_1
def r36_65 : List GO := [⟨none, some 2, .assign (.const (.string ⟨⟨[]⟩⟩))⟩]
def r36_65_w {E fr h Q} := @opsW_unf E fr h Q _ _ r36_65.eq_1
def s36_66 : GC := .seq (.ops r36_65) s36_64
def s36_66_w {E nt rd fr h Q} := @wp_unf E nt rd fr h Q _ _ s36_66.eq_1
theorem c36 : Tryd.f36.body.bind (clean env 68) = some s36_66 := by kernel_rfl
theorem e36 : env.funs.get 36 = some Tryd.f36 := by kernel_rfl
theorem F36 {args : List Value} {h : Heap} {K : Value → Heap → Prop} (hl : args.length = 1) (w : s36_66.wp env 68 none (setAll args 0 .leaf) h (resK env [.tmp 2] K)) : Ret env (.func 36) args h K :=
  Ret.of_body' rfl e36 c36 rfl rfl (by rw [hl]; decide) w

end Go.Proofs.YtjcmcoabckkjoaaDoor.Na


namespace Go.Proofs.YtjcmcoabckkjoaaDoor.Na
open Go.Ev Go.RowKit
set_option maxRecDepth 100000
theorem bits_ret {n : Nat} {h : Heap} {K : Value → Heap → Prop} (hK : K (.int .u64 n) h) : Ret env (.func 18) [.float .f64 n] h K := Ret.ext rfl hK
theorem parts_ret {n : Nat} {h : Heap} {K : Value → Heap → Prop} (hn : n < 18446744073709551616)
    (hK : ∀ b, K (.tuple #[.bool b, .int .i64 (n / 4503599627370496 % 2048 : Nat), .int .u64 (n % 4503599627370496 : Nat)]) h) : Ret env (.func 40) [.float .f64 n] h K := by
  have e0 : (n : Int).tdiv 4503599627370496 = (n / 4503599627370496 : Nat) := rfl
  have e1 : IntKind.u64.wrap ((n : Int).tdiv 4503599627370496) = (n / 4503599627370496 : Nat) := by rw [e0]; exact wrap_u64 (by omega) (by omega)
  have e2 : ((n / 4503599627370496 : Nat) : Int).tmod 2048 = (n / 4503599627370496 % 2048 : Nat) := rfl
  have e3 : IntKind.i64.wrap (n / 4503599627370496 % 2048 : Nat) = (n / 4503599627370496 % 2048 : Nat) := wrap_i64 (by omega) (by omega)
  have e4 : (n : Int).tmod 4503599627370496 = (n % 4503599627370496 : Nat) := rfl
  refine F40 rfl ?_
  repeat' (first | done | with_reducible (first | refine y1 ?_ (by omega) | refine y2 ?_ (by omega) | refine y3 (fun _ => ?_) (fun _ => ?_) | refine y4 ?_ (by omega) (by omega) | refine y5 ?_ (by omega) | refine y6 ?_ (by with_unfolding_all rfl) | refine y7 ?_ (by with_unfolding_all rfl) | refine y8 ?_ (by with_unfolding_all rfl) | refine y9 ?_ (by with_unfolding_all rfl) | refine ya ?_ (by with_unfolding_all rfl)) | (simp -dsimp only [↓cw_ops, ↓cw_seq, ↓seqK_normal, ↓getK_same, ↓getK_ne, ↓evK_tmp, ↓evK_int, ↓evK_bool, ↓opsW_nil, ↓opsW_d, ↓opW_move, ↓opW_assign, ↓evs_nil, ↓evs_cons, ↓opW_call, ↓setAll_cons, ↓setAll_nil, ↓r40_2_w, ↓s40_3_w, ↓r40_4_w, ↓s40_5_w, ne_eq, Nat.reduceEqDiff, not_false_eq_true]))
  refine bits_ret ?_
  repeat' (first | done | with_reducible (first | refine y1 ?_ (by omega) | refine y2 ?_ (by omega) | refine y3 (fun _ => ?_) (fun _ => ?_) | refine y4 ?_ (by omega) (by omega) | refine y5 ?_ (by omega) | refine y6 ?_ (by with_unfolding_all rfl) | refine y7 ?_ (by with_unfolding_all rfl) | refine y8 ?_ (by with_unfolding_all rfl) | refine y9 ?_ (by with_unfolding_all rfl) | refine ya ?_ (by with_unfolding_all rfl)) | (simp -dsimp only [↓cw_ops, ↓cw_seq, ↓cw_ret, ↓seqK_normal, ↓getK_same, ↓getK_ne, ↓evK_tmp, ↓evK_int, ↓opsW_nil, ↓opsW_d, ↓opW_move, ↓opW_assign, ↓opW_bin, ↓bin_quo, ↓bin_rem, ↓bin_gtr, ↓cint_int, ↓resK_three, ↓cv_23_3, ↓r40_0_w, ↓s40_1_w, ne_eq, Nat.reduceEqDiff, not_false_eq_true, e1, e2, e3, e4]))
  · exact hK _
  · exact hK _
theorem nan_ret {n : Nat} {h : Heap} {K : Value → Heap → Prop} (hn : n < 18446744073709551616) (hK : K (.bool (isNan n)) h) : Ret env (.func 19) [.float .f64 n] h K := by
  have key : isNan n = decide (n / 4503599627370496 % 2048 = 2047 ∧ 0 < n % 4503599627370496) := by
    simp only [isNan, blt_eq, decide_eq_decide]
    omega
  rw [key] at hK
  refine F19 rfl ?_
  repeat' (first | done | with_reducible (first | refine y1 ?_ (by omega) | refine y2 ?_ (by omega) | refine y3 (fun _ => ?_) (fun _ => ?_) | refine y4 ?_ (by omega) (by omega) | refine y5 ?_ (by omega) | refine y6 ?_ (by with_unfolding_all rfl) | refine y7 ?_ (by with_unfolding_all rfl) | refine y8 ?_ (by with_unfolding_all rfl) | refine y9 ?_ (by with_unfolding_all rfl) | refine ya ?_ (by with_unfolding_all rfl)) | (simp -dsimp only [↓cw_ops, ↓cw_seq, ↓seqK_normal, ↓getK_same, ↓getK_ne, ↓evK_tmp, ↓evK_bool, ↓opsW_nil, ↓opsW_d, ↓opW_move, ↓opW_assign, ↓evs_nil, ↓evs_cons, ↓opW_call, ↓setAll_cons, ↓setAll_nil, ↓r19_2_w, ↓s19_3_w, ↓r19_4_w, ↓s19_5_w, ne_eq, Nat.reduceEqDiff, not_false_eq_true]))
  refine parts_ret hn fun b => ?_
  repeat' (first | done | with_reducible (first | refine y1 ?_ (by omega) | refine y2 ?_ (by omega) | refine y3 (fun _ => ?_) (fun _ => ?_) | refine y4 ?_ (by omega) (by omega) | refine y5 ?_ (by omega) | refine y6 ?_ (by with_unfolding_all rfl) | refine y7 ?_ (by with_unfolding_all rfl) | refine y8 ?_ (by with_unfolding_all rfl) | refine y9 ?_ (by with_unfolding_all rfl) | refine ya ?_ (by with_unfolding_all rfl)) | (simp -dsimp only [↓cw_ops, ↓cw_seq, ↓cw_ret, ↓seqK_normal, ↓getK_same, ↓getK_ne, ↓evK_tmp, ↓evK_int, ↓evK_bool, ↓condV_var, ↓gdV_var, ↓opsW_nil, ↓opsW_d, ↓opsW_gd, ↓opW_move, ↓opW_assign, ↓opW_pick, ↓opW_bin, ↓bin_eql, ↓bin_gtr, ↓resK_one, ↓opW_extract, ↓ext_tuple, ↓r19_0_w, ↓s19_1_w, List.getElem?_cons_zero, List.getElem?_cons_succ, onV_some', brK_true, brK_false, ne_eq, Nat.reduceEqDiff, not_false_eq_true, Bool.false_eq_true]))
  · rename_i h1 h2
    rw [decide_eq_true (show n / 4503599627370496 % 2048 = 2047 ∧ 0 < n % 4503599627370496 by omega)] at hK; exact hK
  · rename_i h1 h2
    rw [decide_eq_false (show ¬ (n / 4503599627370496 % 2048 = 2047 ∧ 0 < n % 4503599627370496) by omega)] at hK; exact hK
  · rename_i h1
    rw [decide_eq_false (show ¬ (n / 4503599627370496 % 2048 = 2047 ∧ 0 < n % 4503599627370496) by omega)] at hK; exact hK
theorem names_ok : namesB Tryd.prog = true := by kernel_rfl
theorem mixed : Tryd.prog.follows .mixedOrders = true := by kernel_rfl
theorem bits_ext : Extern.find Tryd.f18 = some Extern.MathFloatBits.float64bits := by kernel_rfl
theorem from_ext : Extern.find Tryd.f10 = some Extern.MathFloatBits.float64frombits := by kernel_rfl
theorem fl_ok (ng : Nat) : ExtOK Tryd.prog (envOf Tryd.prog ng (extFl 18 10 fun _ _ _ => none)) :=
  extFl_ok (noExt Tryd.prog ng) Tryd.func18 (by kernel_rfl) (by kernel_rfl) (by kernel_rfl) bits_ext Tryd.func10 (by kernel_rfl) (by kernel_rfl) (by kernel_rfl) from_ext
theorem nan_calls (n : Nat) (hn : n < 18446744073709551616) (w : World) : Calls Tryd.prog 19 #[.float .f64 n] w fun e w' => e = .returned (.bool (isNan n)) ∧ Below w.heap.size w w' :=
  shut_calls (envOK Tryd.prog 0 _ mixed) (fl_ok 0) (namesOK names_ok) rfl (.cons (.float _ _) .nil) rfl (nan_ret hn rfl) (fun ρ u r => by cases r; rfl) w
theorem body19 : Tryd.f19.body.isSome = true := by kernel_rfl
theorem nan_ok (ng : Nat) : ExtOK Tryd.prog (envOf Tryd.prog ng (extNan 19 (extFl 18 10 fun _ _ _ => none))) := by
  obtain ⟨c, hc⟩ := Option.isSome_iff_exists.1 body19
  exact extNan_ok (fl_ok ng) Tryd.func19 hc (namesOK names_ok) nan_calls
def nanS : Value := .string ⟨⟨[110, 97, 110]⟩⟩
theorem nanText_ret {n : Nat} {h : Heap} {K : Value → Heap → Prop} (hn : n < 18446744073709551616) (hx : isNan n = true) (hK : K nanS h) : Ret env (.func 36) [.float .f64 n] h K := by
  have key : n / 4503599627370496 % 2048 = 2047 ∧ 0 < n % 4503599627370496 := by
    simp only [isNan, blt_eq, decide_eq_true_eq] at hx
    omega
  refine F36 rfl ?_
  repeat' (first | done | with_reducible (first | refine y1 ?_ (by omega) | refine y2 ?_ (by omega) | refine y3 (fun _ => ?_) (fun _ => ?_) | refine y4 ?_ (by omega) (by omega) | refine y5 ?_ (by omega) | refine y6 ?_ (by with_unfolding_all rfl) | refine y7 ?_ (by with_unfolding_all rfl) | refine y8 ?_ (by with_unfolding_all rfl) | refine y9 ?_ (by with_unfolding_all rfl) | refine ya ?_ (by with_unfolding_all rfl)) | (simp -dsimp only [↓cw_ops, ↓cw_seq, ↓seqK_normal, ↓getK_same, ↓getK_ne, ↓evK_tmp, ↓evK_string, ↓opsW_nil, ↓opsW_d, ↓opW_move, ↓opW_assign, ↓evs_nil, ↓evs_cons, ↓opW_call, ↓setAll_cons, ↓setAll_nil, ↓r36_63_w, ↓s36_64_w, ↓r36_65_w, ↓s36_66_w, ne_eq, Nat.reduceEqDiff, not_false_eq_true]))
  refine parts_ret hn fun b => ?_
  cases b with
  | true =>
    repeat' (first | done | with_reducible (first | refine y1 ?_ (by omega) | refine y2 ?_ (by omega) | refine y3 (fun _ => ?_) (fun _ => ?_) | refine y4 ?_ (by omega) (by omega) | refine y5 ?_ (by omega) | refine y6 ?_ (by with_unfolding_all rfl) | refine y7 ?_ (by with_unfolding_all rfl) | refine y8 ?_ (by with_unfolding_all rfl) | refine y9 ?_ (by with_unfolding_all rfl) | refine ya ?_ (by with_unfolding_all rfl)) | (simp -dsimp only [↓cw_ops, ↓cw_seq, ↓cw_ret, ↓cw_cond, ↓seqK_normal, ↓seqK_ret, ↓getK_same, ↓getK_ne, ↓evK_tmp, ↓evK_int, ↓evK_string, ↓condV_var, ↓gdV_var, ↓opsW_nil, ↓opsW_d, ↓opsW_gd, ↓opW_move, ↓opW_assign, ↓opW_pick, ↓opW_bin, ↓bin_eql, ↓bin_gtr, ↓resK_one, ↓opW_extract, ↓ext_tuple, ↓r36_49_w, ↓s36_50_w, ↓s36_51_w, ↓r36_52_w, ↓s36_53_w, ↓s36_54_w, ↓r36_55_w, ↓s36_56_w, ↓s36_57_w, ↓r36_58_w, ↓s36_59_w, ↓s36_60_w, ↓r36_61_w, ↓s36_62_w, List.getElem?_cons_zero, List.getElem?_cons_succ, onV_some', brK_true, ne_eq, Nat.reduceEqDiff, not_false_eq_true]))
    exact hK
  | false =>
    repeat' (first | done | with_reducible (first | refine y1 ?_ (by omega) | refine y2 ?_ (by omega) | refine y3 (fun _ => ?_) (fun _ => ?_) | refine y4 ?_ (by omega) (by omega) | refine y5 ?_ (by omega) | refine y6 ?_ (by with_unfolding_all rfl) | refine y7 ?_ (by with_unfolding_all rfl) | refine y8 ?_ (by with_unfolding_all rfl) | refine y9 ?_ (by with_unfolding_all rfl) | refine ya ?_ (by with_unfolding_all rfl)) | (simp -dsimp only [↓cw_skip, ↓cw_ops, ↓cw_seq, ↓cw_ret, ↓cw_cond, ↓seqK_normal, ↓seqK_ret, ↓getK_same, ↓getK_ne, ↓evK_tmp, ↓evK_int, ↓evK_string, ↓condV_var, ↓gdV_var, ↓opsW_nil, ↓opsW_d, ↓opsW_gd, ↓opW_move, ↓opW_assign, ↓opW_pick, ↓opW_bin, ↓bin_eql, ↓bin_gtr, ↓resK_one, ↓opW_extract, ↓ext_tuple, ↓r36_49_w, ↓s36_50_w, ↓s36_51_w, ↓r36_52_w, ↓s36_53_w, ↓s36_54_w, ↓s36_57_w, ↓r36_58_w, ↓s36_59_w, ↓s36_60_w, ↓r36_61_w, ↓s36_62_w, List.getElem?_cons_zero, List.getElem?_cons_succ, onV_some', brK_true, brK_false, ne_eq, Nat.reduceEqDiff, not_false_eq_true, Bool.false_eq_true]))
    exact hK
theorem nanText_calls (n : Nat) (hn : n < 18446744073709551616) (hx : isNan n = true) (w : World) : Calls Tryd.prog 36 #[.float .f64 n] w fun e w' => e = .returned nanS ∧ Below w.heap.size w w' :=
  shut_calls (envOK Tryd.prog 0 _ mixed) (fl_ok 0) (namesOK names_ok) rfl (.cons (.float _ _) .nil) rfl (nanText_ret hn hx rfl) (fun ρ u r => by cases r; rfl) w
theorem body36 : Tryd.f36.body.isSome = true := by kernel_rfl
theorem nanText_ok (ng : Nat) : ExtOK Tryd.prog (envOf Tryd.prog ng (extChan 36 nanS (extNan 19 (extFl 18 10 fun _ _ _ => none)))) := by
  obtain ⟨c, hc⟩ := Option.isSome_iff_exists.1 body36
  exact extChan_ok (nan_ok ng) Tryd.func36 hc (namesOK names_ok) (fun ρ => .string _) nanText_calls
end Go.Proofs.YtjcmcoabckkjoaaDoor.Na

