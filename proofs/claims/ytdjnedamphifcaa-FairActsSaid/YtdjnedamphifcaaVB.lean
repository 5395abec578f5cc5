/- The code of FairActs and of what is about acts, as plain Lean. Conditions, none. -/
import Derived.Test.YtdjnedamphifcaaVA
import Derived.KernelRfl
set_option linter.unusedSimpArgs false
set_option linter.unusedVariables false
namespace Go.Proofs.Ytdjnedamphifcaa
open Go.Ev
set_option maxRecDepth 100000
set_option linter.defProp false
/-! helmsman/helmsmanlaw30.FairActs -/
def r3_0 : List GO := [⟨none, some 88, .move (.tmp 3)⟩,
  ⟨none, some 89, .binOp .eql 3 (.tmp 88) (.const (.int .i64 0)) 3⟩,
  ⟨none, some 90, .move (.tmp 89)⟩,
  ⟨some (90, false), some 91, .fieldAddr 25 (.tmp 5) 0⟩,
  ⟨some (90, false), some 92, .load 3 (.tmp 91)⟩,
  ⟨some (90, false), some 93, .move (.tmp 13)⟩,
  ⟨some (90, false), some 94, .move (.tmp 11)⟩,
  ⟨some (90, false), some 95, .call ⟨.value (.func 7), ⟨[.tmp 92, .tmp 93, .tmp 94]⟩, ⟨[3, 3, 26]⟩⟩⟩,
  ⟨none, some 96, .pick (.tmp 90) (.const (.bool true)) (.tmp 95)⟩,
  ⟨none, some 97, .move (.tmp 96)⟩,
  ⟨some (97, true), some 98, .call ⟨.value (.func 6), ⟨[]⟩, ⟨[]⟩⟩⟩,
  ⟨none, some 99, .pick (.tmp 97) (.tmp 98) (.const (.bool false))⟩,
  ⟨none, some 10, .assign (.tmp 99)⟩]
def r3_0_w {E fr h Q} := @opsW_unf E fr h Q _ _ r3_0.eq_1
def s3_1 : GC := .seq (.ops r3_0) .ret
def s3_1_w {E nt rd fr h Q} := @wp_unf E nt rd fr h Q _ _ s3_1.eq_1
def r3_2 : List GO := [⟨none, some 10, .assign (.const (.bool false))⟩]
def r3_2_w {E fr h Q} := @opsW_unf E fr h Q _ _ r3_2.eq_1
def s3_3 : GC := .seq (.ops r3_2) .ret
def s3_3_w {E nt rd fr h Q} := @wp_unf E nt rd fr h Q _ _ s3_3.eq_1
def s3_4 : GC := .cond (.tmp 87) s3_3 .skip
def s3_4_w {E nt rd fr h Q} := @wp_unf E nt rd fr h Q _ _ s3_4.eq_1
def r3_5 : List GO := [⟨none, some 82, .move (.tmp 11)⟩,
  ⟨none, some 83, .call ⟨.builtin .len, ⟨[.tmp 82]⟩, ⟨[26]⟩⟩⟩,
  ⟨none, some 84, .move (.tmp 4)⟩,
  ⟨none, some 85, .move (.tmp 13)⟩,
  ⟨none, some 86, .binOp .mul 3 (.tmp 84) (.tmp 85) 3⟩,
  ⟨none, some 87, .binOp .neq 3 (.tmp 83) (.tmp 86) 3⟩]
def r3_5_w {E fr h Q} := @opsW_unf E fr h Q _ _ r3_5.eq_1
def s3_6 : GC := .seq (.ops r3_5) s3_4
def s3_6_w {E nt rd fr h Q} := @wp_unf E nt rd fr h Q _ _ s3_6.eq_1
def s3_7 : GC := .seq (s3_6) s3_1
def s3_7_w {E nt rd fr h Q} := @wp_unf E nt rd fr h Q _ _ s3_7.eq_1
def r3_8 : List GO := [⟨none, some 78, .move (.tmp 12)⟩,
  ⟨none, some 79, .move (.tmp 3)⟩,
  ⟨none, some 80, .binOp .mul 3 (.tmp 78) (.tmp 79) 3⟩,
  ⟨none, some 81, .binOp .add 3 (.const (.int .i64 1)) (.tmp 80) 3⟩,
  ⟨none, some 13, .assign (.tmp 81)⟩]
def r3_8_w {E fr h Q} := @opsW_unf E fr h Q _ _ r3_8.eq_1
def s3_9 : GC := .seq (.ops r3_8) s3_7
def s3_9_w {E nt rd fr h Q} := @wp_unf E nt rd fr h Q _ _ s3_9.eq_1
def r3_10 : List GO := [⟨none, some 12, .assign (.const (.int .i64 1))⟩]
def r3_10_w {E fr h Q} := @opsW_unf E fr h Q _ _ r3_10.eq_1
def s3_11 : GC := .ops r3_10
def s3_11_w {E nt rd fr h Q} := @wp_unf E nt rd fr h Q _ _ s3_11.eq_1
def s3_12 : GC := .cond (.tmp 77) s3_11 .skip
def s3_12_w {E nt rd fr h Q} := @wp_unf E nt rd fr h Q _ _ s3_12.eq_1
def r3_13 : List GO := [⟨none, some 75, .fieldAddr 25 (.tmp 5) 0⟩,
  ⟨none, some 76, .load 3 (.tmp 75)⟩,
  ⟨none, some 77, .binOp .eql 3 (.tmp 76) (.const (.int .i64 1)) 3⟩]
def r3_13_w {E fr h Q} := @opsW_unf E fr h Q _ _ r3_13.eq_1
def s3_14 : GC := .seq (.ops r3_13) s3_12
def s3_14_w {E nt rd fr h Q} := @wp_unf E nt rd fr h Q _ _ s3_14.eq_1
def s3_15 : GC := .seq (s3_14) s3_9
def s3_15_w {E nt rd fr h Q} := @wp_unf E nt rd fr h Q _ _ s3_15.eq_1
def r3_16 : List GO := [⟨none, some 69, .fieldAddr 25 (.tmp 5) 0⟩,
  ⟨none, some 70, .load 3 (.tmp 69)⟩,
  ⟨none, some 71, .fieldAddr 25 (.tmp 5) 0⟩,
  ⟨none, some 72, .load 3 (.tmp 71)⟩,
  ⟨none, some 73, .binOp .sub 3 (.tmp 72) (.const (.int .i64 1)) 3⟩,
  ⟨none, some 74, .binOp .mul 3 (.tmp 70) (.tmp 73) 3⟩,
  ⟨none, some 12, .assign (.tmp 74)⟩]
def r3_16_w {E fr h Q} := @opsW_unf E fr h Q _ _ r3_16.eq_1
def s3_17 : GC := .seq (.ops r3_16) s3_15
def s3_17_w {E nt rd fr h Q} := @wp_unf E nt rd fr h Q _ _ s3_17.eq_1
def r3_18 : List GO := [⟨none, some 64, .fieldAddr 25 (.tmp 5) 0⟩,
  ⟨none, some 65, .load 3 (.tmp 64)⟩,
  ⟨none, some 66, .move (.tmp 3)⟩,
  ⟨none, some 67, .move (.tmp 4)⟩,
  ⟨none, some 68, .call ⟨.value (.func 11), ⟨[.tmp 65, .tmp 66, .tmp 67]⟩, ⟨[3, 3, 3]⟩⟩⟩,
  ⟨none, some 11, .assign (.tmp 68)⟩]
def r3_18_w {E fr h Q} := @opsW_unf E fr h Q _ _ r3_18.eq_1
def s3_19 : GC := .seq (.ops r3_18) s3_17
def s3_19_w {E nt rd fr h Q} := @wp_unf E nt rd fr h Q _ _ s3_19.eq_1
def r3_20 : List GO := [⟨none, some 10, .assign (.const (.bool false))⟩]
def r3_20_w {E fr h Q} := @opsW_unf E fr h Q _ _ r3_20.eq_1
def s3_21 : GC := .seq (.ops r3_20) .ret
def s3_21_w {E nt rd fr h Q} := @wp_unf E nt rd fr h Q _ _ s3_21.eq_1
def s3_22 : GC := .cond (.tmp 63) s3_21 .skip
def s3_22_w {E nt rd fr h Q} := @wp_unf E nt rd fr h Q _ _ s3_22.eq_1
def p3_23 : List (GO × List GO) := [(⟨none, some 39, .fieldAddr 25 (.tmp 5) 0⟩, []),
  (⟨none, some 40, .load 3 (.tmp 39)⟩, []),
  (⟨none, some 41, .move (.tmp 1)⟩, []),
  (⟨none, some 42, .move (.tmp 2)⟩, []),
  (⟨none, some 44, .fieldAddr 25 (.tmp 5) 0⟩, []),
  (⟨none, some 45, .load 3 (.tmp 44)⟩, []),
  (⟨none, some 46, .move (.tmp 1)⟩, []),
  (⟨none, some 47, .move (.tmp 2)⟩, []),
  (⟨none, some 43, .call ⟨.value (.func 7), ⟨[.tmp 40, .tmp 41, .tmp 42]⟩, ⟨[3, 3, 26]⟩⟩⟩, [⟨none, some 45, .load 3 (.tmp 44)⟩]),
  (⟨none, some 48, .call ⟨.value (.func 8), ⟨[.tmp 45, .tmp 46, .tmp 47]⟩, ⟨[3, 3, 26]⟩⟩⟩, []),
  (⟨none, some 49, .binOp .neq 4 (.tmp 43) (.tmp 48) 4⟩, []),
  (⟨none, some 50, .move (.tmp 49)⟩, []),
  (⟨some (50, false), some 51, .load 25 (.tmp 5)⟩, []),
  (⟨some (50, false), some 52, .move (.tmp 1)⟩, []),
  (⟨some (50, false), some 54, .load 25 (.tmp 5)⟩, []),
  (⟨some (50, false), some 55, .move (.tmp 1)⟩, []),
  (⟨some (50, false), some 53, .call ⟨.value (.func 9), ⟨[.tmp 51, .tmp 52]⟩, ⟨[25, 3]⟩⟩⟩, [⟨some (50, false), some 54, .load 25 (.tmp 5)⟩]),
  (⟨some (50, false), some 56, .call ⟨.value (.func 10), ⟨[.tmp 54, .tmp 55]⟩, ⟨[25, 3]⟩⟩⟩, []),
  (⟨some (50, false), some 57, .binOp .neq 22 (.tmp 53) (.tmp 56) 22⟩, []),
  (⟨none, some 58, .pick (.tmp 50) (.const (.bool true)) (.tmp 57)⟩, []),
  (⟨none, some 59, .move (.tmp 58)⟩, []),
  (⟨some (59, false), some 60, .move (.tmp 1)⟩, []),
  (⟨some (59, false), some 61, .move (.tmp 2)⟩, []),
  (⟨some (59, false), some 62, .call ⟨.value (.func 7), ⟨[.const (.int .i64 0), .tmp 60, .tmp 61]⟩, ⟨[3, 3, 26]⟩⟩⟩, []),
  (⟨none, some 63, .pick (.tmp 59) (.const (.bool true)) (.tmp 62)⟩, [])]
def p3_23_w {E fr h Q} := @planW_unf E fr h Q _ _ p3_23.eq_1
def s3_24 : GC := .seq (.plan p3_23) s3_22
def s3_24_w {E nt rd fr h Q} := @wp_unf E nt rd fr h Q _ _ s3_24.eq_1
def s3_25 : GC := .seq (s3_24) s3_19
def s3_25_w {E nt rd fr h Q} := @wp_unf E nt rd fr h Q _ _ s3_25.eq_1
def r3_26 : List GO := [⟨none, some 38, .call ⟨.value (.func 6), ⟨[]⟩, ⟨[]⟩⟩⟩,
  ⟨none, some 10, .assign (.tmp 38)⟩]
def r3_26_w {E fr h Q} := @opsW_unf E fr h Q _ _ r3_26.eq_1
def s3_27 : GC := .seq (.ops r3_26) .ret
def s3_27_w {E nt rd fr h Q} := @wp_unf E nt rd fr h Q _ _ s3_27.eq_1
def s3_28 : GC := .cond (.tmp 37) s3_27 .skip
def s3_28_w {E nt rd fr h Q} := @wp_unf E nt rd fr h Q _ _ s3_28.eq_1
def r3_29 : List GO := [⟨none, some 14, .load 25 (.tmp 5)⟩,
  ⟨none, some 15, .call ⟨.value (.func 5), ⟨[.tmp 14]⟩, ⟨[25]⟩⟩⟩,
  ⟨none, some 16, .unOp .not 4 (.tmp 15)⟩,
  ⟨none, some 17, .move (.tmp 16)⟩,
  ⟨some (17, false), some 18, .move (.tmp 2)⟩,
  ⟨some (17, false), some 19, .call ⟨.builtin .len, ⟨[.tmp 18]⟩, ⟨[26]⟩⟩⟩,
  ⟨some (17, false), some 20, .binOp .gtr 3 (.tmp 19) (.const (.int .i64 300)) 3⟩,
  ⟨none, some 21, .pick (.tmp 17) (.const (.bool true)) (.tmp 20)⟩,
  ⟨none, some 22, .move (.tmp 21)⟩,
  ⟨some (22, false), some 23, .move (.tmp 3)⟩,
  ⟨some (22, false), some 24, .binOp .gtr 3 (.tmp 23) (.const (.int .i64 4)) 3⟩,
  ⟨none, some 25, .pick (.tmp 22) (.const (.bool true)) (.tmp 24)⟩,
  ⟨none, some 26, .move (.tmp 25)⟩,
  ⟨some (26, false), some 27, .move (.tmp 4)⟩,
  ⟨some (26, false), some 28, .binOp .gtr 3 (.tmp 27) (.const (.int .i64 20)) 3⟩,
  ⟨none, some 29, .pick (.tmp 26) (.const (.bool true)) (.tmp 28)⟩,
  ⟨none, some 30, .move (.tmp 29)⟩,
  ⟨some (30, false), some 31, .move (.tmp 4)⟩,
  ⟨some (30, false), some 32, .binOp .lss 3 (.tmp 31) (.const (.int .i64 0)) 3⟩,
  ⟨none, some 33, .pick (.tmp 30) (.const (.bool true)) (.tmp 32)⟩,
  ⟨none, some 34, .move (.tmp 33)⟩,
  ⟨some (34, false), some 35, .move (.tmp 3)⟩,
  ⟨some (34, false), some 36, .binOp .lss 3 (.tmp 35) (.const (.int .i64 0)) 3⟩,
  ⟨none, some 37, .pick (.tmp 34) (.const (.bool true)) (.tmp 36)⟩]
def r3_29_w {E fr h Q} := @opsW_unf E fr h Q _ _ r3_29.eq_1
def s3_30 : GC := .seq (.ops r3_29) s3_28
def s3_30_w {E nt rd fr h Q} := @wp_unf E nt rd fr h Q _ _ s3_30.eq_1
def s3_31 : GC := .seq (s3_30) s3_25
def s3_31_w {E nt rd fr h Q} := @wp_unf E nt rd fr h Q _ _ s3_31.eq_1
def r3_32 : List GO := [⟨none, some 5, .box 25 (.tmp 0)⟩,
  ⟨none, some 10, .assign (.const (.bool false))⟩]
def r3_32_w {E fr h Q} := @opsW_unf E fr h Q _ _ r3_32.eq_1
def s3_33 : GC := .seq (.ops r3_32) s3_31
def s3_33_w {E nt rd fr h Q} := @wp_unf E nt rd fr h Q _ _ s3_33.eq_1
theorem c3 : Try.f3.body.bind (clean env 100) = some s3_33 := by kernel_rfl
theorem e3 : env.funs.get 3 = some Try.f3 := by kernel_rfl
theorem F3 {args : List Value} {h : Heap} {K : Value → Heap → Prop} (hl : args.length = 5) (w : s3_33.wp env 100 none (setAll args 0 .leaf) h (resK env [.tmp 10] K)) : Ret env (.func 3) args h K :=
  Ret.of_body' rfl e3 c3 rfl rfl (by rw [hl]; decide) w
/-! helmsman/helmsmanlaw30.may -/
def r5_0 : List GO := [⟨none, some 13, .move (.tmp 4)⟩,
  ⟨none, some 14, .binOp .eql 3 (.tmp 13) (.const (.int .i64 0)) 3⟩,
  ⟨none, some 2, .assign (.tmp 14)⟩]
def r5_0_w {E fr h Q} := @opsW_unf E fr h Q _ _ r5_0.eq_1
def s5_1 : GC := .seq (.ops r5_0) .ret
def s5_1_w {E nt rd fr h Q} := @wp_unf E nt rd fr h Q _ _ s5_1.eq_1
def r5_2 : List GO := [⟨none, some 9, .load 25 (.tmp 1)⟩,
  ⟨none, some 10, .call ⟨.value (.func 16), ⟨[.tmp 9]⟩, ⟨[25]⟩⟩⟩,
  ⟨none, some 8, .move (.tmp 10)⟩,
  ⟨none, some 11, .extract (.tmp 8) 0⟩,
  ⟨none, some 12, .extract (.tmp 8) 1⟩,
  ⟨none, some 3, .assign (.tmp 11)⟩,
  ⟨none, some 4, .assign (.tmp 12)⟩]
def r5_2_w {E fr h Q} := @opsW_unf E fr h Q _ _ r5_2.eq_1
def s5_3 : GC := .seq (.ops r5_2) s5_1
def s5_3_w {E nt rd fr h Q} := @wp_unf E nt rd fr h Q _ _ s5_3.eq_1
def r5_4 : List GO := [⟨none, some 2, .assign (.const (.bool false))⟩]
def r5_4_w {E fr h Q} := @opsW_unf E fr h Q _ _ r5_4.eq_1
def s5_5 : GC := .seq (.ops r5_4) .ret
def s5_5_w {E nt rd fr h Q} := @wp_unf E nt rd fr h Q _ _ s5_5.eq_1
def s5_6 : GC := .cond (.tmp 7) s5_5 .skip
def s5_6_w {E nt rd fr h Q} := @wp_unf E nt rd fr h Q _ _ s5_6.eq_1
def r5_7 : List GO := [⟨none, some 5, .load 25 (.tmp 1)⟩,
  ⟨none, some 6, .call ⟨.value (.func 15), ⟨[.tmp 5]⟩, ⟨[25]⟩⟩⟩,
  ⟨none, some 7, .unOp .not 4 (.tmp 6)⟩]
def r5_7_w {E fr h Q} := @opsW_unf E fr h Q _ _ r5_7.eq_1
def s5_8 : GC := .seq (.ops r5_7) s5_6
def s5_8_w {E nt rd fr h Q} := @wp_unf E nt rd fr h Q _ _ s5_8.eq_1
def s5_9 : GC := .seq (s5_8) s5_3
def s5_9_w {E nt rd fr h Q} := @wp_unf E nt rd fr h Q _ _ s5_9.eq_1
def r5_10 : List GO := [⟨none, some 1, .box 25 (.tmp 0)⟩,
  ⟨none, some 2, .assign (.const (.bool false))⟩]
def r5_10_w {E fr h Q} := @opsW_unf E fr h Q _ _ r5_10.eq_1
def s5_11 : GC := .seq (.ops r5_10) s5_9
def s5_11_w {E nt rd fr h Q} := @wp_unf E nt rd fr h Q _ _ s5_11.eq_1
theorem c5 : Try.f5.body.bind (clean env 15) = some s5_11 := by kernel_rfl
theorem e5 : env.funs.get 5 = some Try.f5 := by kernel_rfl
theorem F5 {args : List Value} {h : Heap} {K : Value → Heap → Prop} (hl : args.length = 1) (w : s5_11.wp env 15 none (setAll args 0 .leaf) h (resK env [.tmp 2] K)) : Ret env (.func 5) args h K :=
  Ret.of_body' rfl e5 c5 rfl rfl (by rw [hl]; decide) w
/-! helmsman/fair.Is -/
def r7_0 : List GO := [⟨none, some 6, .assign (.const (.bool true))⟩]
def r7_0_w {E fr h Q} := @opsW_unf E fr h Q _ _ r7_0.eq_1
def s7_1 : GC := .seq (.ops r7_0) .ret
def s7_1_w {E nt rd fr h Q} := @wp_unf E nt rd fr h Q _ _ s7_1.eq_1
def r7_2 : List GO := [⟨none, some 26, .move (.tmp 7)⟩,
  ⟨none, some 27, .binOp .add 3 (.tmp 26) (.const (.int .i64 1)) 3⟩,
  ⟨none, some 7, .assign (.tmp 27)⟩]
def r7_2_w {E fr h Q} := @opsW_unf E fr h Q _ _ r7_2.eq_1
def s7_3 : GC := .ops r7_2
def s7_3_w {E nt rd fr h Q} := @wp_unf E nt rd fr h Q _ _ s7_3.eq_1
def r7_4 : List GO := [⟨none, some 99, .binOp .add 3 (.tmp 79) (.const (.int .i64 1)) 3⟩,
  ⟨none, some 79, .move (.tmp 99)⟩]
def r7_4_w {E fr h Q} := @opsW_unf E fr h Q _ _ r7_4.eq_1
def s7_5 : GC := .ops r7_4
def s7_5_w {E nt rd fr h Q} := @wp_unf E nt rd fr h Q _ _ s7_5.eq_1
def r7_6 : List GO := [⟨none, some 98, .binOp .add 3 (.tmp 83) (.const (.int .i64 1)) 3⟩,
  ⟨none, some 83, .move (.tmp 98)⟩]
def r7_6_w {E fr h Q} := @opsW_unf E fr h Q _ _ r7_6.eq_1
def s7_7 : GC := .ops r7_6
def s7_7_w {E nt rd fr h Q} := @wp_unf E nt rd fr h Q _ _ s7_7.eq_1
def r7_8 : List GO := [⟨none, some 6, .assign (.const (.bool false))⟩]
def r7_8_w {E fr h Q} := @opsW_unf E fr h Q _ _ r7_8.eq_1
def s7_9 : GC := .seq (.ops r7_8) .ret
def s7_9_w {E nt rd fr h Q} := @wp_unf E nt rd fr h Q _ _ s7_9.eq_1
def s7_10 : GC := .cond (.tmp 97) s7_9 .skip
def s7_10_w {E nt rd fr h Q} := @wp_unf E nt rd fr h Q _ _ s7_10.eq_1
def r7_11 : List GO := [⟨none, some 86, .move (.tmp 12)⟩,
  ⟨none, some 87, .move (.tmp 13)⟩,
  ⟨none, some 88, .binOp .neq 3 (.tmp 86) (.tmp 87) 3⟩,
  ⟨none, some 89, .move (.tmp 88)⟩,
  ⟨some (89, true), some 90, .move (.tmp 8)⟩,
  ⟨some (89, true), some 91, .move (.tmp 12)⟩,
  ⟨some (89, true), some 92, .move (.tmp 13)⟩,
  ⟨some (89, true), some 93, .build 55 ⟨[(0, .tmp 91), (1, .tmp 92)]⟩⟩,
  ⟨some (89, true), some 94, .lookup 53 (.tmp 90) (.tmp 93) false⟩,
  ⟨some (89, true), some 95, .field 54 (.tmp 94) 0⟩,
  ⟨some (89, true), some 96, .unOp .not 4 (.tmp 95)⟩,
  ⟨none, some 97, .pick (.tmp 89) (.tmp 96) (.const (.bool false))⟩]
def r7_11_w {E fr h Q} := @opsW_unf E fr h Q _ _ r7_11.eq_1
def s7_12 : GC := .seq (.ops r7_11) s7_10
def s7_12_w {E nt rd fr h Q} := @wp_unf E nt rd fr h Q _ _ s7_12.eq_1
def r7_13 : List GO := [⟨none, some 85, .move (.tmp 83)⟩,
  ⟨none, some 13, .assign (.tmp 85)⟩]
def r7_13_w {E fr h Q} := @opsW_unf E fr h Q _ _ r7_13.eq_1
def s7_14 : GC := .seq (.ops r7_13) s7_12
def s7_14_w {E nt rd fr h Q} := @wp_unf E nt rd fr h Q _ _ s7_14.eq_1
def s7_15 : GC := .seq (.block 8 s7_14) s7_7
def s7_15_w {E nt rd fr h Q} := @wp_unf E nt rd fr h Q _ _ s7_15.eq_1
def s7_16 : GC := .cond (.tmp 84) .skip (.exit 7)
def s7_16_w {E nt rd fr h Q} := @wp_unf E nt rd fr h Q _ _ s7_16.eq_1
def s7_17 : GC := .seq (s7_16) s7_15
def s7_17_w {E nt rd fr h Q} := @wp_unf E nt rd fr h Q _ _ s7_17.eq_1
def r7_18 : List GO := [⟨none, some 84, .binOp .lss 3 (.tmp 83) (.tmp 82) 3⟩]
def r7_18_w {E fr h Q} := @opsW_unf E fr h Q _ _ r7_18.eq_1
def s7_19 : GC := .seq (.ops r7_18) s7_17
def s7_19_w {E nt rd fr h Q} := @wp_unf E nt rd fr h Q _ _ s7_19.eq_1
def s7_20 : GC := .loop s7_19
def s7_20_w {E nt rd fr h Q} := @wp_unf E nt rd fr h Q _ _ s7_20.eq_1
def s7_21 : GC := .block 7 s7_20
def s7_21_w {E nt rd fr h Q} := @wp_unf E nt rd fr h Q _ _ s7_21.eq_1
def r7_22 : List GO := [⟨none, some 82, .move (.tmp 0)⟩,
  ⟨none, some 83, .move (.const (.int .i64 0))⟩]
def r7_22_w {E fr h Q} := @opsW_unf E fr h Q _ _ r7_22.eq_1
def s7_23 : GC := .seq (.ops r7_22) s7_21
def s7_23_w {E nt rd fr h Q} := @wp_unf E nt rd fr h Q _ _ s7_23.eq_1
def r7_24 : List GO := [⟨none, some 81, .move (.tmp 79)⟩,
  ⟨none, some 12, .assign (.tmp 81)⟩]
def r7_24_w {E fr h Q} := @opsW_unf E fr h Q _ _ r7_24.eq_1
def s7_25 : GC := .seq (.ops r7_24) s7_23
def s7_25_w {E nt rd fr h Q} := @wp_unf E nt rd fr h Q _ _ s7_25.eq_1
def s7_26 : GC := .seq (.block 6 s7_25) s7_5
def s7_26_w {E nt rd fr h Q} := @wp_unf E nt rd fr h Q _ _ s7_26.eq_1
def s7_27 : GC := .cond (.tmp 80) .skip (.exit 5)
def s7_27_w {E nt rd fr h Q} := @wp_unf E nt rd fr h Q _ _ s7_27.eq_1
def s7_28 : GC := .seq (s7_27) s7_26
def s7_28_w {E nt rd fr h Q} := @wp_unf E nt rd fr h Q _ _ s7_28.eq_1
def r7_29 : List GO := [⟨none, some 80, .binOp .lss 3 (.tmp 79) (.tmp 78) 3⟩]
def r7_29_w {E fr h Q} := @opsW_unf E fr h Q _ _ r7_29.eq_1
def s7_30 : GC := .seq (.ops r7_29) s7_28
def s7_30_w {E nt rd fr h Q} := @wp_unf E nt rd fr h Q _ _ s7_30.eq_1
def s7_31 : GC := .loop s7_30
def s7_31_w {E nt rd fr h Q} := @wp_unf E nt rd fr h Q _ _ s7_31.eq_1
def s7_32 : GC := .block 5 s7_31
def s7_32_w {E nt rd fr h Q} := @wp_unf E nt rd fr h Q _ _ s7_32.eq_1
def r7_33 : List GO := [⟨none, some 78, .move (.tmp 0)⟩,
  ⟨none, some 79, .move (.const (.int .i64 0))⟩]
def r7_33_w {E fr h Q} := @opsW_unf E fr h Q _ _ r7_33.eq_1
def s7_34 : GC := .seq (.ops r7_33) s7_32
def s7_34_w {E nt rd fr h Q} := @wp_unf E nt rd fr h Q _ _ s7_34.eq_1
def r7_35 : List GO := [⟨none, some 6, .assign (.const (.bool false))⟩]
def r7_35_w {E fr h Q} := @opsW_unf E fr h Q _ _ r7_35.eq_1
def s7_36 : GC := .seq (.ops r7_35) .ret
def s7_36_w {E nt rd fr h Q} := @wp_unf E nt rd fr h Q _ _ s7_36.eq_1
def s7_37 : GC := .cond (.tmp 77) s7_36 .skip
def s7_37_w {E nt rd fr h Q} := @wp_unf E nt rd fr h Q _ _ s7_37.eq_1
def r7_38 : List GO := [⟨none, some 73, .move (.tmp 8)⟩,
  ⟨none, some 74, .build 55 ⟨[]⟩⟩,
  ⟨none, some 75, .lookup 53 (.tmp 73) (.tmp 74) false⟩,
  ⟨none, some 76, .field 54 (.tmp 75) 0⟩,
  ⟨none, some 77, .unOp .not 4 (.tmp 76)⟩]
def r7_38_w {E fr h Q} := @opsW_unf E fr h Q _ _ r7_38.eq_1
def s7_39 : GC := .seq (.ops r7_38) s7_37
def s7_39_w {E nt rd fr h Q} := @wp_unf E nt rd fr h Q _ _ s7_39.eq_1
def s7_40 : GC := .seq (s7_39) (.exit 1)
def s7_40_w {E nt rd fr h Q} := @wp_unf E nt rd fr h Q _ _ s7_40.eq_1
def s7_41 : GC := .cond (.tmp 72) s7_40 .skip
def s7_41_w {E nt rd fr h Q} := @wp_unf E nt rd fr h Q _ _ s7_41.eq_1
def r7_42 : List GO := [⟨none, some 71, .move (.tmp 0)⟩,
  ⟨none, some 72, .binOp .eql 3 (.tmp 71) (.const (.int .i64 1)) 3⟩]
def r7_42_w {E fr h Q} := @opsW_unf E fr h Q _ _ r7_42.eq_1
def s7_43 : GC := .seq (.ops r7_42) s7_41
def s7_43_w {E nt rd fr h Q} := @wp_unf E nt rd fr h Q _ _ s7_43.eq_1
def s7_44 : GC := .seq (s7_43) s7_34
def s7_44_w {E nt rd fr h Q} := @wp_unf E nt rd fr h Q _ _ s7_44.eq_1
def r7_45 : List GO := [⟨none, some 6, .assign (.const (.bool false))⟩]
def r7_45_w {E fr h Q} := @opsW_unf E fr h Q _ _ r7_45.eq_1
def s7_46 : GC := .seq (.ops r7_45) .ret
def s7_46_w {E nt rd fr h Q} := @wp_unf E nt rd fr h Q _ _ s7_46.eq_1
def s7_47 : GC := .cond (.tmp 70) s7_46 .skip
def s7_47_w {E nt rd fr h Q} := @wp_unf E nt rd fr h Q _ _ s7_47.eq_1
def r7_48 : List GO := [⟨none, some 69, .move (.tmp 9)⟩,
  ⟨none, some 70, .unOp .not 4 (.tmp 69)⟩]
def r7_48_w {E fr h Q} := @opsW_unf E fr h Q _ _ r7_48.eq_1
def s7_49 : GC := .seq (.ops r7_48) s7_47
def s7_49_w {E nt rd fr h Q} := @wp_unf E nt rd fr h Q _ _ s7_49.eq_1
def s7_50 : GC := .seq (s7_49) s7_44
def s7_50_w {E nt rd fr h Q} := @wp_unf E nt rd fr h Q _ _ s7_50.eq_1
def r7_51 : List GO := [⟨none, some 68, .binOp .add 3 (.tmp 36) (.const (.int .i64 1)) 3⟩,
  ⟨none, some 36, .move (.tmp 68)⟩]
def r7_51_w {E fr h Q} := @opsW_unf E fr h Q _ _ r7_51.eq_1
def s7_52 : GC := .ops r7_51
def s7_52_w {E nt rd fr h Q} := @wp_unf E nt rd fr h Q _ _ s7_52.eq_1
def r7_53 : List GO := [⟨none, some 9, .assign (.const (.bool true))⟩]
def r7_53_w {E fr h Q} := @opsW_unf E fr h Q _ _ r7_53.eq_1
def s7_54 : GC := .ops r7_53
def s7_54_w {E nt rd fr h Q} := @wp_unf E nt rd fr h Q _ _ s7_54.eq_1
def r7_55 : List GO := [⟨none, some 52, .move (.tmp 8)⟩,
  ⟨none, some 53, .fieldAddr 52 (.tmp 11) 1⟩,
  ⟨none, some 54, .load 3 (.tmp 53)⟩,
  ⟨none, some 55, .build 55 ⟨[(0, .tmp 54), (1, .const (.int .i64 0))]⟩⟩,
  ⟨none, some 56, .build 54 ⟨[(0, .const (.bool true))]⟩⟩,
  ⟨none, none, .mapUpdate 53 (.tmp 52) (.tmp 55) (.tmp 56)⟩]
def r7_55_w {E fr h Q} := @opsW_unf E fr h Q _ _ r7_55.eq_1
def s7_56 : GC := .ops r7_55
def s7_56_w {E nt rd fr h Q} := @wp_unf E nt rd fr h Q _ _ s7_56.eq_1
def r7_57 : List GO := [⟨none, some 61, .move (.tmp 8)⟩,
  ⟨none, some 62, .fieldAddr 52 (.tmp 11) 1⟩,
  ⟨none, some 63, .load 3 (.tmp 62)⟩,
  ⟨none, some 64, .fieldAddr 52 (.tmp 11) 2⟩,
  ⟨none, some 65, .load 3 (.tmp 64)⟩,
  ⟨none, some 66, .build 55 ⟨[(0, .tmp 63), (1, .tmp 65)]⟩⟩,
  ⟨none, some 67, .build 54 ⟨[(0, .const (.bool true))]⟩⟩,
  ⟨none, none, .mapUpdate 53 (.tmp 61) (.tmp 66) (.tmp 67)⟩]
def r7_57_w {E fr h Q} := @opsW_unf E fr h Q _ _ r7_57.eq_1
def s7_58 : GC := .ops r7_57
def s7_58_w {E nt rd fr h Q} := @wp_unf E nt rd fr h Q _ _ s7_58.eq_1
def s7_59 : GC := .cond (.tmp 57) s7_58 .skip
def s7_59_w {E nt rd fr h Q} := @wp_unf E nt rd fr h Q _ _ s7_59.eq_1
def r7_60 : List GO := [⟨none, some 58, .fieldAddr 52 (.tmp 11) 0⟩,
  ⟨none, some 59, .load 50 (.tmp 58)⟩,
  ⟨none, some 60, .binOp .eql 50 (.tmp 59) (.const (.int .i64 1)) 50⟩,
  ⟨none, some 57, .assign (.tmp 60)⟩]
def r7_60_w {E fr h Q} := @opsW_unf E fr h Q _ _ r7_60.eq_1
def s7_61 : GC := .seq (.ops r7_60) s7_59
def s7_61_w {E nt rd fr h Q} := @wp_unf E nt rd fr h Q _ _ s7_61.eq_1
def s7_62 : GC := .cond (.tmp 44) s7_56 s7_61
def s7_62_w {E nt rd fr h Q} := @wp_unf E nt rd fr h Q _ _ s7_62.eq_1
def r7_63 : List GO := [⟨none, some 45, .fieldAddr 52 (.tmp 11) 0⟩,
  ⟨none, some 46, .load 50 (.tmp 45)⟩,
  ⟨none, some 47, .binOp .eql 50 (.tmp 46) (.const (.int .i64 1)) 50⟩,
  ⟨none, some 48, .move (.tmp 47)⟩,
  ⟨some (48, true), some 49, .move (.tmp 0)⟩,
  ⟨some (48, true), some 50, .binOp .eql 3 (.tmp 49) (.const (.int .i64 1)) 3⟩,
  ⟨none, some 51, .pick (.tmp 48) (.tmp 50) (.const (.bool false))⟩,
  ⟨none, some 44, .assign (.tmp 51)⟩]
def r7_63_w {E fr h Q} := @opsW_unf E fr h Q _ _ r7_63.eq_1
def s7_64 : GC := .seq (.ops r7_63) s7_62
def s7_64_w {E nt rd fr h Q} := @wp_unf E nt rd fr h Q _ _ s7_64.eq_1
def s7_65 : GC := .cond (.tmp 40) s7_54 s7_64
def s7_65_w {E nt rd fr h Q} := @wp_unf E nt rd fr h Q _ _ s7_65.eq_1
def r7_66 : List GO := [⟨none, some 41, .fieldAddr 52 (.tmp 11) 0⟩,
  ⟨none, some 42, .load 50 (.tmp 41)⟩,
  ⟨none, some 43, .binOp .eql 50 (.tmp 42) (.const (.int .i64 2)) 50⟩,
  ⟨none, some 40, .assign (.tmp 43)⟩]
def r7_66_w {E fr h Q} := @opsW_unf E fr h Q _ _ r7_66.eq_1
def s7_67 : GC := .seq (.ops r7_66) s7_65
def s7_67_w {E nt rd fr h Q} := @wp_unf E nt rd fr h Q _ _ s7_67.eq_1
def s7_68 : GC := .block 4 s7_67
def s7_68_w {E nt rd fr h Q} := @wp_unf E nt rd fr h Q _ _ s7_68.eq_1
def r7_69 : List GO := [⟨none, some 38, .indexAddr 26 (.tmp 34) (.tmp 36)⟩,
  ⟨none, some 39, .load 52 (.tmp 38)⟩,
  ⟨none, some 11, .alloc 52⟩,
  ⟨none, none, .store 52 (.tmp 11) (.tmp 39)⟩]
def r7_69_w {E fr h Q} := @opsW_unf E fr h Q _ _ r7_69.eq_1
def s7_70 : GC := .seq (.ops r7_69) s7_68
def s7_70_w {E nt rd fr h Q} := @wp_unf E nt rd fr h Q _ _ s7_70.eq_1
def s7_71 : GC := .seq (.block 3 s7_70) s7_52
def s7_71_w {E nt rd fr h Q} := @wp_unf E nt rd fr h Q _ _ s7_71.eq_1
def s7_72 : GC := .cond (.tmp 37) .skip (.exit 2)
def s7_72_w {E nt rd fr h Q} := @wp_unf E nt rd fr h Q _ _ s7_72.eq_1
def s7_73 : GC := .seq (s7_72) s7_71
def s7_73_w {E nt rd fr h Q} := @wp_unf E nt rd fr h Q _ _ s7_73.eq_1
def r7_74 : List GO := [⟨none, some 37, .binOp .lss 3 (.tmp 36) (.tmp 35) 3⟩]
def r7_74_w {E fr h Q} := @opsW_unf E fr h Q _ _ r7_74.eq_1
def s7_75 : GC := .seq (.ops r7_74) s7_73
def s7_75_w {E nt rd fr h Q} := @wp_unf E nt rd fr h Q _ _ s7_75.eq_1
def s7_76 : GC := .loop s7_75
def s7_76_w {E nt rd fr h Q} := @wp_unf E nt rd fr h Q _ _ s7_76.eq_1
def s7_77 : GC := .block 2 s7_76
def s7_77_w {E nt rd fr h Q} := @wp_unf E nt rd fr h Q _ _ s7_77.eq_1
def r7_78 : List GO := [⟨none, some 29, .move (.tmp 2)⟩,
  ⟨none, some 30, .move (.tmp 7)⟩,
  ⟨none, some 31, .move (.tmp 7)⟩,
  ⟨none, some 32, .move (.tmp 1)⟩,
  ⟨none, some 33, .binOp .add 3 (.tmp 31) (.tmp 32) 3⟩,
  ⟨none, some 34, .slice 26 (.tmp 29) (some (.tmp 30)) (some (.tmp 33)) none⟩,
  ⟨none, some 35, .call ⟨.builtin .len, ⟨[.tmp 34]⟩, ⟨[26]⟩⟩⟩,
  ⟨none, some 36, .move (.const (.int .i64 0))⟩]
def r7_78_w {E fr h Q} := @opsW_unf E fr h Q _ _ r7_78.eq_1
def s7_79 : GC := .seq (.ops r7_78) s7_77
def s7_79_w {E nt rd fr h Q} := @wp_unf E nt rd fr h Q _ _ s7_79.eq_1
def s7_80 : GC := .seq (s7_79) s7_50
def s7_80_w {E nt rd fr h Q} := @wp_unf E nt rd fr h Q _ _ s7_80.eq_1
def r7_81 : List GO := [⟨none, some 9, .assign (.const (.bool false))⟩]
def r7_81_w {E fr h Q} := @opsW_unf E fr h Q _ _ r7_81.eq_1
def s7_82 : GC := .seq (.ops r7_81) s7_80
def s7_82_w {E nt rd fr h Q} := @wp_unf E nt rd fr h Q _ _ s7_82.eq_1
def r7_83 : List GO := [⟨none, some 28, .makeMap 53 none⟩,
  ⟨none, some 8, .assign (.tmp 28)⟩]
def r7_83_w {E fr h Q} := @opsW_unf E fr h Q _ _ r7_83.eq_1
def s7_84 : GC := .seq (.ops r7_83) s7_82
def s7_84_w {E nt rd fr h Q} := @wp_unf E nt rd fr h Q _ _ s7_84.eq_1
def s7_85 : GC := .seq (.block 1 s7_84) s7_3
def s7_85_w {E nt rd fr h Q} := @wp_unf E nt rd fr h Q _ _ s7_85.eq_1
def s7_86 : GC := .cond (.tmp 25) .skip (.exit 0)
def s7_86_w {E nt rd fr h Q} := @wp_unf E nt rd fr h Q _ _ s7_86.eq_1
def r7_87 : List GO := [⟨none, some 20, .move (.tmp 7)⟩,
  ⟨none, some 21, .move (.tmp 1)⟩,
  ⟨none, some 22, .binOp .add 3 (.tmp 20) (.tmp 21) 3⟩,
  ⟨none, some 23, .move (.tmp 2)⟩,
  ⟨none, some 24, .call ⟨.builtin .len, ⟨[.tmp 23]⟩, ⟨[26]⟩⟩⟩,
  ⟨none, some 25, .binOp .leq 3 (.tmp 22) (.tmp 24) 3⟩]
def r7_87_w {E fr h Q} := @opsW_unf E fr h Q _ _ r7_87.eq_1
def s7_88 : GC := .seq (.ops r7_87) s7_86
def s7_88_w {E nt rd fr h Q} := @wp_unf E nt rd fr h Q _ _ s7_88.eq_1
def s7_89 : GC := .seq (s7_88) s7_85
def s7_89_w {E nt rd fr h Q} := @wp_unf E nt rd fr h Q _ _ s7_89.eq_1
def s7_90 : GC := .loop s7_89
def s7_90_w {E nt rd fr h Q} := @wp_unf E nt rd fr h Q _ _ s7_90.eq_1
def s7_91 : GC := .block 0 s7_90
def s7_91_w {E nt rd fr h Q} := @wp_unf E nt rd fr h Q _ _ s7_91.eq_1
def r7_92 : List GO := [⟨none, some 7, .assign (.const (.int .i64 0))⟩]
def r7_92_w {E fr h Q} := @opsW_unf E fr h Q _ _ r7_92.eq_1
def s7_93 : GC := .seq (.ops r7_92) s7_91
def s7_93_w {E nt rd fr h Q} := @wp_unf E nt rd fr h Q _ _ s7_93.eq_1
def s7_94 : GC := .seq (s7_93) s7_1
def s7_94_w {E nt rd fr h Q} := @wp_unf E nt rd fr h Q _ _ s7_94.eq_1
def s7_95 : GC := .seq (.skip) s7_94
def s7_95_w {E nt rd fr h Q} := @wp_unf E nt rd fr h Q _ _ s7_95.eq_1
def r7_96 : List GO := [⟨none, some 6, .assign (.const (.bool false))⟩]
def r7_96_w {E fr h Q} := @opsW_unf E fr h Q _ _ r7_96.eq_1
def s7_97 : GC := .seq (.ops r7_96) .ret
def s7_97_w {E nt rd fr h Q} := @wp_unf E nt rd fr h Q _ _ s7_97.eq_1
def s7_98 : GC := .cond (.tmp 19) s7_97 .skip
def s7_98_w {E nt rd fr h Q} := @wp_unf E nt rd fr h Q _ _ s7_98.eq_1
def r7_99 : List GO := [⟨none, some 14, .move (.tmp 0)⟩,
  ⟨none, some 15, .binOp .lss 3 (.tmp 14) (.const (.int .i64 1)) 3⟩,
  ⟨none, some 16, .move (.tmp 15)⟩,
  ⟨some (16, false), some 17, .move (.tmp 1)⟩,
  ⟨some (16, false), some 18, .binOp .lss 3 (.tmp 17) (.const (.int .i64 1)) 3⟩,
  ⟨none, some 19, .pick (.tmp 16) (.const (.bool true)) (.tmp 18)⟩]
def r7_99_w {E fr h Q} := @opsW_unf E fr h Q _ _ r7_99.eq_1
def s7_100 : GC := .seq (.ops r7_99) s7_98
def s7_100_w {E nt rd fr h Q} := @wp_unf E nt rd fr h Q _ _ s7_100.eq_1
def s7_101 : GC := .seq (s7_100) s7_95
def s7_101_w {E nt rd fr h Q} := @wp_unf E nt rd fr h Q _ _ s7_101.eq_1
def r7_102 : List GO := [⟨none, some 6, .assign (.const (.bool false))⟩]
def r7_102_w {E fr h Q} := @opsW_unf E fr h Q _ _ r7_102.eq_1
def s7_103 : GC := .seq (.ops r7_102) s7_101
def s7_103_w {E nt rd fr h Q} := @wp_unf E nt rd fr h Q _ _ s7_103.eq_1
theorem c7 : Try.f7.body.bind (clean env 100) = some s7_103 := by kernel_rfl
theorem e7 : env.funs.get 7 = some Try.f7 := by kernel_rfl
theorem F7 {args : List Value} {h : Heap} {K : Value → Heap → Prop} (hl : args.length = 3) (w : s7_103.wp env 100 none (setAll args 0 .leaf) h (resK env [.tmp 6] K)) : Ret env (.func 7) args h K :=
  Ret.of_body' rfl e7 c7 rfl rfl (by rw [hl]; decide) w
/-! helmsman/helmsmanref30.Is -/
def r8_0 : List GO := [⟨none, some 6, .assign (.const (.bool true))⟩]
def r8_0_w {E fr h Q} := @opsW_unf E fr h Q _ _ r8_0.eq_1
def s8_1 : GC := .seq (.ops r8_0) .ret
def s8_1_w {E nt rd fr h Q} := @wp_unf E nt rd fr h Q _ _ s8_1.eq_1
def r8_2 : List GO := [⟨none, some 23, .move (.tmp 7)⟩,
  ⟨none, some 24, .binOp .add 3 (.tmp 23) (.const (.int .i64 1)) 3⟩,
  ⟨none, some 7, .assign (.tmp 24)⟩]
def r8_2_w {E fr h Q} := @opsW_unf E fr h Q _ _ r8_2.eq_1
def s8_3 : GC := .ops r8_2
def s8_3_w {E nt rd fr h Q} := @wp_unf E nt rd fr h Q _ _ s8_3.eq_1
def r8_4 : List GO := [⟨none, some 37, .move (.tmp 9)⟩,
  ⟨none, some 38, .binOp .add 3 (.tmp 37) (.const (.int .i64 1)) 3⟩,
  ⟨none, some 9, .assign (.tmp 38)⟩]
def r8_4_w {E fr h Q} := @opsW_unf E fr h Q _ _ r8_4.eq_1
def s8_5 : GC := .ops r8_4
def s8_5_w {E nt rd fr h Q} := @wp_unf E nt rd fr h Q _ _ s8_5.eq_1
def r8_6 : List GO := [⟨none, some 49, .move (.tmp 10)⟩,
  ⟨none, some 50, .binOp .add 3 (.tmp 49) (.const (.int .i64 1)) 3⟩,
  ⟨none, some 10, .assign (.tmp 50)⟩]
def r8_6_w {E fr h Q} := @opsW_unf E fr h Q _ _ r8_6.eq_1
def s8_7 : GC := .ops r8_6
def s8_7_w {E nt rd fr h Q} := @wp_unf E nt rd fr h Q _ _ s8_7.eq_1
def r8_8 : List GO := [⟨none, some 6, .assign (.const (.bool false))⟩]
def r8_8_w {E fr h Q} := @opsW_unf E fr h Q _ _ r8_8.eq_1
def s8_9 : GC := .seq (.ops r8_8) .ret
def s8_9_w {E nt rd fr h Q} := @wp_unf E nt rd fr h Q _ _ s8_9.eq_1
def s8_10 : GC := .cond (.tmp 60) s8_9 .skip
def s8_10_w {E nt rd fr h Q} := @wp_unf E nt rd fr h Q _ _ s8_10.eq_1
def r8_11 : List GO := [⟨none, some 51, .move (.tmp 10)⟩,
  ⟨none, some 52, .move (.tmp 9)⟩,
  ⟨none, some 53, .binOp .neq 3 (.tmp 51) (.tmp 52) 3⟩,
  ⟨none, some 54, .move (.tmp 53)⟩,
  ⟨some (54, true), some 55, .move (.tmp 8)⟩,
  ⟨some (54, true), some 56, .move (.tmp 9)⟩,
  ⟨some (54, true), some 57, .move (.tmp 10)⟩,
  ⟨some (54, true), some 58, .call ⟨.value (.func 17), ⟨[.tmp 55, .tmp 56, .tmp 57]⟩, ⟨[26, 3, 3]⟩⟩⟩,
  ⟨some (54, true), some 59, .unOp .not 4 (.tmp 58)⟩,
  ⟨none, some 60, .pick (.tmp 54) (.tmp 59) (.const (.bool false))⟩]
def r8_11_w {E fr h Q} := @opsW_unf E fr h Q _ _ r8_11.eq_1
def s8_12 : GC := .seq (.ops r8_11) s8_10
def s8_12_w {E nt rd fr h Q} := @wp_unf E nt rd fr h Q _ _ s8_12.eq_1
def s8_13 : GC := .seq (.block 5 s8_12) s8_7
def s8_13_w {E nt rd fr h Q} := @wp_unf E nt rd fr h Q _ _ s8_13.eq_1
def s8_14 : GC := .cond (.tmp 48) .skip (.exit 4)
def s8_14_w {E nt rd fr h Q} := @wp_unf E nt rd fr h Q _ _ s8_14.eq_1
def r8_15 : List GO := [⟨none, some 46, .move (.tmp 10)⟩,
  ⟨none, some 47, .move (.tmp 0)⟩,
  ⟨none, some 48, .binOp .lss 3 (.tmp 46) (.tmp 47) 3⟩]
def r8_15_w {E fr h Q} := @opsW_unf E fr h Q _ _ r8_15.eq_1
def s8_16 : GC := .seq (.ops r8_15) s8_14
def s8_16_w {E nt rd fr h Q} := @wp_unf E nt rd fr h Q _ _ s8_16.eq_1
def s8_17 : GC := .seq (s8_16) s8_13
def s8_17_w {E nt rd fr h Q} := @wp_unf E nt rd fr h Q _ _ s8_17.eq_1
def s8_18 : GC := .loop s8_17
def s8_18_w {E nt rd fr h Q} := @wp_unf E nt rd fr h Q _ _ s8_18.eq_1
def s8_19 : GC := .block 4 s8_18
def s8_19_w {E nt rd fr h Q} := @wp_unf E nt rd fr h Q _ _ s8_19.eq_1
def r8_20 : List GO := [⟨none, some 10, .assign (.const (.int .i64 0))⟩]
def r8_20_w {E fr h Q} := @opsW_unf E fr h Q _ _ r8_20.eq_1
def s8_21 : GC := .seq (.ops r8_20) s8_19
def s8_21_w {E nt rd fr h Q} := @wp_unf E nt rd fr h Q _ _ s8_21.eq_1
def r8_22 : List GO := [⟨none, some 6, .assign (.const (.bool false))⟩]
def r8_22_w {E fr h Q} := @opsW_unf E fr h Q _ _ r8_22.eq_1
def s8_23 : GC := .seq (.ops r8_22) .ret
def s8_23_w {E nt rd fr h Q} := @wp_unf E nt rd fr h Q _ _ s8_23.eq_1
def s8_24 : GC := .cond (.tmp 45) s8_23 .skip
def s8_24_w {E nt rd fr h Q} := @wp_unf E nt rd fr h Q _ _ s8_24.eq_1
def r8_25 : List GO := [⟨none, some 39, .move (.tmp 0)⟩,
  ⟨none, some 40, .binOp .eql 3 (.tmp 39) (.const (.int .i64 1)) 3⟩,
  ⟨none, some 41, .move (.tmp 40)⟩,
  ⟨some (41, true), some 42, .move (.tmp 8)⟩,
  ⟨some (41, true), some 43, .call ⟨.value (.func 17), ⟨[.tmp 42, .const (.int .i64 0), .const (.int .i64 (-1))]⟩, ⟨[26, 3, 3]⟩⟩⟩,
  ⟨some (41, true), some 44, .unOp .not 4 (.tmp 43)⟩,
  ⟨none, some 45, .pick (.tmp 41) (.tmp 44) (.const (.bool false))⟩]
def r8_25_w {E fr h Q} := @opsW_unf E fr h Q _ _ r8_25.eq_1
def s8_26 : GC := .seq (.ops r8_25) s8_24
def s8_26_w {E nt rd fr h Q} := @wp_unf E nt rd fr h Q _ _ s8_26.eq_1
def s8_27 : GC := .seq (s8_26) s8_21
def s8_27_w {E nt rd fr h Q} := @wp_unf E nt rd fr h Q _ _ s8_27.eq_1
def s8_28 : GC := .seq (.block 3 s8_27) s8_5
def s8_28_w {E nt rd fr h Q} := @wp_unf E nt rd fr h Q _ _ s8_28.eq_1
def s8_29 : GC := .cond (.tmp 36) .skip (.exit 2)
def s8_29_w {E nt rd fr h Q} := @wp_unf E nt rd fr h Q _ _ s8_29.eq_1
def r8_30 : List GO := [⟨none, some 34, .move (.tmp 9)⟩,
  ⟨none, some 35, .move (.tmp 0)⟩,
  ⟨none, some 36, .binOp .lss 3 (.tmp 34) (.tmp 35) 3⟩]
def r8_30_w {E fr h Q} := @opsW_unf E fr h Q _ _ r8_30.eq_1
def s8_31 : GC := .seq (.ops r8_30) s8_29
def s8_31_w {E nt rd fr h Q} := @wp_unf E nt rd fr h Q _ _ s8_31.eq_1
def s8_32 : GC := .seq (s8_31) s8_28
def s8_32_w {E nt rd fr h Q} := @wp_unf E nt rd fr h Q _ _ s8_32.eq_1
def s8_33 : GC := .loop s8_32
def s8_33_w {E nt rd fr h Q} := @wp_unf E nt rd fr h Q _ _ s8_33.eq_1
def s8_34 : GC := .block 2 s8_33
def s8_34_w {E nt rd fr h Q} := @wp_unf E nt rd fr h Q _ _ s8_34.eq_1
def r8_35 : List GO := [⟨none, some 9, .assign (.const (.int .i64 0))⟩]
def r8_35_w {E fr h Q} := @opsW_unf E fr h Q _ _ r8_35.eq_1
def s8_36 : GC := .seq (.ops r8_35) s8_34
def s8_36_w {E nt rd fr h Q} := @wp_unf E nt rd fr h Q _ _ s8_36.eq_1
def r8_37 : List GO := [⟨none, some 6, .assign (.const (.bool false))⟩]
def r8_37_w {E fr h Q} := @opsW_unf E fr h Q _ _ r8_37.eq_1
def s8_38 : GC := .seq (.ops r8_37) .ret
def s8_38_w {E nt rd fr h Q} := @wp_unf E nt rd fr h Q _ _ s8_38.eq_1
def s8_39 : GC := .cond (.tmp 33) s8_38 .skip
def s8_39_w {E nt rd fr h Q} := @wp_unf E nt rd fr h Q _ _ s8_39.eq_1
def r8_40 : List GO := [⟨none, some 31, .move (.tmp 8)⟩,
  ⟨none, some 32, .call ⟨.value (.func 17), ⟨[.tmp 31, .const (.int .i64 (-1)), .const (.int .i64 0)]⟩, ⟨[26, 3, 3]⟩⟩⟩,
  ⟨none, some 33, .unOp .not 4 (.tmp 32)⟩]
def r8_40_w {E fr h Q} := @opsW_unf E fr h Q _ _ r8_40.eq_1
def s8_41 : GC := .seq (.ops r8_40) s8_39
def s8_41_w {E nt rd fr h Q} := @wp_unf E nt rd fr h Q _ _ s8_41.eq_1
def s8_42 : GC := .seq (s8_41) s8_36
def s8_42_w {E nt rd fr h Q} := @wp_unf E nt rd fr h Q _ _ s8_42.eq_1
def r8_43 : List GO := [⟨none, some 25, .move (.tmp 2)⟩,
  ⟨none, some 26, .move (.tmp 7)⟩,
  ⟨none, some 27, .move (.tmp 7)⟩,
  ⟨none, some 28, .move (.tmp 1)⟩,
  ⟨none, some 29, .binOp .add 3 (.tmp 27) (.tmp 28) 3⟩,
  ⟨none, some 30, .slice 26 (.tmp 25) (some (.tmp 26)) (some (.tmp 29)) none⟩,
  ⟨none, some 8, .assign (.tmp 30)⟩]
def r8_43_w {E fr h Q} := @opsW_unf E fr h Q _ _ r8_43.eq_1
def s8_44 : GC := .seq (.ops r8_43) s8_42
def s8_44_w {E nt rd fr h Q} := @wp_unf E nt rd fr h Q _ _ s8_44.eq_1
def s8_45 : GC := .seq (.block 1 s8_44) s8_3
def s8_45_w {E nt rd fr h Q} := @wp_unf E nt rd fr h Q _ _ s8_45.eq_1
def s8_46 : GC := .cond (.tmp 22) .skip (.exit 0)
def s8_46_w {E nt rd fr h Q} := @wp_unf E nt rd fr h Q _ _ s8_46.eq_1
def r8_47 : List GO := [⟨none, some 17, .move (.tmp 2)⟩,
  ⟨none, some 18, .call ⟨.builtin .len, ⟨[.tmp 17]⟩, ⟨[26]⟩⟩⟩,
  ⟨none, some 19, .move (.tmp 7)⟩,
  ⟨none, some 20, .binOp .sub 3 (.tmp 18) (.tmp 19) 3⟩,
  ⟨none, some 21, .move (.tmp 1)⟩,
  ⟨none, some 22, .binOp .geq 3 (.tmp 20) (.tmp 21) 3⟩]
def r8_47_w {E fr h Q} := @opsW_unf E fr h Q _ _ r8_47.eq_1
def s8_48 : GC := .seq (.ops r8_47) s8_46
def s8_48_w {E nt rd fr h Q} := @wp_unf E nt rd fr h Q _ _ s8_48.eq_1
def s8_49 : GC := .seq (s8_48) s8_45
def s8_49_w {E nt rd fr h Q} := @wp_unf E nt rd fr h Q _ _ s8_49.eq_1
def s8_50 : GC := .loop s8_49
def s8_50_w {E nt rd fr h Q} := @wp_unf E nt rd fr h Q _ _ s8_50.eq_1
def s8_51 : GC := .block 0 s8_50
def s8_51_w {E nt rd fr h Q} := @wp_unf E nt rd fr h Q _ _ s8_51.eq_1
def r8_52 : List GO := [⟨none, some 7, .assign (.const (.int .i64 0))⟩]
def r8_52_w {E fr h Q} := @opsW_unf E fr h Q _ _ r8_52.eq_1
def s8_53 : GC := .seq (.ops r8_52) s8_51
def s8_53_w {E nt rd fr h Q} := @wp_unf E nt rd fr h Q _ _ s8_53.eq_1
def s8_54 : GC := .seq (s8_53) s8_1
def s8_54_w {E nt rd fr h Q} := @wp_unf E nt rd fr h Q _ _ s8_54.eq_1
def r8_55 : List GO := [⟨none, some 6, .assign (.const (.bool false))⟩]
def r8_55_w {E fr h Q} := @opsW_unf E fr h Q _ _ r8_55.eq_1
def s8_56 : GC := .seq (.ops r8_55) .ret
def s8_56_w {E nt rd fr h Q} := @wp_unf E nt rd fr h Q _ _ s8_56.eq_1
def s8_57 : GC := .cond (.tmp 16) s8_56 .skip
def s8_57_w {E nt rd fr h Q} := @wp_unf E nt rd fr h Q _ _ s8_57.eq_1
def r8_58 : List GO := [⟨none, some 11, .move (.tmp 0)⟩,
  ⟨none, some 12, .binOp .lss 3 (.tmp 11) (.const (.int .i64 1)) 3⟩,
  ⟨none, some 13, .move (.tmp 12)⟩,
  ⟨some (13, false), some 14, .move (.tmp 1)⟩,
  ⟨some (13, false), some 15, .binOp .lss 3 (.tmp 14) (.const (.int .i64 1)) 3⟩,
  ⟨none, some 16, .pick (.tmp 13) (.const (.bool true)) (.tmp 15)⟩]
def r8_58_w {E fr h Q} := @opsW_unf E fr h Q _ _ r8_58.eq_1
def s8_59 : GC := .seq (.ops r8_58) s8_57
def s8_59_w {E nt rd fr h Q} := @wp_unf E nt rd fr h Q _ _ s8_59.eq_1
def s8_60 : GC := .seq (s8_59) s8_54
def s8_60_w {E nt rd fr h Q} := @wp_unf E nt rd fr h Q _ _ s8_60.eq_1
def r8_61 : List GO := [⟨none, some 6, .assign (.const (.bool false))⟩]
def r8_61_w {E fr h Q} := @opsW_unf E fr h Q _ _ r8_61.eq_1
def s8_62 : GC := .seq (.ops r8_61) s8_60
def s8_62_w {E nt rd fr h Q} := @wp_unf E nt rd fr h Q _ _ s8_62.eq_1
theorem c8 : Try.f8.body.bind (clean env 61) = some s8_62 := by kernel_rfl
theorem e8 : env.funs.get 8 = some Try.f8 := by kernel_rfl
theorem F8 {args : List Value} {h : Heap} {K : Value → Heap → Prop} (hl : args.length = 3) (w : s8_62.wp env 61 none (setAll args 0 .leaf) h (resK env [.tmp 6] K)) : Ret env (.func 8) args h K :=
  Ret.of_body' rfl e8 c8 rfl rfl (by rw [hl]; decide) w
/-! helmsman/fair.Bound -/
def p9_0 : List (GO × List GO) := [(⟨none, some 14, .move (.tmp 5)⟩, []),
  (⟨none, some 15, .move (.tmp 1)⟩, []),
  (⟨none, some 16, .convert 3 22 (.tmp 15)⟩, []),
  (⟨none, some 18, .fieldAddr 25 (.tmp 2) 1⟩, []),
  (⟨none, some 19, .load 3 (.tmp 18)⟩, []),
  (⟨none, some 20, .call ⟨.builtin .max, ⟨[.tmp 19, .const (.int .i64 0)]⟩, ⟨[3, 3]⟩⟩⟩, []),
  (⟨none, some 21, .convert 3 22 (.tmp 20)⟩, []),
  (⟨none, some 22, .fieldAddr 25 (.tmp 2) 2⟩, []),
  (⟨none, some 23, .load 3 (.tmp 22)⟩, []),
  (⟨none, some 24, .call ⟨.builtin .max, ⟨[.tmp 23, .const (.int .i64 0)]⟩, ⟨[3, 3]⟩⟩⟩, []),
  (⟨none, some 25, .convert 3 22 (.tmp 24)⟩, []),
  (⟨none, some 17, .call ⟨.value (.func 18), ⟨[.tmp 14, .tmp 16]⟩, ⟨[22, 22]⟩⟩⟩, [⟨none, some 19, .load 3 (.tmp 18)⟩, ⟨none, some 23, .load 3 (.tmp 22)⟩]),
  (⟨none, some 26, .call ⟨.value (.func 19), ⟨[.tmp 21, .tmp 25]⟩, ⟨[22, 22]⟩⟩⟩, []),
  (⟨none, some 27, .call ⟨.value (.func 19), ⟨[.tmp 26, .const (.int .u64 2)]⟩, ⟨[22, 22]⟩⟩⟩, []),
  (⟨none, some 28, .call ⟨.value (.func 18), ⟨[.tmp 17, .tmp 27]⟩, ⟨[22, 22]⟩⟩⟩, []),
  (⟨none, some 4, .assign (.tmp 28)⟩, [])]
def p9_0_w {E fr h Q} := @planW_unf E fr h Q _ _ p9_0.eq_1
def s9_1 : GC := .seq (.plan p9_0) .ret
def s9_1_w {E nt rd fr h Q} := @wp_unf E nt rd fr h Q _ _ s9_1.eq_1
def r9_2 : List GO := [⟨none, some 8, .fieldAddr 25 (.tmp 2) 9⟩,
  ⟨none, some 9, .load 3 (.tmp 8)⟩,
  ⟨none, some 10, .call ⟨.builtin .max, ⟨[.tmp 9, .const (.int .i64 0)]⟩, ⟨[3, 3]⟩⟩⟩,
  ⟨none, some 11, .convert 3 22 (.tmp 10)⟩,
  ⟨none, some 12, .call ⟨.value (.func 19), ⟨[.tmp 11, .const (.int .u64 3)]⟩, ⟨[22, 22]⟩⟩⟩,
  ⟨none, some 13, .call ⟨.value (.func 18), ⟨[.const (.int .u64 4), .tmp 12]⟩, ⟨[22, 22]⟩⟩⟩,
  ⟨none, some 5, .assign (.tmp 13)⟩]
def r9_2_w {E fr h Q} := @opsW_unf E fr h Q _ _ r9_2.eq_1
def s9_3 : GC := .seq (.ops r9_2) s9_1
def s9_3_w {E nt rd fr h Q} := @wp_unf E nt rd fr h Q _ _ s9_3.eq_1
def r9_4 : List GO := [⟨none, some 4, .assign (.const (.int .u64 0))⟩]
def r9_4_w {E fr h Q} := @opsW_unf E fr h Q _ _ r9_4.eq_1
def s9_5 : GC := .seq (.ops r9_4) .ret
def s9_5_w {E nt rd fr h Q} := @wp_unf E nt rd fr h Q _ _ s9_5.eq_1
def s9_6 : GC := .cond (.tmp 7) s9_5 .skip
def s9_6_w {E nt rd fr h Q} := @wp_unf E nt rd fr h Q _ _ s9_6.eq_1
def r9_7 : List GO := [⟨none, some 6, .move (.tmp 1)⟩,
  ⟨none, some 7, .binOp .lss 3 (.tmp 6) (.const (.int .i64 1)) 3⟩]
def r9_7_w {E fr h Q} := @opsW_unf E fr h Q _ _ r9_7.eq_1
def s9_8 : GC := .seq (.ops r9_7) s9_6
def s9_8_w {E nt rd fr h Q} := @wp_unf E nt rd fr h Q _ _ s9_8.eq_1
def s9_9 : GC := .seq (s9_8) s9_3
def s9_9_w {E nt rd fr h Q} := @wp_unf E nt rd fr h Q _ _ s9_9.eq_1
def r9_10 : List GO := [⟨none, some 2, .box 25 (.tmp 0)⟩,
  ⟨none, some 4, .assign (.const (.int .u64 0))⟩]
def r9_10_w {E fr h Q} := @opsW_unf E fr h Q _ _ r9_10.eq_1
def s9_11 : GC := .seq (.ops r9_10) s9_9
def s9_11_w {E nt rd fr h Q} := @wp_unf E nt rd fr h Q _ _ s9_11.eq_1
theorem c9 : Try.f9.body.bind (clean env 29) = some s9_11 := by kernel_rfl
theorem e9 : env.funs.get 9 = some Try.f9 := by kernel_rfl
theorem F9 {args : List Value} {h : Heap} {K : Value → Heap → Prop} (hl : args.length = 2) (w : s9_11.wp env 29 none (setAll args 0 .leaf) h (resK env [.tmp 4] K)) : Ret env (.func 9) args h K :=
  Ret.of_body' rfl e9 c9 rfl rfl (by rw [hl]; decide) w
/-! helmsman/helmsmanref30.Bound -/
def p10_0 : List (GO × List GO) := [(⟨none, some 7, .fieldAddr 25 (.tmp 2) 9⟩, []),
  (⟨none, some 8, .load 3 (.tmp 7)⟩, []),
  (⟨none, some 9, .binOp .add 3 (.tmp 8) (.const (.int .i64 3)) 3⟩, []),
  (⟨none, some 10, .binOp .mul 3 (.const (.int .i64 4)) (.tmp 9) 3⟩, []),
  (⟨none, some 11, .convert 3 22 (.tmp 10)⟩, []),
  (⟨none, some 12, .move (.tmp 1)⟩, []),
  (⟨none, some 13, .convert 3 22 (.tmp 12)⟩, []),
  (⟨none, some 15, .fieldAddr 25 (.tmp 2) 1⟩, []),
  (⟨none, some 16, .load 3 (.tmp 15)⟩, []),
  (⟨none, some 17, .fieldAddr 25 (.tmp 2) 2⟩, []),
  (⟨none, some 18, .load 3 (.tmp 17)⟩, []),
  (⟨none, some 19, .binOp .add 3 (.tmp 16) (.tmp 18) 3⟩, []),
  (⟨none, some 20, .binOp .add 3 (.tmp 19) (.const (.int .i64 2)) 3⟩, []),
  (⟨none, some 21, .convert 3 22 (.tmp 20)⟩, []),
  (⟨none, some 14, .call ⟨.value (.func 20), ⟨[.tmp 11, .tmp 13]⟩, ⟨[22, 22]⟩⟩⟩, [⟨none, some 16, .load 3 (.tmp 15)⟩, ⟨none, some 18, .load 3 (.tmp 17)⟩]),
  (⟨none, some 22, .call ⟨.value (.func 20), ⟨[.tmp 14, .tmp 21]⟩, ⟨[22, 22]⟩⟩⟩, []),
  (⟨none, some 4, .assign (.tmp 22)⟩, [])]
def p10_0_w {E fr h Q} := @planW_unf E fr h Q _ _ p10_0.eq_1
def s10_1 : GC := .seq (.plan p10_0) .ret
def s10_1_w {E nt rd fr h Q} := @wp_unf E nt rd fr h Q _ _ s10_1.eq_1
def r10_2 : List GO := [⟨none, some 4, .assign (.const (.int .u64 0))⟩]
def r10_2_w {E fr h Q} := @opsW_unf E fr h Q _ _ r10_2.eq_1
def s10_3 : GC := .seq (.ops r10_2) .ret
def s10_3_w {E nt rd fr h Q} := @wp_unf E nt rd fr h Q _ _ s10_3.eq_1
def s10_4 : GC := .cond (.tmp 6) s10_3 .skip
def s10_4_w {E nt rd fr h Q} := @wp_unf E nt rd fr h Q _ _ s10_4.eq_1
def r10_5 : List GO := [⟨none, some 5, .move (.tmp 1)⟩,
  ⟨none, some 6, .binOp .lss 3 (.tmp 5) (.const (.int .i64 1)) 3⟩]
def r10_5_w {E fr h Q} := @opsW_unf E fr h Q _ _ r10_5.eq_1
def s10_6 : GC := .seq (.ops r10_5) s10_4
def s10_6_w {E nt rd fr h Q} := @wp_unf E nt rd fr h Q _ _ s10_6.eq_1
def s10_7 : GC := .seq (s10_6) s10_1
def s10_7_w {E nt rd fr h Q} := @wp_unf E nt rd fr h Q _ _ s10_7.eq_1
def r10_8 : List GO := [⟨none, some 2, .box 25 (.tmp 0)⟩,
  ⟨none, some 4, .assign (.const (.int .u64 0))⟩]
def r10_8_w {E fr h Q} := @opsW_unf E fr h Q _ _ r10_8.eq_1
def s10_9 : GC := .seq (.ops r10_8) s10_7
def s10_9_w {E nt rd fr h Q} := @wp_unf E nt rd fr h Q _ _ s10_9.eq_1
theorem c10 : Try.f10.body.bind (clean env 23) = some s10_9 := by kernel_rfl
theorem e10 : env.funs.get 10 = some Try.f10 := by kernel_rfl
theorem F10 {args : List Value} {h : Heap} {K : Value → Heap → Prop} (hl : args.length = 2) (w : s10_9.wp env 23 none (setAll args 0 .leaf) h (resK env [.tmp 4] K)) : Ret env (.func 10) args h K :=
  Ret.of_body' rfl e10 c10 rfl rfl (by rw [hl]; decide) w
/-! helmsman/fair.Rounds -/
def r11_0 : List GO := [⟨none, some 47, .move (.tmp 6)⟩,
  ⟨none, some 6, .assign (.tmp 47)⟩]
def r11_0_w {E fr h Q} := @opsW_unf E fr h Q _ _ r11_0.eq_1
def s11_1 : GC := .seq (.ops r11_0) .ret
def s11_1_w {E nt rd fr h Q} := @wp_unf E nt rd fr h Q _ _ s11_1.eq_1
def r11_2 : List GO := [⟨none, some 46, .binOp .add 3 (.tmp 11) (.const (.int .i64 1)) 3⟩,
  ⟨none, some 11, .move (.tmp 46)⟩]
def r11_2_w {E fr h Q} := @opsW_unf E fr h Q _ _ r11_2.eq_1
def s11_3 : GC := .ops r11_2
def s11_3_w {E nt rd fr h Q} := @wp_unf E nt rd fr h Q _ _ s11_3.eq_1
def r11_4 : List GO := [⟨none, some 45, .binOp .add 3 (.tmp 19) (.const (.int .i64 1)) 3⟩,
  ⟨none, some 19, .move (.tmp 45)⟩]
def r11_4_w {E fr h Q} := @opsW_unf E fr h Q _ _ r11_4.eq_1
def s11_5 : GC := .ops r11_4
def s11_5_w {E nt rd fr h Q} := @wp_unf E nt rd fr h Q _ _ s11_5.eq_1
def r11_6 : List GO := [⟨none, some 44, .binOp .add 3 (.tmp 23) (.const (.int .i64 1)) 3⟩,
  ⟨none, some 23, .move (.tmp 44)⟩]
def r11_6_w {E fr h Q} := @opsW_unf E fr h Q _ _ r11_6.eq_1
def s11_7 : GC := .ops r11_6
def s11_7_w {E nt rd fr h Q} := @wp_unf E nt rd fr h Q _ _ s11_7.eq_1
def r11_8 : List GO := [⟨none, some 43, .binOp .add 3 (.tmp 35) (.const (.int .i64 1)) 3⟩,
  ⟨none, some 35, .move (.tmp 43)⟩]
def r11_8_w {E fr h Q} := @opsW_unf E fr h Q _ _ r11_8.eq_1
def s11_9 : GC := .ops r11_8
def s11_9_w {E nt rd fr h Q} := @wp_unf E nt rd fr h Q _ _ s11_9.eq_1
def r11_10 : List GO := [⟨none, some 37, .move (.tmp 6)⟩,
  ⟨none, some 38, .move (.tmp 7)⟩,
  ⟨none, some 39, .move (.tmp 8)⟩,
  ⟨none, some 40, .build 52 ⟨[(0, .const (.int .i64 1)), (1, .tmp 38), (2, .tmp 39)]⟩⟩,
  ⟨none, some 41, .buildSlice 26 1 ⟨[(0, .tmp 40)]⟩⟩,
  ⟨none, some 42, .call ⟨.builtin .append, ⟨[.tmp 37, .tmp 41]⟩, ⟨[26, 26]⟩⟩⟩,
  ⟨none, some 6, .assign (.tmp 42)⟩]
def r11_10_w {E fr h Q} := @opsW_unf E fr h Q _ _ r11_10.eq_1
def s11_11 : GC := .ops r11_10
def s11_11_w {E nt rd fr h Q} := @wp_unf E nt rd fr h Q _ _ s11_11.eq_1
def s11_12 : GC := .seq (.block 7 s11_11) s11_9
def s11_12_w {E nt rd fr h Q} := @wp_unf E nt rd fr h Q _ _ s11_12.eq_1
def s11_13 : GC := .cond (.tmp 36) .skip (.exit 6)
def s11_13_w {E nt rd fr h Q} := @wp_unf E nt rd fr h Q _ _ s11_13.eq_1
def s11_14 : GC := .seq (s11_13) s11_12
def s11_14_w {E nt rd fr h Q} := @wp_unf E nt rd fr h Q _ _ s11_14.eq_1
def r11_15 : List GO := [⟨none, some 36, .binOp .lss 3 (.tmp 35) (.tmp 34) 3⟩]
def r11_15_w {E fr h Q} := @opsW_unf E fr h Q _ _ r11_15.eq_1
def s11_16 : GC := .seq (.ops r11_15) s11_14
def s11_16_w {E nt rd fr h Q} := @wp_unf E nt rd fr h Q _ _ s11_16.eq_1
def s11_17 : GC := .loop s11_16
def s11_17_w {E nt rd fr h Q} := @wp_unf E nt rd fr h Q _ _ s11_17.eq_1
def s11_18 : GC := .block 6 s11_17
def s11_18_w {E nt rd fr h Q} := @wp_unf E nt rd fr h Q _ _ s11_18.eq_1
def r11_19 : List GO := [⟨none, some 33, .move (.tmp 1)⟩,
  ⟨none, some 34, .call ⟨.builtin .max, ⟨[.tmp 33, .const (.int .i64 0)]⟩, ⟨[3, 3]⟩⟩⟩,
  ⟨none, some 35, .move (.const (.int .i64 0))⟩]
def r11_19_w {E fr h Q} := @opsW_unf E fr h Q _ _ r11_19.eq_1
def s11_20 : GC := .seq (.ops r11_19) s11_18
def s11_20_w {E nt rd fr h Q} := @wp_unf E nt rd fr h Q _ _ s11_20.eq_1
def s11_21 : GC := .cond (.tmp 32) (.exit 5) .skip
def s11_21_w {E nt rd fr h Q} := @wp_unf E nt rd fr h Q _ _ s11_21.eq_1
def r11_22 : List GO := [⟨none, some 26, .move (.tmp 7)⟩,
  ⟨none, some 27, .move (.tmp 8)⟩,
  ⟨none, some 28, .binOp .eql 3 (.tmp 26) (.tmp 27) 3⟩,
  ⟨none, some 29, .move (.tmp 28)⟩,
  ⟨some (29, true), some 30, .move (.tmp 0)⟩,
  ⟨some (29, true), some 31, .binOp .gtr 3 (.tmp 30) (.const (.int .i64 1)) 3⟩,
  ⟨none, some 32, .pick (.tmp 29) (.tmp 31) (.const (.bool false))⟩]
def r11_22_w {E fr h Q} := @opsW_unf E fr h Q _ _ r11_22.eq_1
def s11_23 : GC := .seq (.ops r11_22) s11_21
def s11_23_w {E nt rd fr h Q} := @wp_unf E nt rd fr h Q _ _ s11_23.eq_1
def s11_24 : GC := .seq (s11_23) s11_20
def s11_24_w {E nt rd fr h Q} := @wp_unf E nt rd fr h Q _ _ s11_24.eq_1
def r11_25 : List GO := [⟨none, some 25, .move (.tmp 23)⟩,
  ⟨none, some 8, .assign (.tmp 25)⟩]
def r11_25_w {E fr h Q} := @opsW_unf E fr h Q _ _ r11_25.eq_1
def s11_26 : GC := .seq (.ops r11_25) s11_24
def s11_26_w {E nt rd fr h Q} := @wp_unf E nt rd fr h Q _ _ s11_26.eq_1
def s11_27 : GC := .seq (.block 5 s11_26) s11_7
def s11_27_w {E nt rd fr h Q} := @wp_unf E nt rd fr h Q _ _ s11_27.eq_1
def s11_28 : GC := .cond (.tmp 24) .skip (.exit 4)
def s11_28_w {E nt rd fr h Q} := @wp_unf E nt rd fr h Q _ _ s11_28.eq_1
def s11_29 : GC := .seq (s11_28) s11_27
def s11_29_w {E nt rd fr h Q} := @wp_unf E nt rd fr h Q _ _ s11_29.eq_1
def r11_30 : List GO := [⟨none, some 24, .binOp .lss 3 (.tmp 23) (.tmp 22) 3⟩]
def r11_30_w {E fr h Q} := @opsW_unf E fr h Q _ _ r11_30.eq_1
def s11_31 : GC := .seq (.ops r11_30) s11_29
def s11_31_w {E nt rd fr h Q} := @wp_unf E nt rd fr h Q _ _ s11_31.eq_1
def s11_32 : GC := .loop s11_31
def s11_32_w {E nt rd fr h Q} := @wp_unf E nt rd fr h Q _ _ s11_32.eq_1
def s11_33 : GC := .block 4 s11_32
def s11_33_w {E nt rd fr h Q} := @wp_unf E nt rd fr h Q _ _ s11_33.eq_1
def r11_34 : List GO := [⟨none, some 22, .move (.tmp 0)⟩,
  ⟨none, some 23, .move (.const (.int .i64 0))⟩]
def r11_34_w {E fr h Q} := @opsW_unf E fr h Q _ _ r11_34.eq_1
def s11_35 : GC := .seq (.ops r11_34) s11_33
def s11_35_w {E nt rd fr h Q} := @wp_unf E nt rd fr h Q _ _ s11_35.eq_1
def r11_36 : List GO := [⟨none, some 21, .move (.tmp 19)⟩,
  ⟨none, some 7, .assign (.tmp 21)⟩]
def r11_36_w {E fr h Q} := @opsW_unf E fr h Q _ _ r11_36.eq_1
def s11_37 : GC := .seq (.ops r11_36) s11_35
def s11_37_w {E nt rd fr h Q} := @wp_unf E nt rd fr h Q _ _ s11_37.eq_1
def s11_38 : GC := .seq (.block 3 s11_37) s11_5
def s11_38_w {E nt rd fr h Q} := @wp_unf E nt rd fr h Q _ _ s11_38.eq_1
def s11_39 : GC := .cond (.tmp 20) .skip (.exit 2)
def s11_39_w {E nt rd fr h Q} := @wp_unf E nt rd fr h Q _ _ s11_39.eq_1
def s11_40 : GC := .seq (s11_39) s11_38
def s11_40_w {E nt rd fr h Q} := @wp_unf E nt rd fr h Q _ _ s11_40.eq_1
def r11_41 : List GO := [⟨none, some 20, .binOp .lss 3 (.tmp 19) (.tmp 18) 3⟩]
def r11_41_w {E fr h Q} := @opsW_unf E fr h Q _ _ r11_41.eq_1
def s11_42 : GC := .seq (.ops r11_41) s11_40
def s11_42_w {E nt rd fr h Q} := @wp_unf E nt rd fr h Q _ _ s11_42.eq_1
def s11_43 : GC := .loop s11_42
def s11_43_w {E nt rd fr h Q} := @wp_unf E nt rd fr h Q _ _ s11_43.eq_1
def s11_44 : GC := .block 2 s11_43
def s11_44_w {E nt rd fr h Q} := @wp_unf E nt rd fr h Q _ _ s11_44.eq_1
def r11_45 : List GO := [⟨none, some 17, .move (.tmp 0)⟩,
  ⟨none, some 18, .call ⟨.builtin .max, ⟨[.tmp 17, .const (.int .i64 0)]⟩, ⟨[3, 3]⟩⟩⟩,
  ⟨none, some 19, .move (.const (.int .i64 0))⟩]
def r11_45_w {E fr h Q} := @opsW_unf E fr h Q _ _ r11_45.eq_1
def s11_46 : GC := .seq (.ops r11_45) s11_44
def s11_46_w {E nt rd fr h Q} := @wp_unf E nt rd fr h Q _ _ s11_46.eq_1
def r11_47 : List GO := [⟨none, some 13, .move (.tmp 6)⟩,
  ⟨none, some 14, .build 52 ⟨[(0, .const (.int .i64 2))]⟩⟩,
  ⟨none, some 15, .buildSlice 26 1 ⟨[(0, .tmp 14)]⟩⟩,
  ⟨none, some 16, .call ⟨.builtin .append, ⟨[.tmp 13, .tmp 15]⟩, ⟨[26, 26]⟩⟩⟩,
  ⟨none, some 6, .assign (.tmp 16)⟩]
def r11_47_w {E fr h Q} := @opsW_unf E fr h Q _ _ r11_47.eq_1
def s11_48 : GC := .seq (.ops r11_47) s11_46
def s11_48_w {E nt rd fr h Q} := @wp_unf E nt rd fr h Q _ _ s11_48.eq_1
def s11_49 : GC := .seq (.block 1 s11_48) s11_3
def s11_49_w {E nt rd fr h Q} := @wp_unf E nt rd fr h Q _ _ s11_49.eq_1
def s11_50 : GC := .cond (.tmp 12) .skip (.exit 0)
def s11_50_w {E nt rd fr h Q} := @wp_unf E nt rd fr h Q _ _ s11_50.eq_1
def s11_51 : GC := .seq (s11_50) s11_49
def s11_51_w {E nt rd fr h Q} := @wp_unf E nt rd fr h Q _ _ s11_51.eq_1
def r11_52 : List GO := [⟨none, some 12, .binOp .lss 3 (.tmp 11) (.tmp 10) 3⟩]
def r11_52_w {E fr h Q} := @opsW_unf E fr h Q _ _ r11_52.eq_1
def s11_53 : GC := .seq (.ops r11_52) s11_51
def s11_53_w {E nt rd fr h Q} := @wp_unf E nt rd fr h Q _ _ s11_53.eq_1
def s11_54 : GC := .loop s11_53
def s11_54_w {E nt rd fr h Q} := @wp_unf E nt rd fr h Q _ _ s11_54.eq_1
def s11_55 : GC := .block 0 s11_54
def s11_55_w {E nt rd fr h Q} := @wp_unf E nt rd fr h Q _ _ s11_55.eq_1
def r11_56 : List GO := [⟨none, some 9, .move (.tmp 2)⟩,
  ⟨none, some 10, .call ⟨.builtin .max, ⟨[.tmp 9, .const (.int .i64 0)]⟩, ⟨[3, 3]⟩⟩⟩,
  ⟨none, some 11, .move (.const (.int .i64 0))⟩]
def r11_56_w {E fr h Q} := @opsW_unf E fr h Q _ _ r11_56.eq_1
def s11_57 : GC := .seq (.ops r11_56) s11_55
def s11_57_w {E nt rd fr h Q} := @wp_unf E nt rd fr h Q _ _ s11_57.eq_1
def s11_58 : GC := .seq (s11_57) s11_1
def s11_58_w {E nt rd fr h Q} := @wp_unf E nt rd fr h Q _ _ s11_58.eq_1
def r11_59 : List GO := [⟨none, some 6, .assign (.const (.slice none 0 0))⟩]
def r11_59_w {E fr h Q} := @opsW_unf E fr h Q _ _ r11_59.eq_1
def s11_60 : GC := .seq (.ops r11_59) s11_58
def s11_60_w {E nt rd fr h Q} := @wp_unf E nt rd fr h Q _ _ s11_60.eq_1
theorem c11 : Try.f11.body.bind (clean env 48) = some s11_60 := by kernel_rfl
theorem e11 : env.funs.get 11 = some Try.f11 := by kernel_rfl
theorem F11 {args : List Value} {h : Heap} {K : Value → Heap → Prop} (hl : args.length = 3) (w : s11_60.wp env 48 none (setAll args 0 .leaf) h (resK env [.tmp 6] K)) : Ret env (.func 11) args h K :=
  Ret.of_body' rfl e11 c11 rfl rfl (by rw [hl]; decide) w
/-! helmsman/helmsmanlaw20.Few -/
def r15_0 : List GO := [⟨none, some 24, .fieldAddr 25 (.tmp 1) 2⟩,
  ⟨none, some 25, .load 3 (.tmp 24)⟩,
  ⟨none, some 26, .binOp .leq 3 (.tmp 25) (.const (.int .i64 16)) 3⟩,
  ⟨none, some 27, .move (.tmp 26)⟩,
  ⟨some (27, true), some 28, .fieldAddr 25 (.tmp 1) 14⟩,
  ⟨some (27, true), some 29, .load 23 (.tmp 28)⟩,
  ⟨some (27, true), some 30, .call ⟨.builtin .len, ⟨[.tmp 29]⟩, ⟨[23]⟩⟩⟩,
  ⟨some (27, true), some 31, .binOp .leq 3 (.tmp 30) (.const (.int .i64 16)) 3⟩,
  ⟨none, some 32, .pick (.tmp 27) (.tmp 31) (.const (.bool false))⟩,
  ⟨none, some 33, .move (.tmp 32)⟩,
  ⟨some (33, true), some 34, .move (.tmp 3)⟩,
  ⟨some (33, true), some 35, .binOp .leq 3 (.tmp 34) (.const (.int .i64 4000)) 3⟩,
  ⟨none, some 36, .pick (.tmp 33) (.tmp 35) (.const (.bool false))⟩,
  ⟨none, some 2, .assign (.tmp 36)⟩]
def r15_0_w {E fr h Q} := @opsW_unf E fr h Q _ _ r15_0.eq_1
def s15_1 : GC := .seq (.ops r15_0) .ret
def s15_1_w {E nt rd fr h Q} := @wp_unf E nt rd fr h Q _ _ s15_1.eq_1
def r15_2 : List GO := [⟨none, some 14, .move (.tmp 4)⟩,
  ⟨none, some 15, .binOp .add 3 (.tmp 14) (.const (.int .i64 1)) 3⟩,
  ⟨none, some 4, .assign (.tmp 15)⟩]
def r15_2_w {E fr h Q} := @opsW_unf E fr h Q _ _ r15_2.eq_1
def s15_3 : GC := .ops r15_2
def s15_3_w {E nt rd fr h Q} := @wp_unf E nt rd fr h Q _ _ s15_3.eq_1
def r15_4 : List GO := [⟨none, some 16, .move (.tmp 3)⟩,
  ⟨none, some 17, .fieldAddr 25 (.tmp 1) 14⟩,
  ⟨none, some 18, .load 23 (.tmp 17)⟩,
  ⟨none, some 19, .move (.tmp 4)⟩,
  ⟨none, some 20, .indexAddr 23 (.tmp 18) (.tmp 19)⟩,
  ⟨none, some 21, .load 80 (.tmp 20)⟩,
  ⟨none, some 22, .call ⟨.builtin .len, ⟨[.tmp 21]⟩, ⟨[80]⟩⟩⟩,
  ⟨none, some 23, .binOp .add 3 (.tmp 16) (.tmp 22) 3⟩,
  ⟨none, some 3, .assign (.tmp 23)⟩]
def r15_4_w {E fr h Q} := @opsW_unf E fr h Q _ _ r15_4.eq_1
def s15_5 : GC := .ops r15_4
def s15_5_w {E nt rd fr h Q} := @wp_unf E nt rd fr h Q _ _ s15_5.eq_1
def s15_6 : GC := .seq (.block 1 s15_5) s15_3
def s15_6_w {E nt rd fr h Q} := @wp_unf E nt rd fr h Q _ _ s15_6.eq_1
def s15_7 : GC := .cond (.tmp 13) .skip (.exit 0)
def s15_7_w {E nt rd fr h Q} := @wp_unf E nt rd fr h Q _ _ s15_7.eq_1
def r15_8 : List GO := [⟨none, some 5, .move (.tmp 4)⟩,
  ⟨none, some 6, .fieldAddr 25 (.tmp 1) 14⟩,
  ⟨none, some 7, .load 23 (.tmp 6)⟩,
  ⟨none, some 8, .call ⟨.builtin .len, ⟨[.tmp 7]⟩, ⟨[23]⟩⟩⟩,
  ⟨none, some 9, .binOp .lss 3 (.tmp 5) (.tmp 8) 3⟩,
  ⟨none, some 10, .move (.tmp 9)⟩,
  ⟨some (10, true), some 11, .move (.tmp 4)⟩,
  ⟨some (10, true), some 12, .binOp .leq 3 (.tmp 11) (.const (.int .i64 16)) 3⟩,
  ⟨none, some 13, .pick (.tmp 10) (.tmp 12) (.const (.bool false))⟩]
def r15_8_w {E fr h Q} := @opsW_unf E fr h Q _ _ r15_8.eq_1
def s15_9 : GC := .seq (.ops r15_8) s15_7
def s15_9_w {E nt rd fr h Q} := @wp_unf E nt rd fr h Q _ _ s15_9.eq_1
def s15_10 : GC := .seq (s15_9) s15_6
def s15_10_w {E nt rd fr h Q} := @wp_unf E nt rd fr h Q _ _ s15_10.eq_1
def s15_11 : GC := .loop s15_10
def s15_11_w {E nt rd fr h Q} := @wp_unf E nt rd fr h Q _ _ s15_11.eq_1
def s15_12 : GC := .block 0 s15_11
def s15_12_w {E nt rd fr h Q} := @wp_unf E nt rd fr h Q _ _ s15_12.eq_1
def r15_13 : List GO := [⟨none, some 4, .assign (.const (.int .i64 0))⟩]
def r15_13_w {E fr h Q} := @opsW_unf E fr h Q _ _ r15_13.eq_1
def s15_14 : GC := .seq (.ops r15_13) s15_12
def s15_14_w {E nt rd fr h Q} := @wp_unf E nt rd fr h Q _ _ s15_14.eq_1
def s15_15 : GC := .seq (s15_14) s15_1
def s15_15_w {E nt rd fr h Q} := @wp_unf E nt rd fr h Q _ _ s15_15.eq_1
def r15_16 : List GO := [⟨none, some 3, .assign (.const (.int .i64 0))⟩]
def r15_16_w {E fr h Q} := @opsW_unf E fr h Q _ _ r15_16.eq_1
def s15_17 : GC := .seq (.ops r15_16) s15_15
def s15_17_w {E nt rd fr h Q} := @wp_unf E nt rd fr h Q _ _ s15_17.eq_1
def r15_18 : List GO := [⟨none, some 1, .box 25 (.tmp 0)⟩,
  ⟨none, some 2, .assign (.const (.bool false))⟩]
def r15_18_w {E fr h Q} := @opsW_unf E fr h Q _ _ r15_18.eq_1
def s15_19 : GC := .seq (.ops r15_18) s15_17
def s15_19_w {E nt rd fr h Q} := @wp_unf E nt rd fr h Q _ _ s15_19.eq_1
theorem c15 : Try.f15.body.bind (clean env 37) = some s15_19 := by kernel_rfl
theorem e15 : env.funs.get 15 = some Try.f15 := by kernel_rfl
theorem F15 {args : List Value} {h : Heap} {K : Value → Heap → Prop} (hl : args.length = 1) (w : s15_19.wp env 37 none (setAll args 0 .leaf) h (resK env [.tmp 2] K)) : Ret env (.func 15) args h K :=
  Ret.of_body' rfl e15 c15 rfl rfl (by rw [hl]; decide) w
/-! helmsman/helmsmanref30.has -/
def r17_0 : List GO := [⟨none, some 6, .assign (.const (.bool false))⟩]
def r17_0_w {E fr h Q} := @opsW_unf E fr h Q _ _ r17_0.eq_1
def s17_1 : GC := .seq (.ops r17_0) .ret
def s17_1_w {E nt rd fr h Q} := @wp_unf E nt rd fr h Q _ _ s17_1.eq_1
def r17_2 : List GO := [⟨none, some 12, .move (.tmp 7)⟩,
  ⟨none, some 13, .binOp .add 3 (.tmp 12) (.const (.int .i64 1)) 3⟩,
  ⟨none, some 7, .assign (.tmp 13)⟩]
def r17_2_w {E fr h Q} := @opsW_unf E fr h Q _ _ r17_2.eq_1
def s17_3 : GC := .ops r17_2
def s17_3_w {E nt rd fr h Q} := @wp_unf E nt rd fr h Q _ _ s17_3.eq_1
def r17_4 : List GO := [⟨none, some 6, .assign (.const (.bool true))⟩]
def r17_4_w {E fr h Q} := @opsW_unf E fr h Q _ _ r17_4.eq_1
def s17_5 : GC := .seq (.ops r17_4) .ret
def s17_5_w {E nt rd fr h Q} := @wp_unf E nt rd fr h Q _ _ s17_5.eq_1
def s17_6 : GC := .cond (.tmp 57) s17_5 .skip
def s17_6_w {E nt rd fr h Q} := @wp_unf E nt rd fr h Q _ _ s17_6.eq_1
def r17_7 : List GO := [⟨none, some 14, .move (.tmp 1)⟩,
  ⟨none, some 15, .binOp .lss 3 (.tmp 14) (.const (.int .i64 0)) 3⟩,
  ⟨none, some 16, .move (.tmp 15)⟩,
  ⟨some (16, true), some 17, .move (.tmp 0)⟩,
  ⟨some (16, true), some 18, .move (.tmp 7)⟩,
  ⟨some (16, true), some 19, .indexAddr 26 (.tmp 17) (.tmp 18)⟩,
  ⟨some (16, true), some 20, .fieldAddr 52 (.tmp 19) 0⟩,
  ⟨some (16, true), some 21, .load 50 (.tmp 20)⟩,
  ⟨some (16, true), some 22, .binOp .eql 50 (.tmp 21) (.const (.int .i64 2)) 50⟩,
  ⟨none, some 23, .pick (.tmp 16) (.tmp 22) (.const (.bool false))⟩,
  ⟨none, some 24, .move (.tmp 23)⟩,
  ⟨some (24, false), some 25, .move (.tmp 1)⟩,
  ⟨some (24, false), some 26, .binOp .geq 3 (.tmp 25) (.const (.int .i64 0)) 3⟩,
  ⟨some (24, false), some 27, .move (.tmp 26)⟩,
  ⟨some (27, true), some 28, .move (.tmp 0)⟩,
  ⟨some (27, true), some 29, .move (.tmp 7)⟩,
  ⟨some (27, true), some 30, .indexAddr 26 (.tmp 28) (.tmp 29)⟩,
  ⟨some (27, true), some 31, .fieldAddr 52 (.tmp 30) 0⟩,
  ⟨some (27, true), some 32, .load 50 (.tmp 31)⟩,
  ⟨some (27, true), some 33, .binOp .eql 50 (.tmp 32) (.const (.int .i64 1)) 50⟩,
  ⟨some (24, false), some 34, .pick (.tmp 27) (.tmp 33) (.const (.bool false))⟩,
  ⟨some (24, false), some 35, .move (.tmp 34)⟩,
  ⟨some (35, true), some 36, .move (.tmp 0)⟩,
  ⟨some (35, true), some 37, .move (.tmp 7)⟩,
  ⟨some (35, true), some 38, .indexAddr 26 (.tmp 36) (.tmp 37)⟩,
  ⟨some (35, true), some 39, .fieldAddr 52 (.tmp 38) 1⟩,
  ⟨some (35, true), some 40, .load 3 (.tmp 39)⟩,
  ⟨some (35, true), some 41, .move (.tmp 1)⟩,
  ⟨some (35, true), some 42, .binOp .eql 3 (.tmp 40) (.tmp 41) 3⟩,
  ⟨some (24, false), some 43, .pick (.tmp 35) (.tmp 42) (.const (.bool false))⟩,
  ⟨some (24, false), some 44, .move (.tmp 43)⟩,
  ⟨some (44, true), some 45, .move (.tmp 2)⟩,
  ⟨some (44, true), some 46, .binOp .lss 3 (.tmp 45) (.const (.int .i64 0)) 3⟩,
  ⟨some (44, true), some 47, .move (.tmp 46)⟩,
  ⟨some (47, false), some 48, .move (.tmp 0)⟩,
  ⟨some (47, false), some 49, .move (.tmp 7)⟩,
  ⟨some (47, false), some 50, .indexAddr 26 (.tmp 48) (.tmp 49)⟩,
  ⟨some (47, false), some 51, .fieldAddr 52 (.tmp 50) 2⟩,
  ⟨some (47, false), some 52, .load 3 (.tmp 51)⟩,
  ⟨some (47, false), some 53, .move (.tmp 2)⟩,
  ⟨some (47, false), some 54, .binOp .eql 3 (.tmp 52) (.tmp 53) 3⟩,
  ⟨some (44, true), some 55, .pick (.tmp 47) (.const (.bool true)) (.tmp 54)⟩,
  ⟨some (24, false), some 56, .pick (.tmp 44) (.tmp 55) (.const (.bool false))⟩,
  ⟨none, some 57, .pick (.tmp 24) (.const (.bool true)) (.tmp 56)⟩]
def r17_7_w {E fr h Q} := @opsW_unf E fr h Q _ _ r17_7.eq_1
def s17_8 : GC := .seq (.ops r17_7) s17_6
def s17_8_w {E nt rd fr h Q} := @wp_unf E nt rd fr h Q _ _ s17_8.eq_1
def s17_9 : GC := .seq (.block 1 s17_8) s17_3
def s17_9_w {E nt rd fr h Q} := @wp_unf E nt rd fr h Q _ _ s17_9.eq_1
def s17_10 : GC := .cond (.tmp 11) .skip (.exit 0)
def s17_10_w {E nt rd fr h Q} := @wp_unf E nt rd fr h Q _ _ s17_10.eq_1
def r17_11 : List GO := [⟨none, some 8, .move (.tmp 7)⟩,
  ⟨none, some 9, .move (.tmp 0)⟩,
  ⟨none, some 10, .call ⟨.builtin .len, ⟨[.tmp 9]⟩, ⟨[26]⟩⟩⟩,
  ⟨none, some 11, .binOp .lss 3 (.tmp 8) (.tmp 10) 3⟩]
def r17_11_w {E fr h Q} := @opsW_unf E fr h Q _ _ r17_11.eq_1
def s17_12 : GC := .seq (.ops r17_11) s17_10
def s17_12_w {E nt rd fr h Q} := @wp_unf E nt rd fr h Q _ _ s17_12.eq_1
def s17_13 : GC := .seq (s17_12) s17_9
def s17_13_w {E nt rd fr h Q} := @wp_unf E nt rd fr h Q _ _ s17_13.eq_1
def s17_14 : GC := .loop s17_13
def s17_14_w {E nt rd fr h Q} := @wp_unf E nt rd fr h Q _ _ s17_14.eq_1
def s17_15 : GC := .block 0 s17_14
def s17_15_w {E nt rd fr h Q} := @wp_unf E nt rd fr h Q _ _ s17_15.eq_1
def r17_16 : List GO := [⟨none, some 7, .assign (.const (.int .i64 0))⟩]
def r17_16_w {E fr h Q} := @opsW_unf E fr h Q _ _ r17_16.eq_1
def s17_17 : GC := .seq (.ops r17_16) s17_15
def s17_17_w {E nt rd fr h Q} := @wp_unf E nt rd fr h Q _ _ s17_17.eq_1
def s17_18 : GC := .seq (s17_17) s17_1
def s17_18_w {E nt rd fr h Q} := @wp_unf E nt rd fr h Q _ _ s17_18.eq_1
def r17_19 : List GO := [⟨none, some 6, .assign (.const (.bool false))⟩]
def r17_19_w {E fr h Q} := @opsW_unf E fr h Q _ _ r17_19.eq_1
def s17_20 : GC := .seq (.ops r17_19) s17_18
def s17_20_w {E nt rd fr h Q} := @wp_unf E nt rd fr h Q _ _ s17_20.eq_1
theorem c17 : Try.f17.body.bind (clean env 58) = some s17_20 := by kernel_rfl
theorem e17 : env.funs.get 17 = some Try.f17 := by kernel_rfl
theorem F17 {args : List Value} {h : Heap} {K : Value → Heap → Prop} (hl : args.length = 3) (w : s17_20.wp env 58 none (setAll args 0 .leaf) h (resK env [.tmp 6] K)) : Ret env (.func 17) args h K :=
  Ret.of_body' rfl e17 c17 rfl rfl (by rw [hl]; decide) w
/-! helmsman/num.MulSat -/
def r18_0 : List GO := [⟨none, some 13, .move (.tmp 5)⟩,
  ⟨none, some 14, .move (.tmp 6)⟩,
  ⟨none, some 15, .call ⟨.value (.func 40), ⟨[.tmp 13, .tmp 14, .const (.int .u64 18446744073709551615)]⟩, ⟨[22, 4, 22]⟩⟩⟩,
  ⟨none, some 4, .assign (.tmp 15)⟩]
def r18_0_w {E fr h Q} := @opsW_unf E fr h Q _ _ r18_0.eq_1
def s18_1 : GC := .seq (.ops r18_0) .ret
def s18_1_w {E nt rd fr h Q} := @wp_unf E nt rd fr h Q _ _ s18_1.eq_1
def r18_2 : List GO := [⟨none, some 8, .move (.tmp 0)⟩,
  ⟨none, some 9, .move (.tmp 1)⟩,
  ⟨none, some 10, .call ⟨.value (.func 39), ⟨[.tmp 8, .tmp 9]⟩, ⟨[22, 22]⟩⟩⟩,
  ⟨none, some 7, .move (.tmp 10)⟩,
  ⟨none, some 11, .extract (.tmp 7) 0⟩,
  ⟨none, some 12, .extract (.tmp 7) 1⟩,
  ⟨none, some 5, .assign (.tmp 11)⟩,
  ⟨none, some 6, .assign (.tmp 12)⟩]
def r18_2_w {E fr h Q} := @opsW_unf E fr h Q _ _ r18_2.eq_1
def s18_3 : GC := .seq (.ops r18_2) s18_1
def s18_3_w {E nt rd fr h Q} := @wp_unf E nt rd fr h Q _ _ s18_3.eq_1
def r18_4 : List GO := [⟨none, some 4, .assign (.const (.int .u64 0))⟩]
def r18_4_w {E fr h Q} := @opsW_unf E fr h Q _ _ r18_4.eq_1
def s18_5 : GC := .seq (.ops r18_4) s18_3
def s18_5_w {E nt rd fr h Q} := @wp_unf E nt rd fr h Q _ _ s18_5.eq_1
theorem c18 : Try.f18.body.bind (clean env 16) = some s18_5 := by kernel_rfl
theorem e18 : env.funs.get 18 = some Try.f18 := by kernel_rfl
theorem F18 {args : List Value} {h : Heap} {K : Value → Heap → Prop} (hl : args.length = 2) (w : s18_5.wp env 16 none (setAll args 0 .leaf) h (resK env [.tmp 4] K)) : Ret env (.func 18) args h K :=
  Ret.of_body' rfl e18 c18 rfl rfl (by rw [hl]; decide) w
/-! helmsman/num.AddSat -/
def r19_0 : List GO := [⟨none, some 13, .move (.tmp 5)⟩,
  ⟨none, some 14, .move (.tmp 6)⟩,
  ⟨none, some 15, .call ⟨.value (.func 40), ⟨[.tmp 13, .tmp 14, .const (.int .u64 18446744073709551615)]⟩, ⟨[22, 4, 22]⟩⟩⟩,
  ⟨none, some 4, .assign (.tmp 15)⟩]
def r19_0_w {E fr h Q} := @opsW_unf E fr h Q _ _ r19_0.eq_1
def s19_1 : GC := .seq (.ops r19_0) .ret
def s19_1_w {E nt rd fr h Q} := @wp_unf E nt rd fr h Q _ _ s19_1.eq_1
def r19_2 : List GO := [⟨none, some 8, .move (.tmp 0)⟩,
  ⟨none, some 9, .move (.tmp 1)⟩,
  ⟨none, some 10, .call ⟨.value (.func 41), ⟨[.tmp 8, .tmp 9]⟩, ⟨[22, 22]⟩⟩⟩,
  ⟨none, some 7, .move (.tmp 10)⟩,
  ⟨none, some 11, .extract (.tmp 7) 0⟩,
  ⟨none, some 12, .extract (.tmp 7) 1⟩,
  ⟨none, some 5, .assign (.tmp 11)⟩,
  ⟨none, some 6, .assign (.tmp 12)⟩]
def r19_2_w {E fr h Q} := @opsW_unf E fr h Q _ _ r19_2.eq_1
def s19_3 : GC := .seq (.ops r19_2) s19_1
def s19_3_w {E nt rd fr h Q} := @wp_unf E nt rd fr h Q _ _ s19_3.eq_1
def r19_4 : List GO := [⟨none, some 4, .assign (.const (.int .u64 0))⟩]
def r19_4_w {E fr h Q} := @opsW_unf E fr h Q _ _ r19_4.eq_1
def s19_5 : GC := .seq (.ops r19_4) s19_3
def s19_5_w {E nt rd fr h Q} := @wp_unf E nt rd fr h Q _ _ s19_5.eq_1
theorem c19 : Try.f19.body.bind (clean env 16) = some s19_5 := by kernel_rfl
theorem e19 : env.funs.get 19 = some Try.f19 := by kernel_rfl
theorem F19 {args : List Value} {h : Heap} {K : Value → Heap → Prop} (hl : args.length = 2) (w : s19_5.wp env 16 none (setAll args 0 .leaf) h (resK env [.tmp 4] K)) : Ret env (.func 19) args h K :=
  Ret.of_body' rfl e19 c19 rfl rfl (by rw [hl]; decide) w
/-! helmsman/helmsmanref30.mul -/
def r20_0 : List GO := [⟨none, some 15, .move (.tmp 5)⟩,
  ⟨none, some 4, .assign (.tmp 15)⟩]
def r20_0_w {E fr h Q} := @opsW_unf E fr h Q _ _ r20_0.eq_1
def s20_1 : GC := .seq (.ops r20_0) .ret
def s20_1_w {E nt rd fr h Q} := @wp_unf E nt rd fr h Q _ _ s20_1.eq_1
def r20_2 : List GO := [⟨none, some 4, .assign (.const (.int .u64 18446744073709551615))⟩]
def r20_2_w {E fr h Q} := @opsW_unf E fr h Q _ _ r20_2.eq_1
def s20_3 : GC := .seq (.ops r20_2) .ret
def s20_3_w {E nt rd fr h Q} := @wp_unf E nt rd fr h Q _ _ s20_3.eq_1
def s20_4 : GC := .cond (.tmp 14) s20_3 .skip
def s20_4_w {E nt rd fr h Q} := @wp_unf E nt rd fr h Q _ _ s20_4.eq_1
def r20_5 : List GO := [⟨none, some 13, .move (.tmp 6)⟩,
  ⟨none, some 14, .unOp .not 4 (.tmp 13)⟩]
def r20_5_w {E fr h Q} := @opsW_unf E fr h Q _ _ r20_5.eq_1
def s20_6 : GC := .seq (.ops r20_5) s20_4
def s20_6_w {E nt rd fr h Q} := @wp_unf E nt rd fr h Q _ _ s20_6.eq_1
def s20_7 : GC := .seq (s20_6) s20_1
def s20_7_w {E nt rd fr h Q} := @wp_unf E nt rd fr h Q _ _ s20_7.eq_1
def r20_8 : List GO := [⟨none, some 8, .move (.tmp 0)⟩,
  ⟨none, some 9, .move (.tmp 1)⟩,
  ⟨none, some 10, .call ⟨.value (.func 42), ⟨[.tmp 8, .tmp 9]⟩, ⟨[22, 22]⟩⟩⟩,
  ⟨none, some 7, .move (.tmp 10)⟩,
  ⟨none, some 11, .extract (.tmp 7) 0⟩,
  ⟨none, some 12, .extract (.tmp 7) 1⟩,
  ⟨none, some 5, .assign (.tmp 11)⟩,
  ⟨none, some 6, .assign (.tmp 12)⟩]
def r20_8_w {E fr h Q} := @opsW_unf E fr h Q _ _ r20_8.eq_1
def s20_9 : GC := .seq (.ops r20_8) s20_7
def s20_9_w {E nt rd fr h Q} := @wp_unf E nt rd fr h Q _ _ s20_9.eq_1
def r20_10 : List GO := [⟨none, some 4, .assign (.const (.int .u64 0))⟩]
def r20_10_w {E fr h Q} := @opsW_unf E fr h Q _ _ r20_10.eq_1
def s20_11 : GC := .seq (.ops r20_10) s20_9
def s20_11_w {E nt rd fr h Q} := @wp_unf E nt rd fr h Q _ _ s20_11.eq_1
theorem c20 : Try.f20.body.bind (clean env 16) = some s20_11 := by kernel_rfl
theorem e20 : env.funs.get 20 = some Try.f20 := by kernel_rfl
theorem F20 {args : List Value} {h : Heap} {K : Value → Heap → Prop} (hl : args.length = 2) (w : s20_11.wp env 16 none (setAll args 0 .leaf) h (resK env [.tmp 4] K)) : Ret env (.func 20) args h K :=
  Ret.of_body' rfl e20 c20 rfl rfl (by rw [hl]; decide) w
/-! helmsman/num.Mul -/
def r39_0 : List GO := [⟨none, some 14, .move (.tmp 7)⟩,
  ⟨none, some 15, .move (.tmp 6)⟩,
  ⟨none, some 16, .binOp .eql 22 (.tmp 15) (.const (.int .u64 0)) 22⟩,
  ⟨none, some 17, .call ⟨.value (.func 40), ⟨[.tmp 14, .tmp 16, .const (.int .u64 0)]⟩, ⟨[22, 4, 22]⟩⟩⟩,
  ⟨none, some 18, .move (.tmp 6)⟩,
  ⟨none, some 19, .binOp .eql 22 (.tmp 18) (.const (.int .u64 0)) 22⟩,
  ⟨none, some 4, .assign (.tmp 17)⟩,
  ⟨none, some 5, .assign (.tmp 19)⟩]
def r39_0_w {E fr h Q} := @opsW_unf E fr h Q _ _ r39_0.eq_1
def s39_1 : GC := .seq (.ops r39_0) .ret
def s39_1_w {E nt rd fr h Q} := @wp_unf E nt rd fr h Q _ _ s39_1.eq_1
def r39_2 : List GO := [⟨none, some 9, .move (.tmp 0)⟩,
  ⟨none, some 10, .move (.tmp 1)⟩,
  ⟨none, some 11, .call ⟨.value (.func 66), ⟨[.tmp 9, .tmp 10]⟩, ⟨[22, 22]⟩⟩⟩,
  ⟨none, some 8, .move (.tmp 11)⟩,
  ⟨none, some 12, .extract (.tmp 8) 0⟩,
  ⟨none, some 13, .extract (.tmp 8) 1⟩,
  ⟨none, some 6, .assign (.tmp 12)⟩,
  ⟨none, some 7, .assign (.tmp 13)⟩]
def r39_2_w {E fr h Q} := @opsW_unf E fr h Q _ _ r39_2.eq_1
def s39_3 : GC := .seq (.ops r39_2) s39_1
def s39_3_w {E nt rd fr h Q} := @wp_unf E nt rd fr h Q _ _ s39_3.eq_1
def r39_4 : List GO := [⟨none, some 4, .assign (.const (.int .u64 0))⟩,
  ⟨none, some 5, .assign (.const (.bool false))⟩]
def r39_4_w {E fr h Q} := @opsW_unf E fr h Q _ _ r39_4.eq_1
def s39_5 : GC := .seq (.ops r39_4) s39_3
def s39_5_w {E nt rd fr h Q} := @wp_unf E nt rd fr h Q _ _ s39_5.eq_1
theorem c39 : Try.f39.body.bind (clean env 20) = some s39_5 := by kernel_rfl
theorem e39 : env.funs.get 39 = some Try.f39 := by kernel_rfl
theorem F39 {args : List Value} {h : Heap} {K : Value → Heap → Prop} (hl : args.length = 2) (w : s39_5.wp env 20 none (setAll args 0 .leaf) h (resK env [.tmp 4, .tmp 5] K)) : Ret env (.func 39) args h K :=
  Ret.of_body' rfl e39 c39 rfl rfl (by rw [hl]; decide) w
/-! helmsman/num.sat[uint64] -/
def r40_0 : List GO := [⟨none, some 9, .move (.tmp 2)⟩,
  ⟨none, some 6, .assign (.tmp 9)⟩]
def r40_0_w {E fr h Q} := @opsW_unf E fr h Q _ _ r40_0.eq_1
def s40_1 : GC := .seq (.ops r40_0) .ret
def s40_1_w {E nt rd fr h Q} := @wp_unf E nt rd fr h Q _ _ s40_1.eq_1
def r40_2 : List GO := [⟨none, some 8, .move (.tmp 0)⟩,
  ⟨none, some 6, .assign (.tmp 8)⟩]
def r40_2_w {E fr h Q} := @opsW_unf E fr h Q _ _ r40_2.eq_1
def s40_3 : GC := .seq (.ops r40_2) .ret
def s40_3_w {E nt rd fr h Q} := @wp_unf E nt rd fr h Q _ _ s40_3.eq_1
def s40_4 : GC := .cond (.tmp 7) s40_3 .skip
def s40_4_w {E nt rd fr h Q} := @wp_unf E nt rd fr h Q _ _ s40_4.eq_1
def r40_5 : List GO := [⟨none, some 7, .move (.tmp 1)⟩]
def r40_5_w {E fr h Q} := @opsW_unf E fr h Q _ _ r40_5.eq_1
def s40_6 : GC := .seq (.ops r40_5) s40_4
def s40_6_w {E nt rd fr h Q} := @wp_unf E nt rd fr h Q _ _ s40_6.eq_1
def s40_7 : GC := .seq (s40_6) s40_1
def s40_7_w {E nt rd fr h Q} := @wp_unf E nt rd fr h Q _ _ s40_7.eq_1
def r40_8 : List GO := [⟨none, some 6, .assign (.const (.int .u64 0))⟩]
def r40_8_w {E fr h Q} := @opsW_unf E fr h Q _ _ r40_8.eq_1
def s40_9 : GC := .seq (.ops r40_8) s40_7
def s40_9_w {E nt rd fr h Q} := @wp_unf E nt rd fr h Q _ _ s40_9.eq_1
theorem c40 : Try.f40.body.bind (clean env 10) = some s40_9 := by kernel_rfl
theorem e40 : env.funs.get 40 = some Try.f40 := by kernel_rfl
theorem F40 {args : List Value} {h : Heap} {K : Value → Heap → Prop} (hl : args.length = 3) (w : s40_9.wp env 10 none (setAll args 0 .leaf) h (resK env [.tmp 6] K)) : Ret env (.func 40) args h K :=
  Ret.of_body' rfl e40 c40 rfl rfl (by rw [hl]; decide) w
/-! helmsman/num.Add -/
def r41_0 : List GO := [⟨none, some 14, .move (.tmp 6)⟩,
  ⟨none, some 15, .move (.tmp 7)⟩,
  ⟨none, some 16, .binOp .eql 22 (.tmp 15) (.const (.int .u64 0)) 22⟩,
  ⟨none, some 17, .call ⟨.value (.func 40), ⟨[.tmp 14, .tmp 16, .const (.int .u64 0)]⟩, ⟨[22, 4, 22]⟩⟩⟩,
  ⟨none, some 18, .move (.tmp 7)⟩,
  ⟨none, some 19, .binOp .eql 22 (.tmp 18) (.const (.int .u64 0)) 22⟩,
  ⟨none, some 4, .assign (.tmp 17)⟩,
  ⟨none, some 5, .assign (.tmp 19)⟩]
def r41_0_w {E fr h Q} := @opsW_unf E fr h Q _ _ r41_0.eq_1
def s41_1 : GC := .seq (.ops r41_0) .ret
def s41_1_w {E nt rd fr h Q} := @wp_unf E nt rd fr h Q _ _ s41_1.eq_1
def r41_2 : List GO := [⟨none, some 9, .move (.tmp 0)⟩,
  ⟨none, some 10, .move (.tmp 1)⟩,
  ⟨none, some 11, .call ⟨.value (.func 67), ⟨[.tmp 9, .tmp 10, .const (.int .u64 0)]⟩, ⟨[22, 22, 22]⟩⟩⟩,
  ⟨none, some 8, .move (.tmp 11)⟩,
  ⟨none, some 12, .extract (.tmp 8) 0⟩,
  ⟨none, some 13, .extract (.tmp 8) 1⟩,
  ⟨none, some 6, .assign (.tmp 12)⟩,
  ⟨none, some 7, .assign (.tmp 13)⟩]
def r41_2_w {E fr h Q} := @opsW_unf E fr h Q _ _ r41_2.eq_1
def s41_3 : GC := .seq (.ops r41_2) s41_1
def s41_3_w {E nt rd fr h Q} := @wp_unf E nt rd fr h Q _ _ s41_3.eq_1
def r41_4 : List GO := [⟨none, some 4, .assign (.const (.int .u64 0))⟩,
  ⟨none, some 5, .assign (.const (.bool false))⟩]
def r41_4_w {E fr h Q} := @opsW_unf E fr h Q _ _ r41_4.eq_1
def s41_5 : GC := .seq (.ops r41_4) s41_3
def s41_5_w {E nt rd fr h Q} := @wp_unf E nt rd fr h Q _ _ s41_5.eq_1
theorem c41 : Try.f41.body.bind (clean env 20) = some s41_5 := by kernel_rfl
theorem e41 : env.funs.get 41 = some Try.f41 := by kernel_rfl
theorem F41 {args : List Value} {h : Heap} {K : Value → Heap → Prop} (hl : args.length = 2) (w : s41_5.wp env 20 none (setAll args 0 .leaf) h (resK env [.tmp 4, .tmp 5] K)) : Ret env (.func 41) args h K :=
  Ret.of_body' rfl e41 c41 rfl rfl (by rw [hl]; decide) w
/-! helmsman/helmsmanref01.Mul -/
def r42_0 : List GO := [⟨none, some 14, .move (.tmp 0)⟩,
  ⟨none, some 15, .move (.tmp 1)⟩,
  ⟨none, some 16, .binOp .mul 22 (.tmp 14) (.tmp 15) 22⟩,
  ⟨none, some 4, .assign (.tmp 16)⟩,
  ⟨none, some 5, .assign (.const (.bool true))⟩]
def r42_0_w {E fr h Q} := @opsW_unf E fr h Q _ _ r42_0.eq_1
def s42_1 : GC := .seq (.ops r42_0) .ret
def s42_1_w {E nt rd fr h Q} := @wp_unf E nt rd fr h Q _ _ s42_1.eq_1
def r42_2 : List GO := [⟨none, some 4, .assign (.const (.int .u64 0))⟩,
  ⟨none, some 5, .assign (.const (.bool false))⟩]
def r42_2_w {E fr h Q} := @opsW_unf E fr h Q _ _ r42_2.eq_1
def s42_3 : GC := .seq (.ops r42_2) .ret
def s42_3_w {E nt rd fr h Q} := @wp_unf E nt rd fr h Q _ _ s42_3.eq_1
def s42_4 : GC := .cond (.tmp 13) s42_3 .skip
def s42_4_w {E nt rd fr h Q} := @wp_unf E nt rd fr h Q _ _ s42_4.eq_1
def r42_5 : List GO := [⟨none, some 6, .move (.tmp 0)⟩,
  ⟨none, some 7, .binOp .neq 22 (.tmp 6) (.const (.int .u64 0)) 22⟩,
  ⟨none, some 8, .move (.tmp 7)⟩,
  ⟨some (8, true), some 9, .move (.tmp 1)⟩,
  ⟨some (8, true), some 10, .move (.tmp 0)⟩,
  ⟨some (8, true), some 11, .binOp .quo 22 (.const (.int .u64 18446744073709551615)) (.tmp 10) 22⟩,
  ⟨some (8, true), some 12, .binOp .gtr 22 (.tmp 9) (.tmp 11) 22⟩,
  ⟨none, some 13, .pick (.tmp 8) (.tmp 12) (.const (.bool false))⟩]
def r42_5_w {E fr h Q} := @opsW_unf E fr h Q _ _ r42_5.eq_1
def s42_6 : GC := .seq (.ops r42_5) s42_4
def s42_6_w {E nt rd fr h Q} := @wp_unf E nt rd fr h Q _ _ s42_6.eq_1
def s42_7 : GC := .seq (s42_6) s42_1
def s42_7_w {E nt rd fr h Q} := @wp_unf E nt rd fr h Q _ _ s42_7.eq_1
def r42_8 : List GO := [⟨none, some 4, .assign (.const (.int .u64 0))⟩,
  ⟨none, some 5, .assign (.const (.bool false))⟩]
def r42_8_w {E fr h Q} := @opsW_unf E fr h Q _ _ r42_8.eq_1
def s42_9 : GC := .seq (.ops r42_8) s42_7
def s42_9_w {E nt rd fr h Q} := @wp_unf E nt rd fr h Q _ _ s42_9.eq_1
theorem c42 : Try.f42.body.bind (clean env 17) = some s42_9 := by kernel_rfl
theorem e42 : env.funs.get 42 = some Try.f42 := by kernel_rfl
theorem F42 {args : List Value} {h : Heap} {K : Value → Heap → Prop} (hl : args.length = 2) (w : s42_9.wp env 17 none (setAll args 0 .leaf) h (resK env [.tmp 4, .tmp 5] K)) : Ret env (.func 42) args h K :=
  Ret.of_body' rfl e42 c42 rfl rfl (by rw [hl]; decide) w
/-! math/bits.Mul64 -/
def r66_0 : List GO := [⟨none, some 48, .move (.tmp 0)⟩,
  ⟨none, some 49, .move (.tmp 1)⟩,
  ⟨none, some 50, .binOp .mul 22 (.tmp 48) (.tmp 49) 22⟩,
  ⟨none, some 5, .assign (.tmp 50)⟩]
def r66_0_w {E fr h Q} := @opsW_unf E fr h Q _ _ r66_0.eq_1
def s66_1 : GC := .seq (.ops r66_0) .ret
def s66_1_w {E nt rd fr h Q} := @wp_unf E nt rd fr h Q _ _ s66_1.eq_1
def r66_2 : List GO := [⟨none, some 40, .move (.tmp 7)⟩,
  ⟨none, some 41, .move (.tmp 9)⟩,
  ⟨none, some 42, .binOp .mul 22 (.tmp 40) (.tmp 41) 22⟩,
  ⟨none, some 43, .move (.tmp 13)⟩,
  ⟨none, some 44, .binOp .add 22 (.tmp 42) (.tmp 43) 22⟩,
  ⟨none, some 45, .move (.tmp 12)⟩,
  ⟨none, some 46, .binOp .shr 22 (.tmp 45) (.const (.int .u64 32)) 181⟩,
  ⟨none, some 47, .binOp .add 22 (.tmp 44) (.tmp 46) 22⟩,
  ⟨none, some 4, .assign (.tmp 47)⟩]
def r66_2_w {E fr h Q} := @opsW_unf E fr h Q _ _ r66_2.eq_1
def s66_3 : GC := .seq (.ops r66_2) s66_1
def s66_3_w {E nt rd fr h Q} := @wp_unf E nt rd fr h Q _ _ s66_3.eq_1
def r66_4 : List GO := [⟨none, some 35, .move (.tmp 12)⟩,
  ⟨none, some 36, .move (.tmp 6)⟩,
  ⟨none, some 37, .move (.tmp 9)⟩,
  ⟨none, some 38, .binOp .mul 22 (.tmp 36) (.tmp 37) 22⟩,
  ⟨none, some 39, .binOp .add 22 (.tmp 35) (.tmp 38) 22⟩,
  ⟨none, some 12, .assign (.tmp 39)⟩]
def r66_4_w {E fr h Q} := @opsW_unf E fr h Q _ _ r66_4.eq_1
def s66_5 : GC := .seq (.ops r66_4) s66_3
def s66_5_w {E nt rd fr h Q} := @wp_unf E nt rd fr h Q _ _ s66_5.eq_1
def r66_6 : List GO := [⟨none, some 33, .move (.tmp 11)⟩,
  ⟨none, some 34, .binOp .shr 22 (.tmp 33) (.const (.int .u64 32)) 181⟩,
  ⟨none, some 13, .assign (.tmp 34)⟩]
def r66_6_w {E fr h Q} := @opsW_unf E fr h Q _ _ r66_6.eq_1
def s66_7 : GC := .seq (.ops r66_6) s66_5
def s66_7_w {E nt rd fr h Q} := @wp_unf E nt rd fr h Q _ _ s66_7.eq_1
def r66_8 : List GO := [⟨none, some 31, .move (.tmp 11)⟩,
  ⟨none, some 32, .binOp .and 22 (.tmp 31) (.const (.int .u64 4294967295)) 22⟩,
  ⟨none, some 12, .assign (.tmp 32)⟩]
def r66_8_w {E fr h Q} := @opsW_unf E fr h Q _ _ r66_8.eq_1
def s66_9 : GC := .seq (.ops r66_8) s66_7
def s66_9_w {E nt rd fr h Q} := @wp_unf E nt rd fr h Q _ _ s66_9.eq_1
def r66_10 : List GO := [⟨none, some 25, .move (.tmp 7)⟩,
  ⟨none, some 26, .move (.tmp 8)⟩,
  ⟨none, some 27, .binOp .mul 22 (.tmp 25) (.tmp 26) 22⟩,
  ⟨none, some 28, .move (.tmp 10)⟩,
  ⟨none, some 29, .binOp .shr 22 (.tmp 28) (.const (.int .u64 32)) 181⟩,
  ⟨none, some 30, .binOp .add 22 (.tmp 27) (.tmp 29) 22⟩,
  ⟨none, some 11, .assign (.tmp 30)⟩]
def r66_10_w {E fr h Q} := @opsW_unf E fr h Q _ _ r66_10.eq_1
def s66_11 : GC := .seq (.ops r66_10) s66_9
def s66_11_w {E nt rd fr h Q} := @wp_unf E nt rd fr h Q _ _ s66_11.eq_1
def r66_12 : List GO := [⟨none, some 22, .move (.tmp 6)⟩,
  ⟨none, some 23, .move (.tmp 8)⟩,
  ⟨none, some 24, .binOp .mul 22 (.tmp 22) (.tmp 23) 22⟩,
  ⟨none, some 10, .assign (.tmp 24)⟩]
def r66_12_w {E fr h Q} := @opsW_unf E fr h Q _ _ r66_12.eq_1
def s66_13 : GC := .seq (.ops r66_12) s66_11
def s66_13_w {E nt rd fr h Q} := @wp_unf E nt rd fr h Q _ _ s66_13.eq_1
def r66_14 : List GO := [⟨none, some 20, .move (.tmp 1)⟩,
  ⟨none, some 21, .binOp .shr 22 (.tmp 20) (.const (.int .u64 32)) 181⟩,
  ⟨none, some 9, .assign (.tmp 21)⟩]
def r66_14_w {E fr h Q} := @opsW_unf E fr h Q _ _ r66_14.eq_1
def s66_15 : GC := .seq (.ops r66_14) s66_13
def s66_15_w {E nt rd fr h Q} := @wp_unf E nt rd fr h Q _ _ s66_15.eq_1
def r66_16 : List GO := [⟨none, some 18, .move (.tmp 1)⟩,
  ⟨none, some 19, .binOp .and 22 (.tmp 18) (.const (.int .u64 4294967295)) 22⟩,
  ⟨none, some 8, .assign (.tmp 19)⟩]
def r66_16_w {E fr h Q} := @opsW_unf E fr h Q _ _ r66_16.eq_1
def s66_17 : GC := .seq (.ops r66_16) s66_15
def s66_17_w {E nt rd fr h Q} := @wp_unf E nt rd fr h Q _ _ s66_17.eq_1
def r66_18 : List GO := [⟨none, some 16, .move (.tmp 0)⟩,
  ⟨none, some 17, .binOp .shr 22 (.tmp 16) (.const (.int .u64 32)) 181⟩,
  ⟨none, some 7, .assign (.tmp 17)⟩]
def r66_18_w {E fr h Q} := @opsW_unf E fr h Q _ _ r66_18.eq_1
def s66_19 : GC := .seq (.ops r66_18) s66_17
def s66_19_w {E nt rd fr h Q} := @wp_unf E nt rd fr h Q _ _ s66_19.eq_1
def r66_20 : List GO := [⟨none, some 14, .move (.tmp 0)⟩,
  ⟨none, some 15, .binOp .and 22 (.tmp 14) (.const (.int .u64 4294967295)) 22⟩,
  ⟨none, some 6, .assign (.tmp 15)⟩]
def r66_20_w {E fr h Q} := @opsW_unf E fr h Q _ _ r66_20.eq_1
def s66_21 : GC := .seq (.ops r66_20) s66_19
def s66_21_w {E nt rd fr h Q} := @wp_unf E nt rd fr h Q _ _ s66_21.eq_1
def r66_22 : List GO := [⟨none, some 4, .assign (.const (.int .u64 0))⟩,
  ⟨none, some 5, .assign (.const (.int .u64 0))⟩]
def r66_22_w {E fr h Q} := @opsW_unf E fr h Q _ _ r66_22.eq_1
def s66_23 : GC := .seq (.ops r66_22) s66_21
def s66_23_w {E nt rd fr h Q} := @wp_unf E nt rd fr h Q _ _ s66_23.eq_1
theorem c66 : Try.f66.body.bind (clean env 51) = some s66_23 := by kernel_rfl
theorem e66 : env.funs.get 66 = some Try.f66 := by kernel_rfl
theorem F66 {args : List Value} {h : Heap} {K : Value → Heap → Prop} (hl : args.length = 2) (w : s66_23.wp env 51 none (setAll args 0 .leaf) h (resK env [.tmp 4, .tmp 5] K)) : Ret env (.func 66) args h K :=
  Ret.of_body' rfl e66 c66 rfl rfl (by rw [hl]; decide) w

end Go.Proofs.Ytdjnedamphifcaa

