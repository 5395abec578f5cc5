/- The code of New's first half, as plain Lean. Conditions, none. -/
import Derived.Test.YtdjnedamphifcaaVA
import Derived.KernelRfl
set_option linter.unusedSimpArgs false
set_option linter.unusedVariables false
namespace Go.Proofs.Ytdjnedamphifcaa
open Go.Ev
set_option maxRecDepth 100000
set_option linter.defProp false
/-! helmsman/helmsmanref20.New -/
def r16_0 : List GO := [⟨none, some 127, .move (.tmp 5)⟩,
  ⟨none, some 2, .assign (.tmp 127)⟩,
  ⟨none, some 3, .assign (.const (.int .i64 0))⟩]
def r16_0_w {E fr h Q} := @opsW_unf E fr h Q _ _ r16_0.eq_1
def s16_1 : GC := .seq (.ops r16_0) .ret
def s16_1_w {E nt rd fr h Q} := @wp_unf E nt rd fr h Q _ _ s16_1.eq_1
def p16_2 : List (GO × List GO) := [(⟨none, some 120, .move (.tmp 5)⟩, []),
  (⟨none, some 121, .nilCheck (.tmp 120)⟩, []),
  (⟨none, some 122, .fieldAddr 89 (.tmp 121) 5⟩, []),
  (⟨none, some 123, .load 85 (.tmp 122)⟩, []),
  (⟨none, some 124, .load 59 (.tmp 6)⟩, []),
  (⟨none, some 125, .build 112 ⟨[(0, .const (.int .i64 1)), (1, .tmp 124), (2, .const (.int .u8 255))]⟩⟩, []),
  (⟨none, some 126, .call ⟨.value (.func 38), ⟨[.tmp 123, .const (.int .i64 0), .const (.int .i64 0), .const (.int .i64 2), .tmp 125]⟩, ⟨[85, 3, 3, 3, 112]⟩⟩⟩, [])]
def p16_2_w {E fr h Q} := @planW_unf E fr h Q _ _ p16_2.eq_1
def s16_3 : GC := .seq (.plan p16_2) s16_1
def s16_3_w {E nt rd fr h Q} := @wp_unf E nt rd fr h Q _ _ s16_3.eq_1
def p16_4 : List (GO × List GO) := [(⟨none, some 113, .move (.tmp 5)⟩, []),
  (⟨none, some 114, .nilCheck (.tmp 113)⟩, []),
  (⟨none, some 115, .fieldAddr 89 (.tmp 114) 5⟩, []),
  (⟨none, some 116, .load 85 (.tmp 115)⟩, []),
  (⟨none, some 117, .load 59 (.tmp 6)⟩, []),
  (⟨none, some 118, .build 112 ⟨[(0, .const (.int .i64 2)), (1, .tmp 117), (2, .const (.int .u8 255))]⟩⟩, []),
  (⟨none, some 119, .call ⟨.value (.func 38), ⟨[.tmp 116, .const (.int .i64 0), .const (.int .i64 0), .const (.int .i64 1), .tmp 118]⟩, ⟨[85, 3, 3, 3, 112]⟩⟩⟩, [])]
def p16_4_w {E fr h Q} := @planW_unf E fr h Q _ _ p16_4.eq_1
def s16_5 : GC := .seq (.plan p16_4) s16_3
def s16_5_w {E nt rd fr h Q} := @wp_unf E nt rd fr h Q _ _ s16_5.eq_1
def p16_6 : List (GO × List GO) := [(⟨none, some 106, .move (.tmp 5)⟩, []),
  (⟨none, some 107, .nilCheck (.tmp 106)⟩, []),
  (⟨none, some 108, .fieldAddr 89 (.tmp 107) 5⟩, []),
  (⟨none, some 109, .load 85 (.tmp 108)⟩, []),
  (⟨none, some 110, .load 59 (.tmp 6)⟩, []),
  (⟨none, some 111, .build 112 ⟨[(0, .const (.int .i64 3)), (1, .tmp 110), (2, .const (.int .u8 255))]⟩⟩, []),
  (⟨none, some 112, .call ⟨.value (.func 38), ⟨[.tmp 109, .const (.int .i64 0), .const (.int .i64 0), .const (.int .i64 0), .tmp 111]⟩, ⟨[85, 3, 3, 3, 112]⟩⟩⟩, [])]
def p16_6_w {E fr h Q} := @planW_unf E fr h Q _ _ p16_6.eq_1
def s16_7 : GC := .seq (.plan p16_6) s16_5
def s16_7_w {E nt rd fr h Q} := @wp_unf E nt rd fr h Q _ _ s16_7.eq_1
def r16_8 : List GO := [⟨none, some 97, .move (.tmp 5)⟩,
  ⟨none, some 98, .nilCheck (.tmp 97)⟩,
  ⟨none, some 99, .fieldAddr 89 (.tmp 98) 6⟩,
  ⟨none, some 100, .load 86 (.tmp 99)⟩,
  ⟨none, some 101, .nilCheck (.tmp 100)⟩,
  ⟨none, some 102, .fieldAddr 106 (.tmp 101) 1⟩,
  ⟨none, some 103, .load 104 (.tmp 102)⟩,
  ⟨none, some 104, .buildSlice 38 1 ⟨[(0, .const (.int .i64 0))]⟩⟩,
  ⟨none, some 105, .call ⟨.value (.func 37), ⟨[.tmp 103, .tmp 104]⟩, ⟨[104, 38]⟩⟩⟩]
def r16_8_w {E fr h Q} := @opsW_unf E fr h Q _ _ r16_8.eq_1
def s16_9 : GC := .seq (.ops r16_8) s16_7
def s16_9_w {E nt rd fr h Q} := @wp_unf E nt rd fr h Q _ _ s16_9.eq_1
def p16_10 : List (GO × List GO) := [(⟨none, some 86, .move (.tmp 5)⟩, []),
  (⟨none, some 87, .nilCheck (.tmp 86)⟩, []),
  (⟨none, some 88, .fieldAddr 89 (.tmp 87) 2⟩, []),
  (⟨none, some 89, .load 82 (.tmp 88)⟩, []),
  (⟨none, some 90, .load 59 (.tmp 6)⟩, []),
  (⟨none, some 91, .load 59 (.tmp 6)⟩, []),
  (⟨none, some 92, .fieldAddr 25 (.tmp 1) 0⟩, []),
  (⟨none, some 93, .load 3 (.tmp 92)⟩, []),
  (⟨none, some 94, .call ⟨.value (.func 36), ⟨[.tmp 93]⟩, ⟨[3]⟩⟩⟩, [⟨none, some 89, .load 82 (.tmp 88)⟩, ⟨none, some 90, .load 59 (.tmp 6)⟩, ⟨none, some 91, .load 59 (.tmp 6)⟩]),
  (⟨none, some 95, .build 64 ⟨[(0, .const (.int .i64 1)), (2, .tmp 90), (3, .tmp 91), (4, .tmp 94)]⟩⟩, []),
  (⟨none, some 96, .call ⟨.value (.func 35), ⟨[.tmp 89, .tmp 95]⟩, ⟨[82, 64]⟩⟩⟩, [])]
def p16_10_w {E fr h Q} := @planW_unf E fr h Q _ _ p16_10.eq_1
def s16_11 : GC := .seq (.plan p16_10) s16_9
def s16_11_w {E nt rd fr h Q} := @wp_unf E nt rd fr h Q _ _ s16_11.eq_1
def p16_12 : List (GO × List GO) := [(⟨none, some 80, .move (.tmp 5)⟩, []),
  (⟨none, some 81, .nilCheck (.tmp 80)⟩, []),
  (⟨none, some 82, .fieldAddr 89 (.tmp 81) 3⟩, []),
  (⟨none, some 83, .load 83 (.tmp 82)⟩, []),
  (⟨none, some 84, .load 59 (.tmp 6)⟩, []),
  (⟨none, some 85, .call ⟨.value (.func 34), ⟨[.tmp 83, .tmp 84, .const (.int .i64 1)]⟩, ⟨[83, 59, 3]⟩⟩⟩, [])]
def p16_12_w {E fr h Q} := @planW_unf E fr h Q _ _ p16_12.eq_1
def s16_13 : GC := .seq (.plan p16_12) s16_11
def s16_13_w {E nt rd fr h Q} := @wp_unf E nt rd fr h Q _ _ s16_13.eq_1
def p16_14 : List (GO × List GO) := [(⟨none, some 74, .move (.tmp 5)⟩, []),
  (⟨none, some 75, .nilCheck (.tmp 74)⟩, []),
  (⟨none, some 76, .fieldAddr 89 (.tmp 75) 4⟩, []),
  (⟨none, some 77, .load 84 (.tmp 76)⟩, []),
  (⟨none, some 78, .load 59 (.tmp 6)⟩, []),
  (⟨none, some 79, .call ⟨.value (.func 33), ⟨[.tmp 77, .tmp 78]⟩, ⟨[84, 59]⟩⟩⟩, [])]
def p16_14_w {E fr h Q} := @planW_unf E fr h Q _ _ p16_14.eq_1
def s16_15 : GC := .seq (.plan p16_14) s16_13
def s16_15_w {E nt rd fr h Q} := @wp_unf E nt rd fr h Q _ _ s16_15.eq_1
def p16_16 : List (GO × List GO) := [(⟨none, some 65, .move (.tmp 5)⟩, []),
  (⟨none, some 66, .nilCheck (.tmp 65)⟩, []),
  (⟨none, some 67, .fieldAddr 89 (.tmp 66) 3⟩, []),
  (⟨none, some 68, .load 83 (.tmp 67)⟩, []),
  (⟨none, some 69, .fieldAddr 25 (.tmp 1) 12⟩, []),
  (⟨none, some 70, .load 22 (.tmp 69)⟩, []),
  (⟨none, some 71, .fieldAddr 25 (.tmp 1) 13⟩, []),
  (⟨none, some 72, .load 22 (.tmp 71)⟩, []),
  (⟨none, some 73, .call ⟨.value (.func 32), ⟨[.tmp 68, .tmp 70, .tmp 72, .const (.int .u64 0)]⟩, ⟨[83, 22, 22, 22]⟩⟩⟩, [])]
def p16_16_w {E fr h Q} := @planW_unf E fr h Q _ _ p16_16.eq_1
def s16_17 : GC := .seq (.plan p16_16) s16_15
def s16_17_w {E nt rd fr h Q} := @wp_unf E nt rd fr h Q _ _ s16_17.eq_1
def r16_18 : List GO := [⟨none, some 64, .build 59 ⟨[(0, .const (.int .i64 0)), (1, .const (.int .u64 1))]⟩⟩,
  ⟨none, some 6, .alloc 59⟩,
  ⟨none, none, .store 59 (.tmp 6) (.tmp 64)⟩]
def r16_18_w {E fr h Q} := @opsW_unf E fr h Q _ _ r16_18.eq_1
def s16_19 : GC := .seq (.ops r16_18) s16_17
def s16_19_w {E nt rd fr h Q} := @wp_unf E nt rd fr h Q _ _ s16_19.eq_1
def r16_20 : List GO := [⟨none, some 59, .move (.tmp 5)⟩,
  ⟨none, some 60, .build 96 ⟨[]⟩⟩,
  ⟨none, some 61, .box 96 (.tmp 60)⟩,
  ⟨none, some 62, .nilCheck (.tmp 59)⟩,
  ⟨none, some 63, .fieldAddr 89 (.tmp 62) 7⟩,
  ⟨none, none, .store 87 (.tmp 63) (.tmp 61)⟩]
def r16_20_w {E fr h Q} := @opsW_unf E fr h Q _ _ r16_20.eq_1
def s16_21 : GC := .seq (.ops r16_20) s16_19
def s16_21_w {E nt rd fr h Q} := @wp_unf E nt rd fr h Q _ _ s16_21.eq_1
def r16_22 : List GO := [⟨none, some 51, .move (.tmp 5)⟩,
  ⟨none, some 52, .fieldAddr 25 (.tmp 1) 0⟩,
  ⟨none, some 53, .load 3 (.tmp 52)⟩,
  ⟨none, some 54, .fieldAddr 25 (.tmp 1) 1⟩,
  ⟨none, some 55, .load 3 (.tmp 54)⟩,
  ⟨none, some 56, .call ⟨.value (.func 31), ⟨[.tmp 53, .tmp 55]⟩, ⟨[3, 3]⟩⟩⟩,
  ⟨none, some 57, .nilCheck (.tmp 51)⟩,
  ⟨none, some 58, .fieldAddr 89 (.tmp 57) 6⟩,
  ⟨none, none, .store 86 (.tmp 58) (.tmp 56)⟩]
def r16_22_w {E fr h Q} := @opsW_unf E fr h Q _ _ r16_22.eq_1
def s16_23 : GC := .seq (.ops r16_22) s16_21
def s16_23_w {E nt rd fr h Q} := @wp_unf E nt rd fr h Q _ _ s16_23.eq_1
def r16_24 : List GO := [⟨none, some 41, .move (.tmp 5)⟩,
  ⟨none, some 42, .fieldAddr 25 (.tmp 1) 2⟩,
  ⟨none, some 43, .load 3 (.tmp 42)⟩,
  ⟨none, some 44, .fieldAddr 25 (.tmp 1) 6⟩,
  ⟨none, some 45, .load 3 (.tmp 44)⟩,
  ⟨none, some 46, .fieldAddr 25 (.tmp 1) 5⟩,
  ⟨none, some 47, .load 3 (.tmp 46)⟩,
  ⟨none, some 48, .call ⟨.value (.func 30), ⟨[.tmp 43, .tmp 45, .tmp 47]⟩, ⟨[3, 3, 3]⟩⟩⟩,
  ⟨none, some 49, .nilCheck (.tmp 41)⟩,
  ⟨none, some 50, .fieldAddr 89 (.tmp 49) 5⟩,
  ⟨none, none, .store 85 (.tmp 50) (.tmp 48)⟩]
def r16_24_w {E fr h Q} := @opsW_unf E fr h Q _ _ r16_24.eq_1
def s16_25 : GC := .seq (.ops r16_24) s16_23
def s16_25_w {E nt rd fr h Q} := @wp_unf E nt rd fr h Q _ _ s16_25.eq_1
def r16_26 : List GO := [⟨none, some 29, .move (.tmp 5)⟩,
  ⟨none, some 30, .fieldAddr 25 (.tmp 1) 4⟩,
  ⟨none, some 31, .load 3 (.tmp 30)⟩,
  ⟨none, some 32, .fieldAddr 25 (.tmp 1) 2⟩,
  ⟨none, some 33, .load 3 (.tmp 32)⟩,
  ⟨none, some 34, .fieldAddr 25 (.tmp 1) 10⟩,
  ⟨none, some 35, .load 22 (.tmp 34)⟩,
  ⟨none, some 36, .fieldAddr 25 (.tmp 1) 11⟩,
  ⟨none, some 37, .load 22 (.tmp 36)⟩,
  ⟨none, some 38, .call ⟨.value (.func 29), ⟨[.tmp 31, .tmp 33, .tmp 35, .tmp 37]⟩, ⟨[3, 3, 22, 22]⟩⟩⟩,
  ⟨none, some 39, .nilCheck (.tmp 29)⟩,
  ⟨none, some 40, .fieldAddr 89 (.tmp 39) 4⟩,
  ⟨none, none, .store 84 (.tmp 40) (.tmp 38)⟩]
def r16_26_w {E fr h Q} := @opsW_unf E fr h Q _ _ r16_26.eq_1
def s16_27 : GC := .seq (.ops r16_26) s16_25
def s16_27_w {E nt rd fr h Q} := @wp_unf E nt rd fr h Q _ _ s16_27.eq_1
def r16_28 : List GO := [⟨none, some 21, .move (.tmp 5)⟩,
  ⟨none, some 22, .fieldAddr 25 (.tmp 1) 3⟩,
  ⟨none, some 23, .load 3 (.tmp 22)⟩,
  ⟨none, some 24, .fieldAddr 25 (.tmp 1) 7⟩,
  ⟨none, some 25, .load 3 (.tmp 24)⟩,
  ⟨none, some 26, .call ⟨.value (.func 28), ⟨[.tmp 23, .tmp 25]⟩, ⟨[3, 3]⟩⟩⟩,
  ⟨none, some 27, .nilCheck (.tmp 21)⟩,
  ⟨none, some 28, .fieldAddr 89 (.tmp 27) 3⟩,
  ⟨none, none, .store 83 (.tmp 28) (.tmp 26)⟩]
def r16_28_w {E fr h Q} := @opsW_unf E fr h Q _ _ r16_28.eq_1
def s16_29 : GC := .seq (.ops r16_28) s16_27
def s16_29_w {E nt rd fr h Q} := @wp_unf E nt rd fr h Q _ _ s16_29.eq_1
def r16_30 : List GO := [⟨none, some 15, .move (.tmp 5)⟩,
  ⟨none, some 16, .fieldAddr 25 (.tmp 1) 2⟩,
  ⟨none, some 17, .load 3 (.tmp 16)⟩,
  ⟨none, some 18, .call ⟨.value (.func 27), ⟨[.tmp 17]⟩, ⟨[3]⟩⟩⟩,
  ⟨none, some 19, .nilCheck (.tmp 15)⟩,
  ⟨none, some 20, .fieldAddr 89 (.tmp 19) 2⟩,
  ⟨none, none, .store 82 (.tmp 20) (.tmp 18)⟩]
def r16_30_w {E fr h Q} := @opsW_unf E fr h Q _ _ r16_30.eq_1
def s16_31 : GC := .seq (.ops r16_30) s16_29
def s16_31_w {E nt rd fr h Q} := @wp_unf E nt rd fr h Q _ _ s16_31.eq_1
def r16_32 : List GO := [⟨none, some 12, .load 25 (.tmp 1)⟩,
  ⟨none, some 13, .build 89 ⟨[(0, .tmp 12)]⟩⟩,
  ⟨none, some 14, .box 89 (.tmp 13)⟩,
  ⟨none, some 5, .assign (.tmp 14)⟩]
def r16_32_w {E fr h Q} := @opsW_unf E fr h Q _ _ r16_32.eq_1
def s16_33 : GC := .seq (.ops r16_32) s16_31
def s16_33_w {E nt rd fr h Q} := @wp_unf E nt rd fr h Q _ _ s16_33.eq_1
def r16_34 : List GO := [⟨none, some 11, .move (.tmp 4)⟩,
  ⟨none, some 2, .assign (.const (.pointer none))⟩,
  ⟨none, some 3, .assign (.tmp 11)⟩]
def r16_34_w {E fr h Q} := @opsW_unf E fr h Q _ _ r16_34.eq_1
def s16_35 : GC := .seq (.ops r16_34) .ret
def s16_35_w {E nt rd fr h Q} := @wp_unf E nt rd fr h Q _ _ s16_35.eq_1
def s16_36 : GC := .cond (.tmp 10) s16_35 .skip
def s16_36_w {E nt rd fr h Q} := @wp_unf E nt rd fr h Q _ _ s16_36.eq_1
def r16_37 : List GO := [⟨none, some 9, .move (.tmp 4)⟩,
  ⟨none, some 10, .binOp .neq 3 (.tmp 9) (.const (.int .i64 0)) 3⟩]
def r16_37_w {E fr h Q} := @opsW_unf E fr h Q _ _ r16_37.eq_1
def s16_38 : GC := .seq (.ops r16_37) s16_36
def s16_38_w {E nt rd fr h Q} := @wp_unf E nt rd fr h Q _ _ s16_38.eq_1
def r16_39 : List GO := [⟨none, some 7, .load 25 (.tmp 1)⟩,
  ⟨none, some 8, .call ⟨.value (.func 26), ⟨[.tmp 7]⟩, ⟨[25]⟩⟩⟩,
  ⟨none, some 4, .assign (.tmp 8)⟩]
def r16_39_w {E fr h Q} := @opsW_unf E fr h Q _ _ r16_39.eq_1
def s16_40 : GC := .seq (.ops r16_39) s16_38
def s16_40_w {E nt rd fr h Q} := @wp_unf E nt rd fr h Q _ _ s16_40.eq_1
def s16_41 : GC := .seq (s16_40) s16_33
def s16_41_w {E nt rd fr h Q} := @wp_unf E nt rd fr h Q _ _ s16_41.eq_1
def r16_42 : List GO := [⟨none, some 1, .box 25 (.tmp 0)⟩,
  ⟨none, some 2, .assign (.const (.pointer none))⟩,
  ⟨none, some 3, .assign (.const (.int .i64 0))⟩]
def r16_42_w {E fr h Q} := @opsW_unf E fr h Q _ _ r16_42.eq_1
def s16_43 : GC := .seq (.ops r16_42) s16_41
def s16_43_w {E nt rd fr h Q} := @wp_unf E nt rd fr h Q _ _ s16_43.eq_1
theorem c16 : Try.f16.body.bind (clean env 128) = some s16_43 := by kernel_rfl
theorem e16 : env.funs.get 16 = some Try.f16 := by kernel_rfl
theorem F16 {args : List Value} {h : Heap} {K : Value → Heap → Prop} (hl : args.length = 1) (w : s16_43.wp env 128 none (setAll args 0 .leaf) h (resK env [.tmp 2, .tmp 3] K)) : Ret env (.func 16) args h K :=
  Ret.of_body' rfl e16 c16 rfl rfl (by rw [hl]; decide) w
/-! helmsman/helmsmanref18.May -/
def r26_0 : List GO := [⟨none, some 2, .assign (.const (.int .i64 17))⟩]
def r26_0_w {E fr h Q} := @opsW_unf E fr h Q _ _ r26_0.eq_1
def s26_1 : GC := .seq (.ops r26_0) .ret
def s26_1_w {E nt rd fr h Q} := @wp_unf E nt rd fr h Q _ _ s26_1.eq_1
def r26_2 : List GO := [⟨none, some 2, .assign (.const (.int .i64 2))⟩]
def r26_2_w {E fr h Q} := @opsW_unf E fr h Q _ _ r26_2.eq_1
def s26_3 : GC := .seq (.ops r26_2) .ret
def s26_3_w {E nt rd fr h Q} := @wp_unf E nt rd fr h Q _ _ s26_3.eq_1
def s26_4 : GC := .cond (.tmp 13) s26_3 .skip
def s26_4_w {E nt rd fr h Q} := @wp_unf E nt rd fr h Q _ _ s26_4.eq_1
def r26_5 : List GO := [⟨none, some 12, .move (.tmp 4)⟩,
  ⟨none, some 13, .binOp .lss 3 (.tmp 12) (.const (.int .i64 0)) 3⟩]
def r26_5_w {E fr h Q} := @opsW_unf E fr h Q _ _ r26_5.eq_1
def s26_6 : GC := .seq (.ops r26_5) s26_4
def s26_6_w {E nt rd fr h Q} := @wp_unf E nt rd fr h Q _ _ s26_6.eq_1
def s26_7 : GC := .seq (s26_6) s26_1
def s26_7_w {E nt rd fr h Q} := @wp_unf E nt rd fr h Q _ _ s26_7.eq_1
def r26_8 : List GO := [⟨none, some 2, .assign (.const (.int .i64 0))⟩]
def r26_8_w {E fr h Q} := @opsW_unf E fr h Q _ _ r26_8.eq_1
def s26_9 : GC := .seq (.ops r26_8) .ret
def s26_9_w {E nt rd fr h Q} := @wp_unf E nt rd fr h Q _ _ s26_9.eq_1
def s26_10 : GC := .cond (.tmp 11) s26_9 .skip
def s26_10_w {E nt rd fr h Q} := @wp_unf E nt rd fr h Q _ _ s26_10.eq_1
def r26_11 : List GO := [⟨none, some 10, .move (.tmp 3)⟩,
  ⟨none, some 11, .binOp .eql 9 (.tmp 10) (.const (.string ⟨⟨[]⟩⟩)) 9⟩]
def r26_11_w {E fr h Q} := @opsW_unf E fr h Q _ _ r26_11.eq_1
def s26_12 : GC := .seq (.ops r26_11) s26_10
def s26_12_w {E nt rd fr h Q} := @wp_unf E nt rd fr h Q _ _ s26_12.eq_1
def s26_13 : GC := .seq (s26_12) s26_7
def s26_13_w {E nt rd fr h Q} := @wp_unf E nt rd fr h Q _ _ s26_13.eq_1
def r26_14 : List GO := [⟨none, some 6, .load 25 (.tmp 1)⟩,
  ⟨none, some 7, .call ⟨.value (.func 54), ⟨[.tmp 6]⟩, ⟨[25]⟩⟩⟩,
  ⟨none, some 5, .move (.tmp 7)⟩,
  ⟨none, some 8, .extract (.tmp 5) 0⟩,
  ⟨none, some 9, .extract (.tmp 5) 1⟩,
  ⟨none, some 3, .assign (.tmp 8)⟩,
  ⟨none, some 4, .assign (.tmp 9)⟩]
def r26_14_w {E fr h Q} := @opsW_unf E fr h Q _ _ r26_14.eq_1
def s26_15 : GC := .seq (.ops r26_14) s26_13
def s26_15_w {E nt rd fr h Q} := @wp_unf E nt rd fr h Q _ _ s26_15.eq_1
def r26_16 : List GO := [⟨none, some 1, .box 25 (.tmp 0)⟩,
  ⟨none, some 2, .assign (.const (.int .i64 0))⟩]
def r26_16_w {E fr h Q} := @opsW_unf E fr h Q _ _ r26_16.eq_1
def s26_17 : GC := .seq (.ops r26_16) s26_15
def s26_17_w {E nt rd fr h Q} := @wp_unf E nt rd fr h Q _ _ s26_17.eq_1
theorem c26 : Try.f26.body.bind (clean env 14) = some s26_17 := by kernel_rfl
theorem e26 : env.funs.get 26 = some Try.f26 := by kernel_rfl
theorem F26 {args : List Value} {h : Heap} {K : Value → Heap → Prop} (hl : args.length = 1) (w : s26_17.wp env 14 none (setAll args 0 .leaf) h (resK env [.tmp 2] K)) : Ret env (.func 26) args h K :=
  Ret.of_body' rfl e26 c26 rfl rfl (by rw [hl]; decide) w
/-! helmsman/helmsmanref16.New -/
def r27_0 : List GO := [⟨none, some 35, .move (.tmp 3)⟩,
  ⟨none, some 2, .assign (.tmp 35)⟩]
def r27_0_w {E fr h Q} := @opsW_unf E fr h Q _ _ r27_0.eq_1
def s27_1 : GC := .seq (.ops r27_0) .ret
def s27_1_w {E nt rd fr h Q} := @wp_unf E nt rd fr h Q _ _ s27_1.eq_1
def r27_2 : List GO := [⟨none, some 10, .move (.tmp 4)⟩,
  ⟨none, some 11, .binOp .add 3 (.tmp 10) (.const (.int .i64 1)) 3⟩,
  ⟨none, some 4, .assign (.tmp 11)⟩]
def r27_2_w {E fr h Q} := @opsW_unf E fr h Q _ _ r27_2.eq_1
def s27_3 : GC := .ops r27_2
def s27_3_w {E nt rd fr h Q} := @wp_unf E nt rd fr h Q _ _ s27_3.eq_1
def r27_4 : List GO := [⟨none, some 22, .move (.tmp 3)⟩,
  ⟨none, some 23, .move (.tmp 3)⟩,
  ⟨none, some 24, .nilCheck (.tmp 23)⟩,
  ⟨none, some 25, .fieldAddr 129 (.tmp 24) 1⟩,
  ⟨none, some 26, .load 38 (.tmp 25)⟩,
  ⟨none, some 27, .move (.tmp 0)⟩,
  ⟨none, some 28, .binOp .sub 3 (.tmp 27) (.const (.int .i64 1)) 3⟩,
  ⟨none, some 29, .move (.tmp 4)⟩,
  ⟨none, some 30, .binOp .sub 3 (.tmp 28) (.tmp 29) 3⟩,
  ⟨none, some 31, .buildSlice 38 1 ⟨[(0, .tmp 30)]⟩⟩,
  ⟨none, some 32, .call ⟨.builtin .append, ⟨[.tmp 26, .tmp 31]⟩, ⟨[38, 38]⟩⟩⟩,
  ⟨none, some 33, .nilCheck (.tmp 22)⟩,
  ⟨none, some 34, .fieldAddr 129 (.tmp 33) 1⟩,
  ⟨none, none, .store 38 (.tmp 34) (.tmp 32)⟩]
def r27_4_w {E fr h Q} := @opsW_unf E fr h Q _ _ r27_4.eq_1
def s27_5 : GC := .ops r27_4
def s27_5_w {E nt rd fr h Q} := @wp_unf E nt rd fr h Q _ _ s27_5.eq_1
def r27_6 : List GO := [⟨none, some 12, .move (.tmp 3)⟩,
  ⟨none, some 13, .move (.tmp 3)⟩,
  ⟨none, some 14, .nilCheck (.tmp 13)⟩,
  ⟨none, some 15, .fieldAddr 129 (.tmp 14) 0⟩,
  ⟨none, some 16, .load 127 (.tmp 15)⟩,
  ⟨none, some 17, .build 131 ⟨[(0, .const (.int .u64 1))]⟩⟩,
  ⟨none, some 18, .buildSlice 127 1 ⟨[(0, .tmp 17)]⟩⟩,
  ⟨none, some 19, .call ⟨.builtin .append, ⟨[.tmp 16, .tmp 18]⟩, ⟨[127, 127]⟩⟩⟩,
  ⟨none, some 20, .nilCheck (.tmp 12)⟩,
  ⟨none, some 21, .fieldAddr 129 (.tmp 20) 0⟩,
  ⟨none, none, .store 127 (.tmp 21) (.tmp 19)⟩]
def r27_6_w {E fr h Q} := @opsW_unf E fr h Q _ _ r27_6.eq_1
def s27_7 : GC := .seq (.ops r27_6) s27_5
def s27_7_w {E nt rd fr h Q} := @wp_unf E nt rd fr h Q _ _ s27_7.eq_1
def s27_8 : GC := .seq (.block 1 s27_7) s27_3
def s27_8_w {E nt rd fr h Q} := @wp_unf E nt rd fr h Q _ _ s27_8.eq_1
def s27_9 : GC := .cond (.tmp 9) .skip (.exit 0)
def s27_9_w {E nt rd fr h Q} := @wp_unf E nt rd fr h Q _ _ s27_9.eq_1
def r27_10 : List GO := [⟨none, some 7, .move (.tmp 4)⟩,
  ⟨none, some 8, .move (.tmp 0)⟩,
  ⟨none, some 9, .binOp .lss 3 (.tmp 7) (.tmp 8) 3⟩]
def r27_10_w {E fr h Q} := @opsW_unf E fr h Q _ _ r27_10.eq_1
def s27_11 : GC := .seq (.ops r27_10) s27_9
def s27_11_w {E nt rd fr h Q} := @wp_unf E nt rd fr h Q _ _ s27_11.eq_1
def s27_12 : GC := .seq (s27_11) s27_8
def s27_12_w {E nt rd fr h Q} := @wp_unf E nt rd fr h Q _ _ s27_12.eq_1
def s27_13 : GC := .loop s27_12
def s27_13_w {E nt rd fr h Q} := @wp_unf E nt rd fr h Q _ _ s27_13.eq_1
def s27_14 : GC := .block 0 s27_13
def s27_14_w {E nt rd fr h Q} := @wp_unf E nt rd fr h Q _ _ s27_14.eq_1
def r27_15 : List GO := [⟨none, some 4, .assign (.const (.int .i64 0))⟩]
def r27_15_w {E fr h Q} := @opsW_unf E fr h Q _ _ r27_15.eq_1
def s27_16 : GC := .seq (.ops r27_15) s27_14
def s27_16_w {E nt rd fr h Q} := @wp_unf E nt rd fr h Q _ _ s27_16.eq_1
def s27_17 : GC := .seq (s27_16) s27_1
def s27_17_w {E nt rd fr h Q} := @wp_unf E nt rd fr h Q _ _ s27_17.eq_1
def r27_18 : List GO := [⟨none, some 5, .build 129 ⟨[]⟩⟩,
  ⟨none, some 6, .box 129 (.tmp 5)⟩,
  ⟨none, some 3, .assign (.tmp 6)⟩]
def r27_18_w {E fr h Q} := @opsW_unf E fr h Q _ _ r27_18.eq_1
def s27_19 : GC := .seq (.ops r27_18) s27_17
def s27_19_w {E nt rd fr h Q} := @wp_unf E nt rd fr h Q _ _ s27_19.eq_1
def r27_20 : List GO := [⟨none, some 2, .assign (.const (.pointer none))⟩]
def r27_20_w {E fr h Q} := @opsW_unf E fr h Q _ _ r27_20.eq_1
def s27_21 : GC := .seq (.ops r27_20) s27_19
def s27_21_w {E nt rd fr h Q} := @wp_unf E nt rd fr h Q _ _ s27_21.eq_1
theorem c27 : Try.f27.body.bind (clean env 36) = some s27_21 := by kernel_rfl
theorem e27 : env.funs.get 27 = some Try.f27 := by kernel_rfl
theorem F27 {args : List Value} {h : Heap} {K : Value → Heap → Prop} (hl : args.length = 1) (w : s27_21.wp env 36 none (setAll args 0 .leaf) h (resK env [.tmp 2] K)) : Ret env (.func 27) args h K :=
  Ret.of_body' rfl e27 c27 rfl rfl (by rw [hl]; decide) w
/-! helmsman/helmsmanref08.New -/
def r28_0 : List GO := [⟨none, some 27, .move (.tmp 5)⟩,
  ⟨none, some 4, .assign (.tmp 27)⟩]
def r28_0_w {E fr h Q} := @opsW_unf E fr h Q _ _ r28_0.eq_1
def s28_1 : GC := .seq (.ops r28_0) .ret
def s28_1_w {E nt rd fr h Q} := @wp_unf E nt rd fr h Q _ _ s28_1.eq_1
def r28_2 : List GO := [⟨none, some 13, .move (.tmp 6)⟩,
  ⟨none, some 14, .binOp .add 3 (.tmp 13) (.const (.int .i64 1)) 3⟩,
  ⟨none, some 6, .assign (.tmp 14)⟩]
def r28_2_w {E fr h Q} := @opsW_unf E fr h Q _ _ r28_2.eq_1
def s28_3 : GC := .ops r28_2
def s28_3_w {E nt rd fr h Q} := @wp_unf E nt rd fr h Q _ _ s28_3.eq_1
def r28_4 : List GO := [⟨none, some 15, .move (.tmp 5)⟩,
  ⟨none, some 16, .move (.tmp 5)⟩,
  ⟨none, some 17, .nilCheck (.tmp 16)⟩,
  ⟨none, some 18, .fieldAddr 134 (.tmp 17) 0⟩,
  ⟨none, some 19, .load 132 (.tmp 18)⟩,
  ⟨none, some 20, .move (.tmp 6)⟩,
  ⟨none, some 21, .binOp .sub 3 (.const (.int .i64 (-1))) (.tmp 20) 3⟩,
  ⟨none, some 22, .build 139 ⟨[(0, .const (.int .u64 1)), (3, .tmp 21)]⟩⟩,
  ⟨none, some 23, .buildSlice 132 1 ⟨[(0, .tmp 22)]⟩⟩,
  ⟨none, some 24, .call ⟨.builtin .append, ⟨[.tmp 19, .tmp 23]⟩, ⟨[132, 132]⟩⟩⟩,
  ⟨none, some 25, .nilCheck (.tmp 15)⟩,
  ⟨none, some 26, .fieldAddr 134 (.tmp 25) 0⟩,
  ⟨none, none, .store 132 (.tmp 26) (.tmp 24)⟩]
def r28_4_w {E fr h Q} := @opsW_unf E fr h Q _ _ r28_4.eq_1
def s28_5 : GC := .ops r28_4
def s28_5_w {E nt rd fr h Q} := @wp_unf E nt rd fr h Q _ _ s28_5.eq_1
def s28_6 : GC := .seq (.block 1 s28_5) s28_3
def s28_6_w {E nt rd fr h Q} := @wp_unf E nt rd fr h Q _ _ s28_6.eq_1
def s28_7 : GC := .cond (.tmp 12) .skip (.exit 0)
def s28_7_w {E nt rd fr h Q} := @wp_unf E nt rd fr h Q _ _ s28_7.eq_1
def r28_8 : List GO := [⟨none, some 10, .move (.tmp 6)⟩,
  ⟨none, some 11, .move (.tmp 0)⟩,
  ⟨none, some 12, .binOp .lss 3 (.tmp 10) (.tmp 11) 3⟩]
def r28_8_w {E fr h Q} := @opsW_unf E fr h Q _ _ r28_8.eq_1
def s28_9 : GC := .seq (.ops r28_8) s28_7
def s28_9_w {E nt rd fr h Q} := @wp_unf E nt rd fr h Q _ _ s28_9.eq_1
def s28_10 : GC := .seq (s28_9) s28_6
def s28_10_w {E nt rd fr h Q} := @wp_unf E nt rd fr h Q _ _ s28_10.eq_1
def s28_11 : GC := .loop s28_10
def s28_11_w {E nt rd fr h Q} := @wp_unf E nt rd fr h Q _ _ s28_11.eq_1
def s28_12 : GC := .block 0 s28_11
def s28_12_w {E nt rd fr h Q} := @wp_unf E nt rd fr h Q _ _ s28_12.eq_1
def r28_13 : List GO := [⟨none, some 6, .assign (.const (.int .i64 0))⟩]
def r28_13_w {E fr h Q} := @opsW_unf E fr h Q _ _ r28_13.eq_1
def s28_14 : GC := .seq (.ops r28_13) s28_12
def s28_14_w {E nt rd fr h Q} := @wp_unf E nt rd fr h Q _ _ s28_14.eq_1
def s28_15 : GC := .seq (s28_14) s28_1
def s28_15_w {E nt rd fr h Q} := @wp_unf E nt rd fr h Q _ _ s28_15.eq_1
def r28_16 : List GO := [⟨none, some 7, .move (.tmp 1)⟩,
  ⟨none, some 8, .build 134 ⟨[(2, .tmp 7)]⟩⟩,
  ⟨none, some 9, .box 134 (.tmp 8)⟩,
  ⟨none, some 5, .assign (.tmp 9)⟩]
def r28_16_w {E fr h Q} := @opsW_unf E fr h Q _ _ r28_16.eq_1
def s28_17 : GC := .seq (.ops r28_16) s28_15
def s28_17_w {E nt rd fr h Q} := @wp_unf E nt rd fr h Q _ _ s28_17.eq_1
def r28_18 : List GO := [⟨none, some 4, .assign (.const (.pointer none))⟩]
def r28_18_w {E fr h Q} := @opsW_unf E fr h Q _ _ r28_18.eq_1
def s28_19 : GC := .seq (.ops r28_18) s28_17
def s28_19_w {E nt rd fr h Q} := @wp_unf E nt rd fr h Q _ _ s28_19.eq_1
theorem c28 : Try.f28.body.bind (clean env 28) = some s28_19 := by kernel_rfl
theorem e28 : env.funs.get 28 = some Try.f28 := by kernel_rfl
theorem F28 {args : List Value} {h : Heap} {K : Value → Heap → Prop} (hl : args.length = 2) (w : s28_19.wp env 28 none (setAll args 0 .leaf) h (resK env [.tmp 4] K)) : Ret env (.func 28) args h K :=
  Ret.of_body' rfl e28 c28 rfl rfl (by rw [hl]; decide) w
/-! helmsman/helmsmanref09.New -/
def r29_0 : List GO := [⟨none, some 46, .move (.tmp 9)⟩,
  ⟨none, some 8, .assign (.tmp 46)⟩]
def r29_0_w {E fr h Q} := @opsW_unf E fr h Q _ _ r29_0.eq_1
def s29_1 : GC := .seq (.ops r29_0) .ret
def s29_1_w {E nt rd fr h Q} := @wp_unf E nt rd fr h Q _ _ s29_1.eq_1
def r29_2 : List GO := [⟨none, some 40, .move (.tmp 9)⟩,
  ⟨none, some 41, .move (.tmp 1)⟩,
  ⟨none, some 42, .move (.tmp 2)⟩,
  ⟨none, some 43, .move (.tmp 3)⟩,
  ⟨none, some 44, .build 144 ⟨[(2, .tmp 41), (3, .tmp 42), (4, .tmp 43)]⟩⟩,
  ⟨none, some 45, .call ⟨.value (.func 55), ⟨[.tmp 40, .tmp 44]⟩, ⟨[84, 144]⟩⟩⟩]
def r29_2_w {E fr h Q} := @opsW_unf E fr h Q _ _ r29_2.eq_1
def s29_3 : GC := .seq (.ops r29_2) s29_1
def s29_3_w {E nt rd fr h Q} := @wp_unf E nt rd fr h Q _ _ s29_3.eq_1
def r29_4 : List GO := [⟨none, some 18, .move (.tmp 10)⟩,
  ⟨none, some 19, .binOp .add 3 (.tmp 18) (.const (.int .i64 1)) 3⟩,
  ⟨none, some 10, .assign (.tmp 19)⟩]
def r29_4_w {E fr h Q} := @opsW_unf E fr h Q _ _ r29_4.eq_1
def s29_5 : GC := .ops r29_4
def s29_5_w {E nt rd fr h Q} := @wp_unf E nt rd fr h Q _ _ s29_5.eq_1
def r29_6 : List GO := [⟨none, some 27, .move (.tmp 9)⟩,
  ⟨none, some 28, .move (.tmp 9)⟩,
  ⟨none, some 29, .nilCheck (.tmp 28)⟩,
  ⟨none, some 30, .fieldAddr 142 (.tmp 29) 1⟩,
  ⟨none, some 31, .load 38 (.tmp 30)⟩,
  ⟨none, some 32, .move (.tmp 0)⟩,
  ⟨none, some 33, .binOp .sub 3 (.tmp 32) (.const (.int .i64 1)) 3⟩,
  ⟨none, some 34, .move (.tmp 10)⟩,
  ⟨none, some 35, .binOp .sub 3 (.tmp 33) (.tmp 34) 3⟩,
  ⟨none, some 36, .buildSlice 38 1 ⟨[(0, .tmp 35)]⟩⟩,
  ⟨none, some 37, .call ⟨.builtin .append, ⟨[.tmp 31, .tmp 36]⟩, ⟨[38, 38]⟩⟩⟩,
  ⟨none, some 38, .nilCheck (.tmp 27)⟩,
  ⟨none, some 39, .fieldAddr 142 (.tmp 38) 1⟩,
  ⟨none, none, .store 38 (.tmp 39) (.tmp 37)⟩]
def r29_6_w {E fr h Q} := @opsW_unf E fr h Q _ _ r29_6.eq_1
def s29_7 : GC := .ops r29_6
def s29_7_w {E nt rd fr h Q} := @wp_unf E nt rd fr h Q _ _ s29_7.eq_1
def r29_8 : List GO := [⟨none, some 20, .move (.tmp 9)⟩,
  ⟨none, some 21, .nilCheck (.tmp 20)⟩,
  ⟨none, some 22, .fieldAddr 142 (.tmp 21) 0⟩,
  ⟨none, some 23, .load 140 (.tmp 22)⟩,
  ⟨none, some 24, .move (.tmp 10)⟩,
  ⟨none, some 25, .indexAddr 140 (.tmp 23) (.tmp 24)⟩,
  ⟨none, some 26, .fieldAddr 144 (.tmp 25) 0⟩,
  ⟨none, none, .store 22 (.tmp 26) (.const (.int .u64 1))⟩]
def r29_8_w {E fr h Q} := @opsW_unf E fr h Q _ _ r29_8.eq_1
def s29_9 : GC := .seq (.ops r29_8) s29_7
def s29_9_w {E nt rd fr h Q} := @wp_unf E nt rd fr h Q _ _ s29_9.eq_1
def s29_10 : GC := .seq (.block 1 s29_9) s29_5
def s29_10_w {E nt rd fr h Q} := @wp_unf E nt rd fr h Q _ _ s29_10.eq_1
def s29_11 : GC := .cond (.tmp 17) .skip (.exit 0)
def s29_11_w {E nt rd fr h Q} := @wp_unf E nt rd fr h Q _ _ s29_11.eq_1
def r29_12 : List GO := [⟨none, some 15, .move (.tmp 10)⟩,
  ⟨none, some 16, .move (.tmp 0)⟩,
  ⟨none, some 17, .binOp .lss 3 (.tmp 15) (.tmp 16) 3⟩]
def r29_12_w {E fr h Q} := @opsW_unf E fr h Q _ _ r29_12.eq_1
def s29_13 : GC := .seq (.ops r29_12) s29_11
def s29_13_w {E nt rd fr h Q} := @wp_unf E nt rd fr h Q _ _ s29_13.eq_1
def s29_14 : GC := .seq (s29_13) s29_10
def s29_14_w {E nt rd fr h Q} := @wp_unf E nt rd fr h Q _ _ s29_14.eq_1
def s29_15 : GC := .loop s29_14
def s29_15_w {E nt rd fr h Q} := @wp_unf E nt rd fr h Q _ _ s29_15.eq_1
def s29_16 : GC := .block 0 s29_15
def s29_16_w {E nt rd fr h Q} := @wp_unf E nt rd fr h Q _ _ s29_16.eq_1
def r29_17 : List GO := [⟨none, some 10, .assign (.const (.int .i64 0))⟩]
def r29_17_w {E fr h Q} := @opsW_unf E fr h Q _ _ r29_17.eq_1
def s29_18 : GC := .seq (.ops r29_17) s29_16
def s29_18_w {E nt rd fr h Q} := @wp_unf E nt rd fr h Q _ _ s29_18.eq_1
def s29_19 : GC := .seq (s29_18) s29_3
def s29_19_w {E nt rd fr h Q} := @wp_unf E nt rd fr h Q _ _ s29_19.eq_1
def r29_20 : List GO := [⟨none, some 11, .move (.tmp 0)⟩,
  ⟨none, some 12, .makeSlice 140 (.tmp 11) (.tmp 11)⟩,
  ⟨none, some 13, .build 142 ⟨[(0, .tmp 12)]⟩⟩,
  ⟨none, some 14, .box 142 (.tmp 13)⟩,
  ⟨none, some 9, .assign (.tmp 14)⟩]
def r29_20_w {E fr h Q} := @opsW_unf E fr h Q _ _ r29_20.eq_1
def s29_21 : GC := .seq (.ops r29_20) s29_19
def s29_21_w {E nt rd fr h Q} := @wp_unf E nt rd fr h Q _ _ s29_21.eq_1
def r29_22 : List GO := [⟨none, some 8, .assign (.const (.pointer none))⟩]
def r29_22_w {E fr h Q} := @opsW_unf E fr h Q _ _ r29_22.eq_1
def s29_23 : GC := .seq (.ops r29_22) s29_21
def s29_23_w {E nt rd fr h Q} := @wp_unf E nt rd fr h Q _ _ s29_23.eq_1
theorem c29 : Try.f29.body.bind (clean env 47) = some s29_23 := by kernel_rfl
theorem e29 : env.funs.get 29 = some Try.f29 := by kernel_rfl
theorem F29 {args : List Value} {h : Heap} {K : Value → Heap → Prop} (hl : args.length = 4) (w : s29_23.wp env 47 none (setAll args 0 .leaf) h (resK env [.tmp 8] K)) : Ret env (.func 29) args h K :=
  Ret.of_body' rfl e29 c29 rfl rfl (by rw [hl]; decide) w
/-! helmsman/helmsmanref13.New -/
def r30_0 : List GO := [⟨none, some 7, .move (.tmp 0)⟩,
  ⟨none, some 8, .move (.tmp 1)⟩,
  ⟨none, some 9, .move (.tmp 2)⟩,
  ⟨none, some 10, .build 148 ⟨[(0, .tmp 7), (1, .tmp 8), (2, .tmp 9)]⟩⟩,
  ⟨none, some 11, .box 148 (.tmp 10)⟩,
  ⟨none, some 6, .assign (.tmp 11)⟩]
def r30_0_w {E fr h Q} := @opsW_unf E fr h Q _ _ r30_0.eq_1
def s30_1 : GC := .seq (.ops r30_0) .ret
def s30_1_w {E nt rd fr h Q} := @wp_unf E nt rd fr h Q _ _ s30_1.eq_1
def r30_2 : List GO := [⟨none, some 6, .assign (.const (.pointer none))⟩]
def r30_2_w {E fr h Q} := @opsW_unf E fr h Q _ _ r30_2.eq_1
def s30_3 : GC := .seq (.ops r30_2) s30_1
def s30_3_w {E nt rd fr h Q} := @wp_unf E nt rd fr h Q _ _ s30_3.eq_1
theorem c30 : Try.f30.body.bind (clean env 12) = some s30_3 := by kernel_rfl
theorem e30 : env.funs.get 30 = some Try.f30 := by kernel_rfl
theorem F30 {args : List Value} {h : Heap} {K : Value → Heap → Prop} (hl : args.length = 3) (w : s30_3.wp env 12 none (setAll args 0 .leaf) h (resK env [.tmp 6] K)) : Ret env (.func 30) args h K :=
  Ret.of_body' rfl e30 c30 rfl rfl (by rw [hl]; decide) w
/-! helmsman/helmsmanref19.New -/
def r31_0 : List GO := [⟨none, some 28, .move (.tmp 5)⟩,
  ⟨none, some 4, .assign (.tmp 28)⟩]
def r31_0_w {E fr h Q} := @opsW_unf E fr h Q _ _ r31_0.eq_1
def s31_1 : GC := .seq (.ops r31_0) .ret
def s31_1_w {E nt rd fr h Q} := @wp_unf E nt rd fr h Q _ _ s31_1.eq_1
def r31_2 : List GO := [⟨none, some 14, .move (.tmp 6)⟩,
  ⟨none, some 15, .binOp .add 3 (.tmp 14) (.const (.int .i64 1)) 3⟩,
  ⟨none, some 6, .assign (.tmp 15)⟩]
def r31_2_w {E fr h Q} := @opsW_unf E fr h Q _ _ r31_2.eq_1
def s31_3 : GC := .ops r31_2
def s31_3_w {E nt rd fr h Q} := @wp_unf E nt rd fr h Q _ _ s31_3.eq_1
def p31_4 : List (GO × List GO) := [(⟨none, some 16, .move (.tmp 5)⟩, []),
  (⟨none, some 17, .move (.tmp 5)⟩, []),
  (⟨none, some 18, .nilCheck (.tmp 17)⟩, []),
  (⟨none, some 19, .fieldAddr 106 (.tmp 18) 0⟩, []),
  (⟨none, some 20, .load 103 (.tmp 19)⟩, []),
  (⟨none, some 21, .move (.tmp 1)⟩, []),
  (⟨none, some 22, .call ⟨.value (.func 56), ⟨[.tmp 21]⟩, ⟨[3]⟩⟩⟩, [⟨none, some 20, .load 103 (.tmp 19)⟩]),
  (⟨none, some 23, .build 154 ⟨[(0, .tmp 22)]⟩⟩, []),
  (⟨none, some 24, .buildSlice 103 1 ⟨[(0, .tmp 23)]⟩⟩, []),
  (⟨none, some 25, .call ⟨.builtin .append, ⟨[.tmp 20, .tmp 24]⟩, ⟨[103, 103]⟩⟩⟩, []),
  (⟨none, some 26, .nilCheck (.tmp 16)⟩, []),
  (⟨none, some 27, .fieldAddr 106 (.tmp 26) 0⟩, []),
  (⟨none, none, .store 103 (.tmp 27) (.tmp 25)⟩, [])]
def p31_4_w {E fr h Q} := @planW_unf E fr h Q _ _ p31_4.eq_1
def s31_5 : GC := .plan p31_4
def s31_5_w {E nt rd fr h Q} := @wp_unf E nt rd fr h Q _ _ s31_5.eq_1
def s31_6 : GC := .seq (.block 1 s31_5) s31_3
def s31_6_w {E nt rd fr h Q} := @wp_unf E nt rd fr h Q _ _ s31_6.eq_1
def s31_7 : GC := .cond (.tmp 13) .skip (.exit 0)
def s31_7_w {E nt rd fr h Q} := @wp_unf E nt rd fr h Q _ _ s31_7.eq_1
def r31_8 : List GO := [⟨none, some 11, .move (.tmp 6)⟩,
  ⟨none, some 12, .move (.tmp 0)⟩,
  ⟨none, some 13, .binOp .lss 3 (.tmp 11) (.tmp 12) 3⟩]
def r31_8_w {E fr h Q} := @opsW_unf E fr h Q _ _ r31_8.eq_1
def s31_9 : GC := .seq (.ops r31_8) s31_7
def s31_9_w {E nt rd fr h Q} := @wp_unf E nt rd fr h Q _ _ s31_9.eq_1
def s31_10 : GC := .seq (s31_9) s31_6
def s31_10_w {E nt rd fr h Q} := @wp_unf E nt rd fr h Q _ _ s31_10.eq_1
def s31_11 : GC := .loop s31_10
def s31_11_w {E nt rd fr h Q} := @wp_unf E nt rd fr h Q _ _ s31_11.eq_1
def s31_12 : GC := .block 0 s31_11
def s31_12_w {E nt rd fr h Q} := @wp_unf E nt rd fr h Q _ _ s31_12.eq_1
def r31_13 : List GO := [⟨none, some 6, .assign (.const (.int .i64 0))⟩]
def r31_13_w {E fr h Q} := @opsW_unf E fr h Q _ _ r31_13.eq_1
def s31_14 : GC := .seq (.ops r31_13) s31_12
def s31_14_w {E nt rd fr h Q} := @wp_unf E nt rd fr h Q _ _ s31_14.eq_1
def s31_15 : GC := .seq (s31_14) s31_1
def s31_15_w {E nt rd fr h Q} := @wp_unf E nt rd fr h Q _ _ s31_15.eq_1
def r31_16 : List GO := [⟨none, some 7, .build 150 ⟨[]⟩⟩,
  ⟨none, some 8, .box 150 (.tmp 7)⟩,
  ⟨none, some 9, .build 106 ⟨[(1, .tmp 8)]⟩⟩,
  ⟨none, some 10, .box 106 (.tmp 9)⟩,
  ⟨none, some 5, .assign (.tmp 10)⟩]
def r31_16_w {E fr h Q} := @opsW_unf E fr h Q _ _ r31_16.eq_1
def s31_17 : GC := .seq (.ops r31_16) s31_15
def s31_17_w {E nt rd fr h Q} := @wp_unf E nt rd fr h Q _ _ s31_17.eq_1
def r31_18 : List GO := [⟨none, some 4, .assign (.const (.pointer none))⟩]
def r31_18_w {E fr h Q} := @opsW_unf E fr h Q _ _ r31_18.eq_1
def s31_19 : GC := .seq (.ops r31_18) s31_17
def s31_19_w {E nt rd fr h Q} := @wp_unf E nt rd fr h Q _ _ s31_19.eq_1
theorem c31 : Try.f31.body.bind (clean env 29) = some s31_19 := by kernel_rfl
theorem e31 : env.funs.get 31 = some Try.f31 := by kernel_rfl
theorem F31 {args : List Value} {h : Heap} {K : Value → Heap → Prop} (hl : args.length = 2) (w : s31_19.wp env 29 none (setAll args 0 .leaf) h (resK env [.tmp 4] K)) : Ret env (.func 31) args h K :=
  Ret.of_body' rfl e31 c31 rfl rfl (by rw [hl]; decide) w
/-! (*helmsman/helmsmanref08.Contexts).Make -/
def r32_0 : List GO := [⟨none, some 29, .move (.tmp 0)⟩,
  ⟨none, some 30, .move (.tmp 1)⟩,
  ⟨none, some 31, .move (.tmp 2)⟩,
  ⟨none, some 32, .move (.tmp 1)⟩,
  ⟨none, some 33, .move (.tmp 3)⟩,
  ⟨none, some 34, .build 157 ⟨[(0, .tmp 32), (1, .tmp 33)]⟩⟩,
  ⟨none, some 35, .buildSlice 135 1 ⟨[(0, .tmp 34)]⟩⟩,
  ⟨none, some 36, .build 137 ⟨[(0, .tmp 30), (1, .tmp 31), (2, .tmp 35)]⟩⟩,
  ⟨none, some 37, .call ⟨.value (.func 57), ⟨[.tmp 29, .tmp 36]⟩, ⟨[83, 137]⟩⟩⟩,
  ⟨none, some 38, .extract (.tmp 37) 0⟩,
  ⟨none, some 39, .extract (.tmp 37) 1⟩,
  ⟨none, none, .store 59 (.tmp 8) (.tmp 38)⟩,
  ⟨none, some 9, .assign (.tmp 39)⟩]
def r32_0_w {E fr h Q} := @opsW_unf E fr h Q _ _ r32_0.eq_1
def s32_1 : GC := .seq (.ops r32_0) .ret
def s32_1_w {E nt rd fr h Q} := @wp_unf E nt rd fr h Q _ _ s32_1.eq_1
def r32_2 : List GO := [⟨none, some 28, .build 59 ⟨[]⟩⟩,
  ⟨none, none, .store 59 (.tmp 8) (.tmp 28)⟩,
  ⟨none, some 9, .assign (.const (.int .i64 2))⟩]
def r32_2_w {E fr h Q} := @opsW_unf E fr h Q _ _ r32_2.eq_1
def s32_3 : GC := .seq (.ops r32_2) .ret
def s32_3_w {E nt rd fr h Q} := @wp_unf E nt rd fr h Q _ _ s32_3.eq_1
def s32_4 : GC := .cond (.tmp 27) s32_3 .skip
def s32_4_w {E nt rd fr h Q} := @wp_unf E nt rd fr h Q _ _ s32_4.eq_1
def r32_5 : List GO := [⟨none, some 10, .move (.tmp 1)⟩,
  ⟨none, some 11, .binOp .lss 22 (.tmp 10) (.const (.int .u64 1)) 22⟩,
  ⟨none, some 12, .move (.tmp 11)⟩,
  ⟨some (12, false), some 13, .move (.tmp 1)⟩,
  ⟨some (12, false), some 14, .binOp .gtr 22 (.tmp 13) (.const (.int .u64 4294967296)) 22⟩,
  ⟨none, some 15, .pick (.tmp 12) (.const (.bool true)) (.tmp 14)⟩,
  ⟨none, some 16, .move (.tmp 15)⟩,
  ⟨some (16, false), some 17, .move (.tmp 2)⟩,
  ⟨some (16, false), some 18, .binOp .lss 22 (.tmp 17) (.const (.int .u64 1)) 22⟩,
  ⟨none, some 19, .pick (.tmp 16) (.const (.bool true)) (.tmp 18)⟩,
  ⟨none, some 20, .move (.tmp 19)⟩,
  ⟨some (20, false), some 21, .move (.tmp 2)⟩,
  ⟨some (20, false), some 22, .binOp .gtr 22 (.tmp 21) (.const (.int .u64 4294967296)) 22⟩,
  ⟨none, some 23, .pick (.tmp 20) (.const (.bool true)) (.tmp 22)⟩,
  ⟨none, some 24, .move (.tmp 23)⟩,
  ⟨some (24, false), some 25, .move (.tmp 3)⟩,
  ⟨some (24, false), some 26, .binOp .gtr 22 (.tmp 25) (.const (.int .u64 1152921504606846976)) 22⟩,
  ⟨none, some 27, .pick (.tmp 24) (.const (.bool true)) (.tmp 26)⟩]
def r32_5_w {E fr h Q} := @opsW_unf E fr h Q _ _ r32_5.eq_1
def s32_6 : GC := .seq (.ops r32_5) s32_4
def s32_6_w {E nt rd fr h Q} := @wp_unf E nt rd fr h Q _ _ s32_6.eq_1
def s32_7 : GC := .seq (s32_6) s32_1
def s32_7_w {E nt rd fr h Q} := @wp_unf E nt rd fr h Q _ _ s32_7.eq_1
def r32_8 : List GO := [⟨none, some 8, .alloc 59⟩,
  ⟨none, some 9, .assign (.const (.int .i64 0))⟩]
def r32_8_w {E fr h Q} := @opsW_unf E fr h Q _ _ r32_8.eq_1
def s32_9 : GC := .seq (.ops r32_8) s32_7
def s32_9_w {E nt rd fr h Q} := @wp_unf E nt rd fr h Q _ _ s32_9.eq_1
theorem c32 : Try.f32.body.bind (clean env 40) = some s32_9 := by kernel_rfl
theorem e32 : env.funs.get 32 = some Try.f32 := by kernel_rfl
theorem F32 {args : List Value} {h : Heap} {K : Value → Heap → Prop} (hl : args.length = 4) (w : s32_9.wp env 40 none (setAll args 0 .leaf) h (resK env [.cell 8 59, .tmp 9] K)) : Ret env (.func 32) args h K :=
  Ret.of_body' rfl e32 c32 rfl rfl (by rw [hl]; decide) w
/-! (*helmsman/helmsmanref09.Domains).Join -/
def r33_0 : List GO := [⟨none, some 4, .assign (.const (.int .i64 0))⟩]
def r33_0_w {E fr h Q} := @opsW_unf E fr h Q _ _ r33_0.eq_1
def s33_1 : GC := .seq (.ops r33_0) .ret
def s33_1_w {E nt rd fr h Q} := @wp_unf E nt rd fr h Q _ _ s33_1.eq_1
def p33_2 : List (GO × List GO) := [(⟨none, some 21, .move (.tmp 0)⟩, []),
  (⟨none, some 22, .nilCheck (.tmp 21)⟩, []),
  (⟨none, some 23, .fieldAddr 142 (.tmp 22) 0⟩, []),
  (⟨none, some 24, .load 140 (.tmp 23)⟩, []),
  (⟨none, some 25, .fieldAddr 59 (.tmp 3) 0⟩, []),
  (⟨none, some 26, .load 3 (.tmp 25)⟩, []),
  (⟨none, some 27, .indexAddr 140 (.tmp 24) (.tmp 26)⟩, []),
  (⟨none, some 28, .fieldAddr 144 (.tmp 27) 6⟩, []),
  (⟨none, some 29, .load 3 (.tmp 28)⟩, []),
  (⟨none, some 30, .binOp .add 3 (.tmp 29) (.const (.int .i64 1)) 3⟩, []),
  (⟨none, some 31, .indexAddr 140 (.tmp 24) (.tmp 26)⟩, []),
  (⟨none, some 32, .fieldAddr 144 (.tmp 31) 6⟩, []),
  (⟨none, none, .store 3 (.tmp 32) (.tmp 30)⟩, [])]
def p33_2_w {E fr h Q} := @planW_unf E fr h Q _ _ p33_2.eq_1
def s33_3 : GC := .seq (.plan p33_2) s33_1
def s33_3_w {E nt rd fr h Q} := @wp_unf E nt rd fr h Q _ _ s33_3.eq_1
def r33_4 : List GO := [⟨none, some 4, .assign (.const (.int .i64 15))⟩]
def r33_4_w {E fr h Q} := @opsW_unf E fr h Q _ _ r33_4.eq_1
def s33_5 : GC := .seq (.ops r33_4) .ret
def s33_5_w {E nt rd fr h Q} := @wp_unf E nt rd fr h Q _ _ s33_5.eq_1
def s33_6 : GC := .cond (.tmp 20) s33_5 .skip
def s33_6_w {E nt rd fr h Q} := @wp_unf E nt rd fr h Q _ _ s33_6.eq_1
def r33_7 : List GO := [⟨none, some 13, .fieldAddr 160 (.tmp 5) 6⟩,
  ⟨none, some 14, .load 3 (.tmp 13)⟩,
  ⟨none, some 15, .fieldAddr 160 (.tmp 5) 4⟩,
  ⟨none, some 16, .load 3 (.tmp 15)⟩,
  ⟨none, some 17, .binOp .add 3 (.tmp 14) (.tmp 16) 3⟩,
  ⟨none, some 18, .fieldAddr 160 (.tmp 5) 1⟩,
  ⟨none, some 19, .load 3 (.tmp 18)⟩,
  ⟨none, some 20, .binOp .geq 3 (.tmp 17) (.tmp 19) 3⟩]
def r33_7_w {E fr h Q} := @opsW_unf E fr h Q _ _ r33_7.eq_1
def s33_8 : GC := .seq (.ops r33_7) s33_6
def s33_8_w {E nt rd fr h Q} := @wp_unf E nt rd fr h Q _ _ s33_8.eq_1
def s33_9 : GC := .seq (s33_8) s33_3
def s33_9_w {E nt rd fr h Q} := @wp_unf E nt rd fr h Q _ _ s33_9.eq_1
def r33_10 : List GO := [⟨none, some 10, .move (.tmp 0)⟩,
  ⟨none, some 11, .load 59 (.tmp 3)⟩,
  ⟨none, some 12, .call ⟨.value (.func 59), ⟨[.tmp 10, .tmp 11]⟩, ⟨[84, 59]⟩⟩⟩,
  ⟨none, some 5, .alloc 160⟩,
  ⟨none, none, .store 160 (.tmp 5) (.tmp 12)⟩]
def r33_10_w {E fr h Q} := @opsW_unf E fr h Q _ _ r33_10.eq_1
def s33_11 : GC := .seq (.ops r33_10) s33_9
def s33_11_w {E nt rd fr h Q} := @wp_unf E nt rd fr h Q _ _ s33_11.eq_1
def r33_12 : List GO := [⟨none, some 4, .assign (.const (.int .i64 11))⟩]
def r33_12_w {E fr h Q} := @opsW_unf E fr h Q _ _ r33_12.eq_1
def s33_13 : GC := .seq (.ops r33_12) .ret
def s33_13_w {E nt rd fr h Q} := @wp_unf E nt rd fr h Q _ _ s33_13.eq_1
def s33_14 : GC := .cond (.tmp 9) s33_13 .skip
def s33_14_w {E nt rd fr h Q} := @wp_unf E nt rd fr h Q _ _ s33_14.eq_1
def r33_15 : List GO := [⟨none, some 6, .move (.tmp 0)⟩,
  ⟨none, some 7, .load 59 (.tmp 3)⟩,
  ⟨none, some 8, .call ⟨.value (.func 58), ⟨[.tmp 6, .tmp 7]⟩, ⟨[84, 59]⟩⟩⟩,
  ⟨none, some 9, .unOp .not 4 (.tmp 8)⟩]
def r33_15_w {E fr h Q} := @opsW_unf E fr h Q _ _ r33_15.eq_1
def s33_16 : GC := .seq (.ops r33_15) s33_14
def s33_16_w {E nt rd fr h Q} := @wp_unf E nt rd fr h Q _ _ s33_16.eq_1
def s33_17 : GC := .seq (s33_16) s33_11
def s33_17_w {E nt rd fr h Q} := @wp_unf E nt rd fr h Q _ _ s33_17.eq_1
def r33_18 : List GO := [⟨none, some 3, .box 59 (.tmp 1)⟩,
  ⟨none, some 4, .assign (.const (.int .i64 0))⟩]
def r33_18_w {E fr h Q} := @opsW_unf E fr h Q _ _ r33_18.eq_1
def s33_19 : GC := .seq (.ops r33_18) s33_17
def s33_19_w {E nt rd fr h Q} := @wp_unf E nt rd fr h Q _ _ s33_19.eq_1
theorem c33 : Try.f33.body.bind (clean env 33) = some s33_19 := by kernel_rfl
theorem e33 : env.funs.get 33 = some Try.f33 := by kernel_rfl
theorem F33 {args : List Value} {h : Heap} {K : Value → Heap → Prop} (hl : args.length = 2) (w : s33_19.wp env 33 none (setAll args 0 .leaf) h (resK env [.tmp 4] K)) : Ret env (.func 33) args h K :=
  Ret.of_body' rfl e33 c33 rfl rfl (by rw [hl]; decide) w
/-! (*helmsman/helmsmanref08.Contexts).Bind -/
def r34_0 : List GO := [⟨none, some 6, .assign (.const (.int .i64 0))⟩]
def r34_0_w {E fr h Q} := @opsW_unf E fr h Q _ _ r34_0.eq_1
def s34_1 : GC := .seq (.ops r34_0) .ret
def s34_1_w {E nt rd fr h Q} := @wp_unf E nt rd fr h Q _ _ s34_1.eq_1
def p34_2 : List (GO × List GO) := [(⟨none, some 24, .move (.tmp 0)⟩, []),
  (⟨none, some 25, .nilCheck (.tmp 24)⟩, []),
  (⟨none, some 26, .fieldAddr 134 (.tmp 25) 0⟩, []),
  (⟨none, some 27, .load 132 (.tmp 26)⟩, []),
  (⟨none, some 28, .fieldAddr 59 (.tmp 4) 0⟩, []),
  (⟨none, some 29, .load 3 (.tmp 28)⟩, []),
  (⟨none, some 30, .move (.tmp 0)⟩, []),
  (⟨none, some 31, .nilCheck (.tmp 30)⟩, []),
  (⟨none, some 32, .fieldAddr 134 (.tmp 31) 0⟩, []),
  (⟨none, some 33, .load 132 (.tmp 32)⟩, []),
  (⟨none, some 34, .fieldAddr 59 (.tmp 4) 0⟩, []),
  (⟨none, some 35, .load 3 (.tmp 34)⟩, []),
  (⟨none, some 36, .indexAddr 132 (.tmp 33) (.tmp 35)⟩, []),
  (⟨none, some 37, .fieldAddr 139 (.tmp 36) 2⟩, []),
  (⟨none, some 38, .fieldAddr 137 (.tmp 37) 3⟩, []),
  (⟨none, some 39, .load 3 (.tmp 38)⟩, []),
  (⟨none, some 40, .move (.tmp 2)⟩, []),
  (⟨none, some 41, .binOp .add 3 (.tmp 39) (.tmp 40) 3⟩, []),
  (⟨none, some 42, .indexAddr 132 (.tmp 27) (.tmp 29)⟩, []),
  (⟨none, some 43, .fieldAddr 139 (.tmp 42) 2⟩, []),
  (⟨none, some 44, .fieldAddr 137 (.tmp 43) 3⟩, []),
  (⟨none, none, .store 3 (.tmp 44) (.tmp 41)⟩, [])]
def p34_2_w {E fr h Q} := @planW_unf E fr h Q _ _ p34_2.eq_1
def s34_3 : GC := .seq (.plan p34_2) s34_1
def s34_3_w {E nt rd fr h Q} := @wp_unf E nt rd fr h Q _ _ s34_3.eq_1
def r34_4 : List GO := [⟨none, some 6, .assign (.const (.int .i64 5))⟩]
def r34_4_w {E fr h Q} := @opsW_unf E fr h Q _ _ r34_4.eq_1
def s34_5 : GC := .seq (.ops r34_4) .ret
def s34_5_w {E nt rd fr h Q} := @wp_unf E nt rd fr h Q _ _ s34_5.eq_1
def s34_6 : GC := .cond (.tmp 23) s34_5 .skip
def s34_6_w {E nt rd fr h Q} := @wp_unf E nt rd fr h Q _ _ s34_6.eq_1
def p34_7 : List (GO × List GO) := [(⟨none, some 11, .move (.tmp 0)⟩, []),
  (⟨none, some 12, .nilCheck (.tmp 11)⟩, []),
  (⟨none, some 13, .fieldAddr 134 (.tmp 12) 0⟩, []),
  (⟨none, some 14, .load 132 (.tmp 13)⟩, []),
  (⟨none, some 15, .fieldAddr 59 (.tmp 4) 0⟩, []),
  (⟨none, some 16, .load 3 (.tmp 15)⟩, []),
  (⟨none, some 17, .indexAddr 132 (.tmp 14) (.tmp 16)⟩, []),
  (⟨none, some 18, .fieldAddr 139 (.tmp 17) 2⟩, []),
  (⟨none, some 19, .fieldAddr 137 (.tmp 18) 3⟩, []),
  (⟨none, some 20, .load 3 (.tmp 19)⟩, []),
  (⟨none, some 21, .move (.tmp 2)⟩, []),
  (⟨none, some 22, .binOp .add 3 (.tmp 20) (.tmp 21) 3⟩, []),
  (⟨none, some 23, .binOp .lss 3 (.tmp 22) (.const (.int .i64 0)) 3⟩, [])]
def p34_7_w {E fr h Q} := @planW_unf E fr h Q _ _ p34_7.eq_1
def s34_8 : GC := .seq (.plan p34_7) s34_6
def s34_8_w {E nt rd fr h Q} := @wp_unf E nt rd fr h Q _ _ s34_8.eq_1
def s34_9 : GC := .seq (s34_8) s34_3
def s34_9_w {E nt rd fr h Q} := @wp_unf E nt rd fr h Q _ _ s34_9.eq_1
def r34_10 : List GO := [⟨none, some 6, .assign (.const (.int .i64 11))⟩]
def r34_10_w {E fr h Q} := @opsW_unf E fr h Q _ _ r34_10.eq_1
def s34_11 : GC := .seq (.ops r34_10) .ret
def s34_11_w {E nt rd fr h Q} := @wp_unf E nt rd fr h Q _ _ s34_11.eq_1
def s34_12 : GC := .cond (.tmp 10) s34_11 .skip
def s34_12_w {E nt rd fr h Q} := @wp_unf E nt rd fr h Q _ _ s34_12.eq_1
def r34_13 : List GO := [⟨none, some 7, .move (.tmp 0)⟩,
  ⟨none, some 8, .load 59 (.tmp 4)⟩,
  ⟨none, some 9, .call ⟨.value (.func 60), ⟨[.tmp 7, .tmp 8]⟩, ⟨[83, 59]⟩⟩⟩,
  ⟨none, some 10, .unOp .not 4 (.tmp 9)⟩]
def r34_13_w {E fr h Q} := @opsW_unf E fr h Q _ _ r34_13.eq_1
def s34_14 : GC := .seq (.ops r34_13) s34_12
def s34_14_w {E nt rd fr h Q} := @wp_unf E nt rd fr h Q _ _ s34_14.eq_1
def s34_15 : GC := .seq (s34_14) s34_9
def s34_15_w {E nt rd fr h Q} := @wp_unf E nt rd fr h Q _ _ s34_15.eq_1
def r34_16 : List GO := [⟨none, some 4, .box 59 (.tmp 1)⟩,
  ⟨none, some 6, .assign (.const (.int .i64 0))⟩]
def r34_16_w {E fr h Q} := @opsW_unf E fr h Q _ _ r34_16.eq_1
def s34_17 : GC := .seq (.ops r34_16) s34_15
def s34_17_w {E nt rd fr h Q} := @wp_unf E nt rd fr h Q _ _ s34_17.eq_1
theorem c34 : Try.f34.body.bind (clean env 45) = some s34_17 := by kernel_rfl
theorem e34 : env.funs.get 34 = some Try.f34 := by kernel_rfl
theorem F34 {args : List Value} {h : Heap} {K : Value → Heap → Prop} (hl : args.length = 3) (w : s34_17.wp env 45 none (setAll args 0 .leaf) h (resK env [.tmp 6] K)) : Ret env (.func 34) args h K :=
  Ret.of_body' rfl e34 c34 rfl rfl (by rw [hl]; decide) w
/-! helmsman/helmsmanref18.Wrong -/
def r54_0 : List GO := [⟨none, some 2, .assign (.const (.string ⟨⟨[]⟩⟩))⟩,
  ⟨none, some 3, .assign (.const (.int .i64 (-1)))⟩]
def r54_0_w {E fr h Q} := @opsW_unf E fr h Q _ _ r54_0.eq_1
def s54_1 : GC := .seq (.ops r54_0) .ret
def s54_1_w {E nt rd fr h Q} := @wp_unf E nt rd fr h Q _ _ s54_1.eq_1
def r54_2 : List GO := [⟨none, some 33, .move (.tmp 5)⟩,
  ⟨none, some 34, .binOp .add 3 (.tmp 33) (.const (.int .i64 1)) 3⟩,
  ⟨none, some 5, .assign (.tmp 34)⟩]
def r54_2_w {E fr h Q} := @opsW_unf E fr h Q _ _ r54_2.eq_1
def s54_3 : GC := .ops r54_2
def s54_3_w {E nt rd fr h Q} := @wp_unf E nt rd fr h Q _ _ s54_3.eq_1
def r54_4 : List GO := [⟨none, some 42, .move (.tmp 5)⟩,
  ⟨none, some 2, .assign (.const (.string ⟨⟨[80, 114, 111, 103, 114, 97, 109, 115]⟩⟩))⟩,
  ⟨none, some 3, .assign (.tmp 42)⟩]
def r54_4_w {E fr h Q} := @opsW_unf E fr h Q _ _ r54_4.eq_1
def s54_5 : GC := .seq (.ops r54_4) .ret
def s54_5_w {E nt rd fr h Q} := @wp_unf E nt rd fr h Q _ _ s54_5.eq_1
def s54_6 : GC := .cond (.tmp 41) s54_5 .skip
def s54_6_w {E nt rd fr h Q} := @wp_unf E nt rd fr h Q _ _ s54_6.eq_1
def r54_7 : List GO := [⟨none, some 35, .fieldAddr 25 (.tmp 1) 14⟩,
  ⟨none, some 36, .load 23 (.tmp 35)⟩,
  ⟨none, some 37, .move (.tmp 5)⟩,
  ⟨none, some 38, .indexAddr 23 (.tmp 36) (.tmp 37)⟩,
  ⟨none, some 39, .load 80 (.tmp 38)⟩,
  ⟨none, some 40, .call ⟨.builtin .len, ⟨[.tmp 39]⟩, ⟨[80]⟩⟩⟩,
  ⟨none, some 41, .binOp .gtr 3 (.tmp 40) (.const (.int .i64 1024)) 3⟩]
def r54_7_w {E fr h Q} := @opsW_unf E fr h Q _ _ r54_7.eq_1
def s54_8 : GC := .seq (.ops r54_7) s54_6
def s54_8_w {E nt rd fr h Q} := @wp_unf E nt rd fr h Q _ _ s54_8.eq_1
def s54_9 : GC := .seq (.block 3 s54_8) s54_3
def s54_9_w {E nt rd fr h Q} := @wp_unf E nt rd fr h Q _ _ s54_9.eq_1
def s54_10 : GC := .cond (.tmp 32) .skip (.exit 2)
def s54_10_w {E nt rd fr h Q} := @wp_unf E nt rd fr h Q _ _ s54_10.eq_1
def r54_11 : List GO := [⟨none, some 28, .move (.tmp 5)⟩,
  ⟨none, some 29, .fieldAddr 25 (.tmp 1) 14⟩,
  ⟨none, some 30, .load 23 (.tmp 29)⟩,
  ⟨none, some 31, .call ⟨.builtin .len, ⟨[.tmp 30]⟩, ⟨[23]⟩⟩⟩,
  ⟨none, some 32, .binOp .lss 3 (.tmp 28) (.tmp 31) 3⟩]
def r54_11_w {E fr h Q} := @opsW_unf E fr h Q _ _ r54_11.eq_1
def s54_12 : GC := .seq (.ops r54_11) s54_10
def s54_12_w {E nt rd fr h Q} := @wp_unf E nt rd fr h Q _ _ s54_12.eq_1
def s54_13 : GC := .seq (s54_12) s54_9
def s54_13_w {E nt rd fr h Q} := @wp_unf E nt rd fr h Q _ _ s54_13.eq_1
def s54_14 : GC := .loop s54_13
def s54_14_w {E nt rd fr h Q} := @wp_unf E nt rd fr h Q _ _ s54_14.eq_1
def s54_15 : GC := .block 2 s54_14
def s54_15_w {E nt rd fr h Q} := @wp_unf E nt rd fr h Q _ _ s54_15.eq_1
def r54_16 : List GO := [⟨none, some 5, .assign (.const (.int .i64 0))⟩]
def r54_16_w {E fr h Q} := @opsW_unf E fr h Q _ _ r54_16.eq_1
def s54_17 : GC := .seq (.ops r54_16) s54_15
def s54_17_w {E nt rd fr h Q} := @wp_unf E nt rd fr h Q _ _ s54_17.eq_1
def s54_18 : GC := .seq (s54_17) s54_1
def s54_18_w {E nt rd fr h Q} := @wp_unf E nt rd fr h Q _ _ s54_18.eq_1
def r54_19 : List GO := [⟨none, some 2, .assign (.const (.string ⟨⟨[80, 114, 111, 103, 114, 97, 109, 115]⟩⟩))⟩,
  ⟨none, some 3, .assign (.const (.int .i64 (-1)))⟩]
def r54_19_w {E fr h Q} := @opsW_unf E fr h Q _ _ r54_19.eq_1
def s54_20 : GC := .seq (.ops r54_19) .ret
def s54_20_w {E nt rd fr h Q} := @wp_unf E nt rd fr h Q _ _ s54_20.eq_1
def s54_21 : GC := .cond (.tmp 27) s54_20 .skip
def s54_21_w {E nt rd fr h Q} := @wp_unf E nt rd fr h Q _ _ s54_21.eq_1
def r54_22 : List GO := [⟨none, some 18, .fieldAddr 25 (.tmp 1) 14⟩,
  ⟨none, some 19, .load 23 (.tmp 18)⟩,
  ⟨none, some 20, .call ⟨.builtin .len, ⟨[.tmp 19]⟩, ⟨[23]⟩⟩⟩,
  ⟨none, some 21, .binOp .eql 3 (.tmp 20) (.const (.int .i64 0)) 3⟩,
  ⟨none, some 22, .move (.tmp 21)⟩,
  ⟨some (22, false), some 23, .fieldAddr 25 (.tmp 1) 14⟩,
  ⟨some (22, false), some 24, .load 23 (.tmp 23)⟩,
  ⟨some (22, false), some 25, .call ⟨.builtin .len, ⟨[.tmp 24]⟩, ⟨[23]⟩⟩⟩,
  ⟨some (22, false), some 26, .binOp .gtr 3 (.tmp 25) (.const (.int .i64 16)) 3⟩,
  ⟨none, some 27, .pick (.tmp 22) (.const (.bool true)) (.tmp 26)⟩]
def r54_22_w {E fr h Q} := @opsW_unf E fr h Q _ _ r54_22.eq_1
def s54_23 : GC := .seq (.ops r54_22) s54_21
def s54_23_w {E nt rd fr h Q} := @wp_unf E nt rd fr h Q _ _ s54_23.eq_1
def s54_24 : GC := .seq (s54_23) s54_18
def s54_24_w {E nt rd fr h Q} := @wp_unf E nt rd fr h Q _ _ s54_24.eq_1
def r54_25 : List GO := [⟨none, some 8, .move (.tmp 4)⟩,
  ⟨none, some 9, .binOp .add 3 (.tmp 8) (.const (.int .i64 1)) 3⟩,
  ⟨none, some 4, .assign (.tmp 9)⟩]
def r54_25_w {E fr h Q} := @opsW_unf E fr h Q _ _ r54_25.eq_1
def s54_26 : GC := .ops r54_25
def s54_26_w {E nt rd fr h Q} := @wp_unf E nt rd fr h Q _ _ s54_26.eq_1
def r54_27 : List GO := [⟨none, some 14, .call ⟨.value (.func 71), ⟨[]⟩, ⟨[]⟩⟩⟩,
  ⟨none, some 15, .move (.tmp 4)⟩,
  ⟨none, some 16, .indexAddr 174 (.tmp 14) (.tmp 15)⟩,
  ⟨none, some 17, .load 9 (.tmp 16)⟩,
  ⟨none, some 2, .assign (.tmp 17)⟩,
  ⟨none, some 3, .assign (.const (.int .i64 (-1)))⟩]
def r54_27_w {E fr h Q} := @opsW_unf E fr h Q _ _ r54_27.eq_1
def s54_28 : GC := .seq (.ops r54_27) .ret
def s54_28_w {E nt rd fr h Q} := @wp_unf E nt rd fr h Q _ _ s54_28.eq_1
def s54_29 : GC := .cond (.tmp 13) s54_28 .skip
def s54_29_w {E nt rd fr h Q} := @wp_unf E nt rd fr h Q _ _ s54_29.eq_1
def r54_30 : List GO := [⟨none, some 10, .load 25 (.tmp 1)⟩,
  ⟨none, some 11, .move (.tmp 4)⟩,
  ⟨none, some 12, .call ⟨.value (.func 70), ⟨[.tmp 10, .tmp 11]⟩, ⟨[25, 3]⟩⟩⟩,
  ⟨none, some 13, .binOp .neq 3 (.tmp 12) (.const (.int .i64 0)) 3⟩]
def r54_30_w {E fr h Q} := @opsW_unf E fr h Q _ _ r54_30.eq_1
def s54_31 : GC := .seq (.ops r54_30) s54_29
def s54_31_w {E nt rd fr h Q} := @wp_unf E nt rd fr h Q _ _ s54_31.eq_1
def s54_32 : GC := .seq (.block 1 s54_31) s54_26
def s54_32_w {E nt rd fr h Q} := @wp_unf E nt rd fr h Q _ _ s54_32.eq_1
def s54_33 : GC := .cond (.tmp 7) .skip (.exit 0)
def s54_33_w {E nt rd fr h Q} := @wp_unf E nt rd fr h Q _ _ s54_33.eq_1
def r54_34 : List GO := [⟨none, some 6, .move (.tmp 4)⟩,
  ⟨none, some 7, .binOp .lss 3 (.tmp 6) (.const (.int .i64 14)) 3⟩]
def r54_34_w {E fr h Q} := @opsW_unf E fr h Q _ _ r54_34.eq_1
def s54_35 : GC := .seq (.ops r54_34) s54_33
def s54_35_w {E nt rd fr h Q} := @wp_unf E nt rd fr h Q _ _ s54_35.eq_1
def s54_36 : GC := .seq (s54_35) s54_32
def s54_36_w {E nt rd fr h Q} := @wp_unf E nt rd fr h Q _ _ s54_36.eq_1
def s54_37 : GC := .loop s54_36
def s54_37_w {E nt rd fr h Q} := @wp_unf E nt rd fr h Q _ _ s54_37.eq_1
def s54_38 : GC := .block 0 s54_37
def s54_38_w {E nt rd fr h Q} := @wp_unf E nt rd fr h Q _ _ s54_38.eq_1
def r54_39 : List GO := [⟨none, some 4, .assign (.const (.int .i64 0))⟩]
def r54_39_w {E fr h Q} := @opsW_unf E fr h Q _ _ r54_39.eq_1
def s54_40 : GC := .seq (.ops r54_39) s54_38
def s54_40_w {E nt rd fr h Q} := @wp_unf E nt rd fr h Q _ _ s54_40.eq_1
def s54_41 : GC := .seq (s54_40) s54_24
def s54_41_w {E nt rd fr h Q} := @wp_unf E nt rd fr h Q _ _ s54_41.eq_1
def r54_42 : List GO := [⟨none, some 1, .box 25 (.tmp 0)⟩,
  ⟨none, some 2, .assign (.const (.string ⟨⟨[]⟩⟩))⟩,
  ⟨none, some 3, .assign (.const (.int .i64 0))⟩]
def r54_42_w {E fr h Q} := @opsW_unf E fr h Q _ _ r54_42.eq_1
def s54_43 : GC := .seq (.ops r54_42) s54_41
def s54_43_w {E nt rd fr h Q} := @wp_unf E nt rd fr h Q _ _ s54_43.eq_1
theorem c54 : Try.f54.body.bind (clean env 43) = some s54_43 := by kernel_rfl
theorem e54 : env.funs.get 54 = some Try.f54 := by kernel_rfl
theorem F54 {args : List Value} {h : Heap} {K : Value → Heap → Prop} (hl : args.length = 1) (w : s54_43.wp env 43 none (setAll args 0 .leaf) h (resK env [.tmp 2, .tmp 3] K)) : Ret env (.func 54) args h K :=
  Ret.of_body' rfl e54 c54 rfl rfl (by rw [hl]; decide) w
/-! helmsman/helmsmanref18.Out -/
def r70_0 : List GO := [⟨none, some 4, .assign (.const (.int .i64 0))⟩]
def r70_0_w {E fr h Q} := @opsW_unf E fr h Q _ _ r70_0.eq_1
def s70_1 : GC := .seq (.ops r70_0) .ret
def s70_1_w {E nt rd fr h Q} := @wp_unf E nt rd fr h Q _ _ s70_1.eq_1
def r70_2 : List GO := [⟨none, some 4, .assign (.const (.int .i64 1))⟩]
def r70_2_w {E fr h Q} := @opsW_unf E fr h Q _ _ r70_2.eq_1
def s70_3 : GC := .seq (.ops r70_2) .ret
def s70_3_w {E nt rd fr h Q} := @wp_unf E nt rd fr h Q _ _ s70_3.eq_1
def s70_4 : GC := .cond (.tmp 43) s70_3 .skip
def s70_4_w {E nt rd fr h Q} := @wp_unf E nt rd fr h Q _ _ s70_4.eq_1
def r70_5 : List GO := [⟨none, some 41, .move (.tmp 8)⟩,
  ⟨none, some 42, .move (.tmp 6)⟩,
  ⟨none, some 43, .binOp .gtr 22 (.tmp 41) (.tmp 42) 22⟩]
def r70_5_w {E fr h Q} := @opsW_unf E fr h Q _ _ r70_5.eq_1
def s70_6 : GC := .seq (.ops r70_5) s70_4
def s70_6_w {E nt rd fr h Q} := @wp_unf E nt rd fr h Q _ _ s70_6.eq_1
def s70_7 : GC := .seq (s70_6) s70_1
def s70_7_w {E nt rd fr h Q} := @wp_unf E nt rd fr h Q _ _ s70_7.eq_1
def r70_8 : List GO := [⟨none, some 4, .assign (.const (.int .i64 (-1)))⟩]
def r70_8_w {E fr h Q} := @opsW_unf E fr h Q _ _ r70_8.eq_1
def s70_9 : GC := .seq (.ops r70_8) .ret
def s70_9_w {E nt rd fr h Q} := @wp_unf E nt rd fr h Q _ _ s70_9.eq_1
def s70_10 : GC := .cond (.tmp 40) s70_9 .skip
def s70_10_w {E nt rd fr h Q} := @wp_unf E nt rd fr h Q _ _ s70_10.eq_1
def r70_11 : List GO := [⟨none, some 38, .move (.tmp 8)⟩,
  ⟨none, some 39, .move (.tmp 5)⟩,
  ⟨none, some 40, .binOp .lss 22 (.tmp 38) (.tmp 39) 22⟩]
def r70_11_w {E fr h Q} := @opsW_unf E fr h Q _ _ r70_11.eq_1
def s70_12 : GC := .seq (.ops r70_11) s70_10
def s70_12_w {E nt rd fr h Q} := @wp_unf E nt rd fr h Q _ _ s70_12.eq_1
def s70_13 : GC := .seq (s70_12) s70_7
def s70_13_w {E nt rd fr h Q} := @wp_unf E nt rd fr h Q _ _ s70_13.eq_1
def r70_14 : List GO := [⟨none, some 32, .load 25 (.tmp 2)⟩,
  ⟨none, some 33, .call ⟨.value (.func 79), ⟨[.tmp 32]⟩, ⟨[25]⟩⟩⟩,
  ⟨none, some 34, .move (.tmp 1)⟩,
  ⟨none, some 35, .binOp .sub 3 (.tmp 34) (.const (.int .i64 10)) 3⟩,
  ⟨none, some 36, .indexAddr 40 (.tmp 33) (.tmp 35)⟩,
  ⟨none, some 37, .load 22 (.tmp 36)⟩,
  ⟨none, some 8, .assign (.tmp 37)⟩]
def r70_14_w {E fr h Q} := @opsW_unf E fr h Q _ _ r70_14.eq_1
def s70_15 : GC := .seq (.ops r70_14) s70_13
def s70_15_w {E nt rd fr h Q} := @wp_unf E nt rd fr h Q _ _ s70_15.eq_1
def r70_16 : List GO := [⟨none, some 4, .assign (.const (.int .i64 0))⟩]
def r70_16_w {E fr h Q} := @opsW_unf E fr h Q _ _ r70_16.eq_1
def s70_17 : GC := .seq (.ops r70_16) .ret
def s70_17_w {E nt rd fr h Q} := @wp_unf E nt rd fr h Q _ _ s70_17.eq_1
def r70_18 : List GO := [⟨none, some 4, .assign (.const (.int .i64 1))⟩]
def r70_18_w {E fr h Q} := @opsW_unf E fr h Q _ _ r70_18.eq_1
def s70_19 : GC := .seq (.ops r70_18) .ret
def s70_19_w {E nt rd fr h Q} := @wp_unf E nt rd fr h Q _ _ s70_19.eq_1
def s70_20 : GC := .cond (.tmp 31) s70_19 .skip
def s70_20_w {E nt rd fr h Q} := @wp_unf E nt rd fr h Q _ _ s70_20.eq_1
def r70_21 : List GO := [⟨none, some 28, .move (.tmp 7)⟩,
  ⟨none, some 29, .move (.tmp 6)⟩,
  ⟨none, some 30, .convert 22 3 (.tmp 29)⟩,
  ⟨none, some 31, .binOp .gtr 3 (.tmp 28) (.tmp 30) 3⟩]
def r70_21_w {E fr h Q} := @opsW_unf E fr h Q _ _ r70_21.eq_1
def s70_22 : GC := .seq (.ops r70_21) s70_20
def s70_22_w {E nt rd fr h Q} := @wp_unf E nt rd fr h Q _ _ s70_22.eq_1
def s70_23 : GC := .seq (s70_22) s70_17
def s70_23_w {E nt rd fr h Q} := @wp_unf E nt rd fr h Q _ _ s70_23.eq_1
def r70_24 : List GO := [⟨none, some 4, .assign (.const (.int .i64 (-1)))⟩]
def r70_24_w {E fr h Q} := @opsW_unf E fr h Q _ _ r70_24.eq_1
def s70_25 : GC := .seq (.ops r70_24) .ret
def s70_25_w {E nt rd fr h Q} := @wp_unf E nt rd fr h Q _ _ s70_25.eq_1
def s70_26 : GC := .cond (.tmp 27) s70_25 .skip
def s70_26_w {E nt rd fr h Q} := @wp_unf E nt rd fr h Q _ _ s70_26.eq_1
def r70_27 : List GO := [⟨none, some 24, .move (.tmp 7)⟩,
  ⟨none, some 25, .move (.tmp 5)⟩,
  ⟨none, some 26, .convert 22 3 (.tmp 25)⟩,
  ⟨none, some 27, .binOp .lss 3 (.tmp 24) (.tmp 26) 3⟩]
def r70_27_w {E fr h Q} := @opsW_unf E fr h Q _ _ r70_27.eq_1
def s70_28 : GC := .seq (.ops r70_27) s70_26
def s70_28_w {E nt rd fr h Q} := @wp_unf E nt rd fr h Q _ _ s70_28.eq_1
def s70_29 : GC := .seq (s70_28) s70_23
def s70_29_w {E nt rd fr h Q} := @wp_unf E nt rd fr h Q _ _ s70_29.eq_1
def r70_30 : List GO := [⟨none, some 19, .load 25 (.tmp 2)⟩,
  ⟨none, some 20, .call ⟨.value (.func 78), ⟨[.tmp 19]⟩, ⟨[25]⟩⟩⟩,
  ⟨none, some 21, .move (.tmp 1)⟩,
  ⟨none, some 22, .indexAddr 38 (.tmp 20) (.tmp 21)⟩,
  ⟨none, some 23, .load 3 (.tmp 22)⟩,
  ⟨none, some 7, .assign (.tmp 23)⟩]
def r70_30_w {E fr h Q} := @opsW_unf E fr h Q _ _ r70_30.eq_1
def s70_31 : GC := .seq (.ops r70_30) s70_29
def s70_31_w {E nt rd fr h Q} := @wp_unf E nt rd fr h Q _ _ s70_31.eq_1
def s70_32 : GC := .cond (.tmp 18) s70_31 .skip
def s70_32_w {E nt rd fr h Q} := @wp_unf E nt rd fr h Q _ _ s70_32.eq_1
def r70_33 : List GO := [⟨none, some 17, .move (.tmp 1)⟩,
  ⟨none, some 18, .binOp .lss 3 (.tmp 17) (.const (.int .i64 10)) 3⟩]
def r70_33_w {E fr h Q} := @opsW_unf E fr h Q _ _ r70_33.eq_1
def s70_34 : GC := .seq (.ops r70_33) s70_32
def s70_34_w {E nt rd fr h Q} := @wp_unf E nt rd fr h Q _ _ s70_34.eq_1
def s70_35 : GC := .seq (s70_34) s70_15
def s70_35_w {E nt rd fr h Q} := @wp_unf E nt rd fr h Q _ _ s70_35.eq_1
def p70_36 : List (GO × List GO) := [(⟨none, some 10, .move (.tmp 1)⟩, []),
  (⟨none, some 14, .move (.tmp 1)⟩, []),
  (⟨none, some 9, .call ⟨.value (.func 76), ⟨[]⟩, ⟨[]⟩⟩⟩, []),
  (⟨none, some 11, .indexAddr 40 (.tmp 9) (.tmp 10)⟩, []),
  (⟨none, some 12, .load 22 (.tmp 11)⟩, []),
  (⟨none, some 13, .call ⟨.value (.func 77), ⟨[]⟩, ⟨[]⟩⟩⟩, [⟨none, some 12, .load 22 (.tmp 11)⟩]),
  (⟨none, some 15, .indexAddr 40 (.tmp 13) (.tmp 14)⟩, []),
  (⟨none, some 16, .load 22 (.tmp 15)⟩, []),
  (⟨none, some 5, .assign (.tmp 12)⟩, []),
  (⟨none, some 6, .assign (.tmp 16)⟩, [])]
def p70_36_w {E fr h Q} := @planW_unf E fr h Q _ _ p70_36.eq_1
def s70_37 : GC := .seq (.plan p70_36) s70_35
def s70_37_w {E nt rd fr h Q} := @wp_unf E nt rd fr h Q _ _ s70_37.eq_1
def r70_38 : List GO := [⟨none, some 2, .box 25 (.tmp 0)⟩,
  ⟨none, some 4, .assign (.const (.int .i64 0))⟩]
def r70_38_w {E fr h Q} := @opsW_unf E fr h Q _ _ r70_38.eq_1
def s70_39 : GC := .seq (.ops r70_38) s70_37
def s70_39_w {E nt rd fr h Q} := @wp_unf E nt rd fr h Q _ _ s70_39.eq_1
theorem c70 : Try.f70.body.bind (clean env 44) = some s70_39 := by kernel_rfl
theorem e70 : env.funs.get 70 = some Try.f70 := by kernel_rfl
theorem F70 {args : List Value} {h : Heap} {K : Value → Heap → Prop} (hl : args.length = 2) (w : s70_39.wp env 44 none (setAll args 0 .leaf) h (resK env [.tmp 4] K)) : Ret env (.func 70) args h K :=
  Ret.of_body' rfl e70 c70 rfl rfl (by rw [hl]; decide) w
/-! helmsman/helmsmanref18.Names -/
def r71_0 : List GO := [⟨none, some 1, .buildSlice 174 14 ⟨[(0, .const (.string ⟨⟨[80, 115]⟩⟩)), (1, .const (.string ⟨⟨[82, 105, 110, 103]⟩⟩)), (2, .const (.string ⟨⟨[71, 115]⟩⟩)), (3, .const (.string ⟨⟨[67, 111, 110, 116, 101, 120, 116, 115]⟩⟩)), (4, .const (.string ⟨⟨[68, 111, 109, 97, 105, 110, 115]⟩⟩)), (5, .const (.string ⟨⟨[78, 111, 100, 101, 115]⟩⟩)), (6, .const (.string ⟨⟨[83, 108, 111, 116, 115]⟩⟩)), (7, .const (.string ⟨⟨[82, 101, 102, 105, 108, 108, 115]⟩⟩)), (8, .const (.string ⟨⟨[65, 117, 100, 105, 116]⟩⟩)), (9, .const (.string ⟨⟨[83, 108, 105, 99, 101]⟩⟩)), (10, .const (.string ⟨⟨[67, 80, 85]⟩⟩)), (11, .const (.string ⟨⟨[80, 101, 114, 105, 111, 100]⟩⟩)), (12, .const (.string ⟨⟨[66, 117, 100, 103, 101, 116]⟩⟩)), (13, .const (.string ⟨⟨[69, 97, 99, 104]⟩⟩))]⟩⟩,
  ⟨none, some 0, .assign (.tmp 1)⟩]
def r71_0_w {E fr h Q} := @opsW_unf E fr h Q _ _ r71_0.eq_1
def s71_1 : GC := .seq (.ops r71_0) .ret
def s71_1_w {E nt rd fr h Q} := @wp_unf E nt rd fr h Q _ _ s71_1.eq_1
def r71_2 : List GO := [⟨none, some 0, .assign (.const (.slice none 0 0))⟩]
def r71_2_w {E fr h Q} := @opsW_unf E fr h Q _ _ r71_2.eq_1
def s71_3 : GC := .seq (.ops r71_2) s71_1
def s71_3_w {E nt rd fr h Q} := @wp_unf E nt rd fr h Q _ _ s71_3.eq_1
theorem c71 : Try.f71.body.bind (clean env 2) = some s71_3 := by kernel_rfl
theorem e71 : env.funs.get 71 = some Try.f71 := by kernel_rfl
theorem F71 {args : List Value} {h : Heap} {K : Value → Heap → Prop} (hl : args.length = 0) (w : s71_3.wp env 2 none (setAll args 0 .leaf) h (resK env [.tmp 0] K)) : Ret env (.func 71) args h K :=
  Ret.of_body' rfl e71 c71 rfl rfl (by rw [hl]; decide) w
/-! helmsman/helmsmanref18.Least -/
def r76_0 : List GO := [⟨none, some 1, .buildSlice 40 14 ⟨[(0, .const (.int .u64 1)), (1, .const (.int .u64 2)), (2, .const (.int .u64 1)), (3, .const (.int .u64 1)), (4, .const (.int .u64 1)), (5, .const (.int .u64 3)), (6, .const (.int .u64 3)), (7, .const (.int .u64 2)), (8, .const (.int .u64 1)), (9, .const (.int .u64 1)), (10, .const (.int .u64 1)), (11, .const (.int .u64 1)), (12, .const (.int .u64 1)), (13, .const (.int .u64 1))]⟩⟩,
  ⟨none, some 0, .assign (.tmp 1)⟩]
def r76_0_w {E fr h Q} := @opsW_unf E fr h Q _ _ r76_0.eq_1
def s76_1 : GC := .seq (.ops r76_0) .ret
def s76_1_w {E nt rd fr h Q} := @wp_unf E nt rd fr h Q _ _ s76_1.eq_1
def r76_2 : List GO := [⟨none, some 0, .assign (.const (.slice none 0 0))⟩]
def r76_2_w {E fr h Q} := @opsW_unf E fr h Q _ _ r76_2.eq_1
def s76_3 : GC := .seq (.ops r76_2) s76_1
def s76_3_w {E nt rd fr h Q} := @wp_unf E nt rd fr h Q _ _ s76_3.eq_1
theorem c76 : Try.f76.body.bind (clean env 2) = some s76_3 := by kernel_rfl
theorem e76 : env.funs.get 76 = some Try.f76 := by kernel_rfl
theorem F76 {args : List Value} {h : Heap} {K : Value → Heap → Prop} (hl : args.length = 0) (w : s76_3.wp env 2 none (setAll args 0 .leaf) h (resK env [.tmp 0] K)) : Ret env (.func 76) args h K :=
  Ret.of_body' rfl e76 c76 rfl rfl (by rw [hl]; decide) w
/-! helmsman/helmsmanref18.Most -/
def r77_0 : List GO := [⟨none, some 1, .buildSlice 40 14 ⟨[(0, .const (.int .u64 8)), (1, .const (.int .u64 32)), (2, .const (.int .u64 64)), (3, .const (.int .u64 32)), (4, .const (.int .u64 32)), (5, .const (.int .u64 512)), (6, .const (.int .u64 32)), (7, .const (.int .u64 16)), (8, .const (.int .u64 256)), (9, .const (.int .u64 64)), (10, .const (.int .u64 4294967296)), (11, .const (.int .u64 4294967296)), (12, .const (.int .u64 4294967296)), (13, .const (.int .u64 4294967296))]⟩⟩,
  ⟨none, some 0, .assign (.tmp 1)⟩]
def r77_0_w {E fr h Q} := @opsW_unf E fr h Q _ _ r77_0.eq_1
def s77_1 : GC := .seq (.ops r77_0) .ret
def s77_1_w {E nt rd fr h Q} := @wp_unf E nt rd fr h Q _ _ s77_1.eq_1
def r77_2 : List GO := [⟨none, some 0, .assign (.const (.slice none 0 0))⟩]
def r77_2_w {E fr h Q} := @opsW_unf E fr h Q _ _ r77_2.eq_1
def s77_3 : GC := .seq (.ops r77_2) s77_1
def s77_3_w {E nt rd fr h Q} := @wp_unf E nt rd fr h Q _ _ s77_3.eq_1
theorem c77 : Try.f77.body.bind (clean env 2) = some s77_3 := by kernel_rfl
theorem e77 : env.funs.get 77 = some Try.f77 := by kernel_rfl
theorem F77 {args : List Value} {h : Heap} {K : Value → Heap → Prop} (hl : args.length = 0) (w : s77_3.wp env 2 none (setAll args 0 .leaf) h (resK env [.tmp 0] K)) : Ret env (.func 77) args h K :=
  Ret.of_body' rfl e77 c77 rfl rfl (by rw [hl]; decide) w
/-! helmsman/helmsmanref18.small -/
def r78_0 : List GO := [⟨none, some 3, .fieldAddr 25 (.tmp 1) 0⟩,
  ⟨none, some 4, .load 3 (.tmp 3)⟩,
  ⟨none, some 5, .fieldAddr 25 (.tmp 1) 1⟩,
  ⟨none, some 6, .load 3 (.tmp 5)⟩,
  ⟨none, some 7, .fieldAddr 25 (.tmp 1) 2⟩,
  ⟨none, some 8, .load 3 (.tmp 7)⟩,
  ⟨none, some 9, .fieldAddr 25 (.tmp 1) 3⟩,
  ⟨none, some 10, .load 3 (.tmp 9)⟩,
  ⟨none, some 11, .fieldAddr 25 (.tmp 1) 4⟩,
  ⟨none, some 12, .load 3 (.tmp 11)⟩,
  ⟨none, some 13, .fieldAddr 25 (.tmp 1) 5⟩,
  ⟨none, some 14, .load 3 (.tmp 13)⟩,
  ⟨none, some 15, .fieldAddr 25 (.tmp 1) 6⟩,
  ⟨none, some 16, .load 3 (.tmp 15)⟩,
  ⟨none, some 17, .fieldAddr 25 (.tmp 1) 7⟩,
  ⟨none, some 18, .load 3 (.tmp 17)⟩,
  ⟨none, some 19, .fieldAddr 25 (.tmp 1) 8⟩,
  ⟨none, some 20, .load 3 (.tmp 19)⟩,
  ⟨none, some 21, .fieldAddr 25 (.tmp 1) 9⟩,
  ⟨none, some 22, .load 3 (.tmp 21)⟩,
  ⟨none, some 23, .buildSlice 38 10 ⟨[(0, .tmp 4), (1, .tmp 6), (2, .tmp 8), (3, .tmp 10), (4, .tmp 12), (5, .tmp 14), (6, .tmp 16), (7, .tmp 18), (8, .tmp 20), (9, .tmp 22)]⟩⟩,
  ⟨none, some 2, .assign (.tmp 23)⟩]
def r78_0_w {E fr h Q} := @opsW_unf E fr h Q _ _ r78_0.eq_1
def s78_1 : GC := .seq (.ops r78_0) .ret
def s78_1_w {E nt rd fr h Q} := @wp_unf E nt rd fr h Q _ _ s78_1.eq_1
def r78_2 : List GO := [⟨none, some 1, .box 25 (.tmp 0)⟩,
  ⟨none, some 2, .assign (.const (.slice none 0 0))⟩]
def r78_2_w {E fr h Q} := @opsW_unf E fr h Q _ _ r78_2.eq_1
def s78_3 : GC := .seq (.ops r78_2) s78_1
def s78_3_w {E nt rd fr h Q} := @wp_unf E nt rd fr h Q _ _ s78_3.eq_1
theorem c78 : Try.f78.body.bind (clean env 24) = some s78_3 := by kernel_rfl
theorem e78 : env.funs.get 78 = some Try.f78 := by kernel_rfl
theorem F78 {args : List Value} {h : Heap} {K : Value → Heap → Prop} (hl : args.length = 1) (w : s78_3.wp env 24 none (setAll args 0 .leaf) h (resK env [.tmp 2] K)) : Ret env (.func 78) args h K :=
  Ret.of_body' rfl e78 c78 rfl rfl (by rw [hl]; decide) w
/-! helmsman/helmsmanref18.great -/
def r79_0 : List GO := [⟨none, some 3, .fieldAddr 25 (.tmp 1) 10⟩,
  ⟨none, some 4, .load 22 (.tmp 3)⟩,
  ⟨none, some 5, .fieldAddr 25 (.tmp 1) 11⟩,
  ⟨none, some 6, .load 22 (.tmp 5)⟩,
  ⟨none, some 7, .fieldAddr 25 (.tmp 1) 12⟩,
  ⟨none, some 8, .load 22 (.tmp 7)⟩,
  ⟨none, some 9, .fieldAddr 25 (.tmp 1) 13⟩,
  ⟨none, some 10, .load 22 (.tmp 9)⟩,
  ⟨none, some 11, .buildSlice 40 4 ⟨[(0, .tmp 4), (1, .tmp 6), (2, .tmp 8), (3, .tmp 10)]⟩⟩,
  ⟨none, some 2, .assign (.tmp 11)⟩]
def r79_0_w {E fr h Q} := @opsW_unf E fr h Q _ _ r79_0.eq_1
def s79_1 : GC := .seq (.ops r79_0) .ret
def s79_1_w {E nt rd fr h Q} := @wp_unf E nt rd fr h Q _ _ s79_1.eq_1
def r79_2 : List GO := [⟨none, some 1, .box 25 (.tmp 0)⟩,
  ⟨none, some 2, .assign (.const (.slice none 0 0))⟩]
def r79_2_w {E fr h Q} := @opsW_unf E fr h Q _ _ r79_2.eq_1
def s79_3 : GC := .seq (.ops r79_2) s79_1
def s79_3_w {E nt rd fr h Q} := @wp_unf E nt rd fr h Q _ _ s79_3.eq_1
theorem c79 : Try.f79.body.bind (clean env 12) = some s79_3 := by kernel_rfl
theorem e79 : env.funs.get 79 = some Try.f79 := by kernel_rfl
theorem F79 {args : List Value} {h : Heap} {K : Value → Heap → Prop} (hl : args.length = 1) (w : s79_3.wp env 12 none (setAll args 0 .leaf) h (resK env [.tmp 2] K)) : Ret env (.func 79) args h K :=
  Ret.of_body' rfl e79 c79 rfl rfl (by rw [hl]; decide) w
/-! (*helmsman/helmsmanref09.Domains).put -/
def r55_0 : List GO := [⟨none, some 46, .move (.tmp 6)⟩,
  ⟨none, some 47, .fieldAddr 144 (.tmp 3) 0⟩,
  ⟨none, some 48, .load 22 (.tmp 47)⟩,
  ⟨none, some 49, .build 59 ⟨[(0, .tmp 46), (1, .tmp 48)]⟩⟩,
  ⟨none, none, .store 59 (.tmp 4) (.tmp 49)⟩]
def r55_0_w {E fr h Q} := @opsW_unf E fr h Q _ _ r55_0.eq_1
def s55_1 : GC := .seq (.ops r55_0) .ret
def s55_1_w {E nt rd fr h Q} := @wp_unf E nt rd fr h Q _ _ s55_1.eq_1
def p55_2 : List (GO × List GO) := [(⟨none, some 39, .move (.tmp 0)⟩, []),
  (⟨none, some 40, .nilCheck (.tmp 39)⟩, []),
  (⟨none, some 41, .fieldAddr 142 (.tmp 40) 0⟩, []),
  (⟨none, some 42, .load 140 (.tmp 41)⟩, []),
  (⟨none, some 43, .move (.tmp 6)⟩, []),
  (⟨none, some 44, .load 144 (.tmp 3)⟩, []),
  (⟨none, some 45, .indexAddr 140 (.tmp 42) (.tmp 43)⟩, []),
  (⟨none, none, .store 144 (.tmp 45) (.tmp 44)⟩, [])]
def p55_2_w {E fr h Q} := @planW_unf E fr h Q _ _ p55_2.eq_1
def s55_3 : GC := .seq (.plan p55_2) s55_1
def s55_3_w {E nt rd fr h Q} := @wp_unf E nt rd fr h Q _ _ s55_3.eq_1
def r55_4 : List GO := [⟨none, some 38, .fieldAddr 144 (.tmp 3) 1⟩,
  ⟨none, none, .store 4 (.tmp 38) (.const (.bool true))⟩]
def r55_4_w {E fr h Q} := @opsW_unf E fr h Q _ _ r55_4.eq_1
def s55_5 : GC := .seq (.ops r55_4) s55_3
def s55_5_w {E nt rd fr h Q} := @wp_unf E nt rd fr h Q _ _ s55_5.eq_1
def r55_6 : List GO := [⟨none, some 29, .move (.tmp 0)⟩,
  ⟨none, some 30, .nilCheck (.tmp 29)⟩,
  ⟨none, some 31, .fieldAddr 142 (.tmp 30) 0⟩,
  ⟨none, some 32, .load 140 (.tmp 31)⟩,
  ⟨none, some 33, .move (.tmp 6)⟩,
  ⟨none, some 34, .indexAddr 140 (.tmp 32) (.tmp 33)⟩,
  ⟨none, some 35, .fieldAddr 144 (.tmp 34) 0⟩,
  ⟨none, some 36, .load 22 (.tmp 35)⟩,
  ⟨none, some 37, .fieldAddr 144 (.tmp 3) 0⟩,
  ⟨none, none, .store 22 (.tmp 37) (.tmp 36)⟩]
def r55_6_w {E fr h Q} := @opsW_unf E fr h Q _ _ r55_6.eq_1
def s55_7 : GC := .seq (.ops r55_6) s55_5
def s55_7_w {E nt rd fr h Q} := @wp_unf E nt rd fr h Q _ _ s55_7.eq_1
def r55_8 : List GO := [⟨none, some 20, .move (.tmp 0)⟩,
  ⟨none, some 21, .move (.tmp 0)⟩,
  ⟨none, some 22, .nilCheck (.tmp 21)⟩,
  ⟨none, some 23, .fieldAddr 142 (.tmp 22) 1⟩,
  ⟨none, some 24, .load 38 (.tmp 23)⟩,
  ⟨none, some 25, .move (.tmp 5)⟩,
  ⟨none, some 26, .slice 38 (.tmp 24) none (some (.tmp 25)) none⟩,
  ⟨none, some 27, .nilCheck (.tmp 20)⟩,
  ⟨none, some 28, .fieldAddr 142 (.tmp 27) 1⟩,
  ⟨none, none, .store 38 (.tmp 28) (.tmp 26)⟩]
def r55_8_w {E fr h Q} := @opsW_unf E fr h Q _ _ r55_8.eq_1
def s55_9 : GC := .seq (.ops r55_8) s55_7
def s55_9_w {E nt rd fr h Q} := @wp_unf E nt rd fr h Q _ _ s55_9.eq_1
def r55_10 : List GO := [⟨none, some 13, .move (.tmp 0)⟩,
  ⟨none, some 14, .nilCheck (.tmp 13)⟩,
  ⟨none, some 15, .fieldAddr 142 (.tmp 14) 1⟩,
  ⟨none, some 16, .load 38 (.tmp 15)⟩,
  ⟨none, some 17, .move (.tmp 5)⟩,
  ⟨none, some 18, .indexAddr 38 (.tmp 16) (.tmp 17)⟩,
  ⟨none, some 19, .load 3 (.tmp 18)⟩,
  ⟨none, some 6, .assign (.tmp 19)⟩]
def r55_10_w {E fr h Q} := @opsW_unf E fr h Q _ _ r55_10.eq_1
def s55_11 : GC := .seq (.ops r55_10) s55_9
def s55_11_w {E nt rd fr h Q} := @wp_unf E nt rd fr h Q _ _ s55_11.eq_1
def r55_12 : List GO := [⟨none, some 7, .move (.tmp 0)⟩,
  ⟨none, some 8, .nilCheck (.tmp 7)⟩,
  ⟨none, some 9, .fieldAddr 142 (.tmp 8) 1⟩,
  ⟨none, some 10, .load 38 (.tmp 9)⟩,
  ⟨none, some 11, .call ⟨.builtin .len, ⟨[.tmp 10]⟩, ⟨[38]⟩⟩⟩,
  ⟨none, some 12, .binOp .sub 3 (.tmp 11) (.const (.int .i64 1)) 3⟩,
  ⟨none, some 5, .assign (.tmp 12)⟩]
def r55_12_w {E fr h Q} := @opsW_unf E fr h Q _ _ r55_12.eq_1
def s55_13 : GC := .seq (.ops r55_12) s55_11
def s55_13_w {E nt rd fr h Q} := @wp_unf E nt rd fr h Q _ _ s55_13.eq_1
def r55_14 : List GO := [⟨none, some 3, .box 144 (.tmp 1)⟩,
  ⟨none, some 4, .alloc 59⟩]
def r55_14_w {E fr h Q} := @opsW_unf E fr h Q _ _ r55_14.eq_1
def s55_15 : GC := .seq (.ops r55_14) s55_13
def s55_15_w {E nt rd fr h Q} := @wp_unf E nt rd fr h Q _ _ s55_15.eq_1
theorem c55 : Try.f55.body.bind (clean env 50) = some s55_15 := by kernel_rfl
theorem e55 : env.funs.get 55 = some Try.f55 := by kernel_rfl
theorem F55 {args : List Value} {h : Heap} {K : Value → Heap → Prop} (hl : args.length = 2) (w : s55_15.wp env 50 none (setAll args 0 .leaf) h (resK env [.cell 4 59] K)) : Ret env (.func 55) args h K :=
  Ret.of_body' rfl e55 c55 rfl rfl (by rw [hl]; decide) w
/-! helmsman/helmsmanref05.New -/
def r56_0 : List GO := [⟨none, some 3, .move (.tmp 0)⟩,
  ⟨none, some 4, .build 177 ⟨[(1, .tmp 3)]⟩⟩,
  ⟨none, some 5, .box 177 (.tmp 4)⟩,
  ⟨none, some 2, .assign (.tmp 5)⟩]
def r56_0_w {E fr h Q} := @opsW_unf E fr h Q _ _ r56_0.eq_1
def s56_1 : GC := .seq (.ops r56_0) .ret
def s56_1_w {E nt rd fr h Q} := @wp_unf E nt rd fr h Q _ _ s56_1.eq_1
def r56_2 : List GO := [⟨none, some 2, .assign (.const (.pointer none))⟩]
def r56_2_w {E fr h Q} := @opsW_unf E fr h Q _ _ r56_2.eq_1
def s56_3 : GC := .seq (.ops r56_2) s56_1
def s56_3_w {E nt rd fr h Q} := @wp_unf E nt rd fr h Q _ _ s56_3.eq_1
theorem c56 : Try.f56.body.bind (clean env 6) = some s56_3 := by kernel_rfl
theorem e56 : env.funs.get 56 = some Try.f56 := by kernel_rfl
theorem F56 {args : List Value} {h : Heap} {K : Value → Heap → Prop} (hl : args.length = 1) (w : s56_3.wp env 6 none (setAll args 0 .leaf) h (resK env [.tmp 2] K)) : Ret env (.func 56) args h K :=
  Ret.of_body' rfl e56 c56 rfl rfl (by rw [hl]; decide) w

end Go.Proofs.Ytdjnedamphifcaa

