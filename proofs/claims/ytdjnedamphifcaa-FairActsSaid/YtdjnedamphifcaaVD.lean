/- The code of New's second half, as plain Lean. Conditions, none. -/
import Derived.Test.YtdjnedamphifcaaVA
import Derived.KernelRfl
set_option linter.unusedSimpArgs false
set_option linter.unusedVariables false
namespace Go.Proofs.Ytdjnedamphifcaa
open Go.Ev
set_option maxRecDepth 100000
set_option linter.defProp false
/-! (*helmsman/helmsmanref16.Table).Make -/
def r35_0 : List GO := [⟨none, some 53, .move (.tmp 7)⟩,
  ⟨none, some 54, .move (.tmp 0)⟩,
  ⟨none, some 55, .nilCheck (.tmp 54)⟩,
  ⟨none, some 56, .fieldAddr 129 (.tmp 55) 0⟩,
  ⟨none, some 57, .load 127 (.tmp 56)⟩,
  ⟨none, some 58, .move (.tmp 7)⟩,
  ⟨none, some 59, .indexAddr 127 (.tmp 57) (.tmp 58)⟩,
  ⟨none, some 60, .fieldAddr 131 (.tmp 59) 0⟩,
  ⟨none, some 61, .load 22 (.tmp 60)⟩,
  ⟨none, some 62, .build 59 ⟨[(0, .tmp 53), (1, .tmp 61)]⟩⟩,
  ⟨none, none, .store 59 (.tmp 4) (.tmp 62)⟩,
  ⟨none, some 5, .assign (.const (.int .i64 0))⟩]
def r35_0_w {E fr h Q} := @opsW_unf E fr h Q _ _ r35_0.eq_1
def s35_1 : GC := .seq (.ops r35_0) .ret
def s35_1_w {E nt rd fr h Q} := @wp_unf E nt rd fr h Q _ _ s35_1.eq_1
def p35_2 : List (GO × List GO) := [(⟨none, some 45, .move (.tmp 0)⟩, []),
  (⟨none, some 46, .nilCheck (.tmp 45)⟩, []),
  (⟨none, some 47, .fieldAddr 129 (.tmp 46) 0⟩, []),
  (⟨none, some 48, .load 127 (.tmp 47)⟩, []),
  (⟨none, some 49, .move (.tmp 7)⟩, []),
  (⟨none, some 50, .load 64 (.tmp 3)⟩, []),
  (⟨none, some 51, .indexAddr 127 (.tmp 48) (.tmp 49)⟩, []),
  (⟨none, some 52, .fieldAddr 131 (.tmp 51) 2⟩, []),
  (⟨none, none, .store 64 (.tmp 52) (.tmp 50)⟩, [])]
def p35_2_w {E fr h Q} := @planW_unf E fr h Q _ _ p35_2.eq_1
def s35_3 : GC := .seq (.plan p35_2) s35_1
def s35_3_w {E nt rd fr h Q} := @wp_unf E nt rd fr h Q _ _ s35_3.eq_1
def r35_4 : List GO := [⟨none, some 38, .move (.tmp 0)⟩,
  ⟨none, some 39, .nilCheck (.tmp 38)⟩,
  ⟨none, some 40, .fieldAddr 129 (.tmp 39) 0⟩,
  ⟨none, some 41, .load 127 (.tmp 40)⟩,
  ⟨none, some 42, .move (.tmp 7)⟩,
  ⟨none, some 43, .indexAddr 127 (.tmp 41) (.tmp 42)⟩,
  ⟨none, some 44, .fieldAddr 131 (.tmp 43) 1⟩,
  ⟨none, none, .store 4 (.tmp 44) (.const (.bool true))⟩]
def r35_4_w {E fr h Q} := @opsW_unf E fr h Q _ _ r35_4.eq_1
def s35_5 : GC := .seq (.ops r35_4) s35_3
def s35_5_w {E nt rd fr h Q} := @wp_unf E nt rd fr h Q _ _ s35_5.eq_1
def r35_6 : List GO := [⟨none, some 28, .move (.tmp 0)⟩,
  ⟨none, some 29, .move (.tmp 0)⟩,
  ⟨none, some 30, .nilCheck (.tmp 29)⟩,
  ⟨none, some 31, .fieldAddr 129 (.tmp 30) 1⟩,
  ⟨none, some 32, .load 38 (.tmp 31)⟩,
  ⟨none, some 33, .move (.tmp 6)⟩,
  ⟨none, some 34, .slice 38 (.tmp 32) none (some (.tmp 33)) none⟩,
  ⟨none, some 35, .call ⟨.builtin .append, ⟨[.const (.slice none 0 0), .tmp 34]⟩, ⟨[38, 38]⟩⟩⟩,
  ⟨none, some 36, .nilCheck (.tmp 28)⟩,
  ⟨none, some 37, .fieldAddr 129 (.tmp 36) 1⟩,
  ⟨none, none, .store 38 (.tmp 37) (.tmp 35)⟩]
def r35_6_w {E fr h Q} := @opsW_unf E fr h Q _ _ r35_6.eq_1
def s35_7 : GC := .seq (.ops r35_6) s35_5
def s35_7_w {E nt rd fr h Q} := @wp_unf E nt rd fr h Q _ _ s35_7.eq_1
def r35_8 : List GO := [⟨none, some 21, .move (.tmp 0)⟩,
  ⟨none, some 22, .nilCheck (.tmp 21)⟩,
  ⟨none, some 23, .fieldAddr 129 (.tmp 22) 1⟩,
  ⟨none, some 24, .load 38 (.tmp 23)⟩,
  ⟨none, some 25, .move (.tmp 6)⟩,
  ⟨none, some 26, .indexAddr 38 (.tmp 24) (.tmp 25)⟩,
  ⟨none, some 27, .load 3 (.tmp 26)⟩,
  ⟨none, some 7, .assign (.tmp 27)⟩]
def r35_8_w {E fr h Q} := @opsW_unf E fr h Q _ _ r35_8.eq_1
def s35_9 : GC := .seq (.ops r35_8) s35_7
def s35_9_w {E nt rd fr h Q} := @wp_unf E nt rd fr h Q _ _ s35_9.eq_1
def r35_10 : List GO := [⟨none, some 20, .build 59 ⟨[]⟩⟩,
  ⟨none, none, .store 59 (.tmp 4) (.tmp 20)⟩,
  ⟨none, some 5, .assign (.const (.int .i64 3))⟩]
def r35_10_w {E fr h Q} := @opsW_unf E fr h Q _ _ r35_10.eq_1
def s35_11 : GC := .seq (.ops r35_10) .ret
def s35_11_w {E nt rd fr h Q} := @wp_unf E nt rd fr h Q _ _ s35_11.eq_1
def s35_12 : GC := .cond (.tmp 19) s35_11 .skip
def s35_12_w {E nt rd fr h Q} := @wp_unf E nt rd fr h Q _ _ s35_12.eq_1
def r35_13 : List GO := [⟨none, some 18, .move (.tmp 6)⟩,
  ⟨none, some 19, .binOp .lss 3 (.tmp 18) (.const (.int .i64 0)) 3⟩]
def r35_13_w {E fr h Q} := @opsW_unf E fr h Q _ _ r35_13.eq_1
def s35_14 : GC := .seq (.ops r35_13) s35_12
def s35_14_w {E nt rd fr h Q} := @wp_unf E nt rd fr h Q _ _ s35_14.eq_1
def s35_15 : GC := .seq (s35_14) s35_9
def s35_15_w {E nt rd fr h Q} := @wp_unf E nt rd fr h Q _ _ s35_15.eq_1
def r35_16 : List GO := [⟨none, some 12, .move (.tmp 0)⟩,
  ⟨none, some 13, .nilCheck (.tmp 12)⟩,
  ⟨none, some 14, .fieldAddr 129 (.tmp 13) 1⟩,
  ⟨none, some 15, .load 38 (.tmp 14)⟩,
  ⟨none, some 16, .call ⟨.builtin .len, ⟨[.tmp 15]⟩, ⟨[38]⟩⟩⟩,
  ⟨none, some 17, .binOp .sub 3 (.tmp 16) (.const (.int .i64 1)) 3⟩,
  ⟨none, some 6, .assign (.tmp 17)⟩]
def r35_16_w {E fr h Q} := @opsW_unf E fr h Q _ _ r35_16.eq_1
def s35_17 : GC := .seq (.ops r35_16) s35_15
def s35_17_w {E nt rd fr h Q} := @wp_unf E nt rd fr h Q _ _ s35_17.eq_1
def r35_18 : List GO := [⟨none, some 11, .build 59 ⟨[]⟩⟩,
  ⟨none, none, .store 59 (.tmp 4) (.tmp 11)⟩,
  ⟨none, some 5, .assign (.const (.int .i64 2))⟩]
def r35_18_w {E fr h Q} := @opsW_unf E fr h Q _ _ r35_18.eq_1
def s35_19 : GC := .seq (.ops r35_18) .ret
def s35_19_w {E nt rd fr h Q} := @wp_unf E nt rd fr h Q _ _ s35_19.eq_1
def s35_20 : GC := .cond (.tmp 10) s35_19 .skip
def s35_20_w {E nt rd fr h Q} := @wp_unf E nt rd fr h Q _ _ s35_20.eq_1
def r35_21 : List GO := [⟨none, some 8, .load 64 (.tmp 3)⟩,
  ⟨none, some 9, .call ⟨.value (.func 61), ⟨[.tmp 8]⟩, ⟨[64]⟩⟩⟩,
  ⟨none, some 10, .unOp .not 4 (.tmp 9)⟩]
def r35_21_w {E fr h Q} := @opsW_unf E fr h Q _ _ r35_21.eq_1
def s35_22 : GC := .seq (.ops r35_21) s35_20
def s35_22_w {E nt rd fr h Q} := @wp_unf E nt rd fr h Q _ _ s35_22.eq_1
def s35_23 : GC := .seq (s35_22) s35_17
def s35_23_w {E nt rd fr h Q} := @wp_unf E nt rd fr h Q _ _ s35_23.eq_1
def r35_24 : List GO := [⟨none, some 3, .box 64 (.tmp 1)⟩,
  ⟨none, some 4, .alloc 59⟩,
  ⟨none, some 5, .assign (.const (.int .i64 0))⟩]
def r35_24_w {E fr h Q} := @opsW_unf E fr h Q _ _ r35_24.eq_1
def s35_25 : GC := .seq (.ops r35_24) s35_23
def s35_25_w {E nt rd fr h Q} := @wp_unf E nt rd fr h Q _ _ s35_25.eq_1
theorem c35 : Try.f35.body.bind (clean env 63) = some s35_25 := by kernel_rfl
theorem e35 : env.funs.get 35 = some Try.f35 := by kernel_rfl
theorem F35 {args : List Value} {h : Heap} {K : Value → Heap → Prop} (hl : args.length = 2) (w : s35_25.wp env 63 none (setAll args 0 .leaf) h (resK env [.cell 4 59, .tmp 5] K)) : Ret env (.func 35) args h K :=
  Ret.of_body' rfl e35 c35 rfl rfl (by rw [hl]; decide) w
/-! helmsman/helmsmanref20.all -/
def r36_0 : List GO := [⟨none, some 14, .move (.tmp 3)⟩,
  ⟨none, some 15, .call ⟨.value (.func 62), ⟨[.tmp 14]⟩, ⟨[38]⟩⟩⟩,
  ⟨none, some 2, .assign (.tmp 15)⟩]
def r36_0_w {E fr h Q} := @opsW_unf E fr h Q _ _ r36_0.eq_1
def s36_1 : GC := .seq (.ops r36_0) .ret
def s36_1_w {E nt rd fr h Q} := @wp_unf E nt rd fr h Q _ _ s36_1.eq_1
def r36_2 : List GO := [⟨none, some 8, .move (.tmp 4)⟩,
  ⟨none, some 9, .binOp .add 3 (.tmp 8) (.const (.int .i64 1)) 3⟩,
  ⟨none, some 4, .assign (.tmp 9)⟩]
def r36_2_w {E fr h Q} := @opsW_unf E fr h Q _ _ r36_2.eq_1
def s36_3 : GC := .ops r36_2
def s36_3_w {E nt rd fr h Q} := @wp_unf E nt rd fr h Q _ _ s36_3.eq_1
def r36_4 : List GO := [⟨none, some 10, .move (.tmp 3)⟩,
  ⟨none, some 11, .move (.tmp 4)⟩,
  ⟨none, some 12, .buildSlice 38 1 ⟨[(0, .tmp 11)]⟩⟩,
  ⟨none, some 13, .call ⟨.builtin .append, ⟨[.tmp 10, .tmp 12]⟩, ⟨[38, 38]⟩⟩⟩,
  ⟨none, some 3, .assign (.tmp 13)⟩]
def r36_4_w {E fr h Q} := @opsW_unf E fr h Q _ _ r36_4.eq_1
def s36_5 : GC := .ops r36_4
def s36_5_w {E nt rd fr h Q} := @wp_unf E nt rd fr h Q _ _ s36_5.eq_1
def s36_6 : GC := .seq (.block 1 s36_5) s36_3
def s36_6_w {E nt rd fr h Q} := @wp_unf E nt rd fr h Q _ _ s36_6.eq_1
def s36_7 : GC := .cond (.tmp 7) .skip (.exit 0)
def s36_7_w {E nt rd fr h Q} := @wp_unf E nt rd fr h Q _ _ s36_7.eq_1
def r36_8 : List GO := [⟨none, some 5, .move (.tmp 4)⟩,
  ⟨none, some 6, .move (.tmp 0)⟩,
  ⟨none, some 7, .binOp .lss 3 (.tmp 5) (.tmp 6) 3⟩]
def r36_8_w {E fr h Q} := @opsW_unf E fr h Q _ _ r36_8.eq_1
def s36_9 : GC := .seq (.ops r36_8) s36_7
def s36_9_w {E nt rd fr h Q} := @wp_unf E nt rd fr h Q _ _ s36_9.eq_1
def s36_10 : GC := .seq (s36_9) s36_6
def s36_10_w {E nt rd fr h Q} := @wp_unf E nt rd fr h Q _ _ s36_10.eq_1
def s36_11 : GC := .loop s36_10
def s36_11_w {E nt rd fr h Q} := @wp_unf E nt rd fr h Q _ _ s36_11.eq_1
def s36_12 : GC := .block 0 s36_11
def s36_12_w {E nt rd fr h Q} := @wp_unf E nt rd fr h Q _ _ s36_12.eq_1
def r36_13 : List GO := [⟨none, some 4, .assign (.const (.int .i64 0))⟩]
def r36_13_w {E fr h Q} := @opsW_unf E fr h Q _ _ r36_13.eq_1
def s36_14 : GC := .seq (.ops r36_13) s36_12
def s36_14_w {E nt rd fr h Q} := @wp_unf E nt rd fr h Q _ _ s36_14.eq_1
def s36_15 : GC := .seq (s36_14) s36_1
def s36_15_w {E nt rd fr h Q} := @wp_unf E nt rd fr h Q _ _ s36_15.eq_1
def r36_16 : List GO := [⟨none, some 3, .assign (.const (.slice none 0 0))⟩]
def r36_16_w {E fr h Q} := @opsW_unf E fr h Q _ _ r36_16.eq_1
def s36_17 : GC := .seq (.ops r36_16) s36_15
def s36_17_w {E nt rd fr h Q} := @wp_unf E nt rd fr h Q _ _ s36_17.eq_1
def r36_18 : List GO := [⟨none, some 2, .assign (.const (.int .u8 0))⟩]
def r36_18_w {E fr h Q} := @opsW_unf E fr h Q _ _ r36_18.eq_1
def s36_19 : GC := .seq (.ops r36_18) s36_17
def s36_19_w {E nt rd fr h Q} := @wp_unf E nt rd fr h Q _ _ s36_19.eq_1
theorem c36 : Try.f36.body.bind (clean env 16) = some s36_19 := by kernel_rfl
theorem e36 : env.funs.get 36 = some Try.f36 := by kernel_rfl
theorem F36 {args : List Value} {h : Heap} {K : Value → Heap → Prop} (hl : args.length = 1) (w : s36_19.wp env 16 none (setAll args 0 .leaf) h (resK env [.tmp 2] K)) : Ret env (.func 36) args h K :=
  Ret.of_body' rfl e36 c36 rfl rfl (by rw [hl]; decide) w
/-! (*helmsman/helmsmanref06.Queue).Put -/
def r37_0 : List GO := [⟨none, some 4, .move (.tmp 0)⟩,
  ⟨none, some 5, .move (.tmp 0)⟩,
  ⟨none, some 6, .nilCheck (.tmp 5)⟩,
  ⟨none, some 7, .fieldAddr 150 (.tmp 6) 0⟩,
  ⟨none, some 8, .load 38 (.tmp 7)⟩,
  ⟨none, some 9, .call ⟨.builtin .append, ⟨[.const (.slice none 0 0), .tmp 8]⟩, ⟨[38, 38]⟩⟩⟩,
  ⟨none, some 10, .move (.tmp 1)⟩,
  ⟨none, some 11, .call ⟨.builtin .append, ⟨[.tmp 9, .tmp 10]⟩, ⟨[38, 38]⟩⟩⟩,
  ⟨none, some 12, .nilCheck (.tmp 4)⟩,
  ⟨none, some 13, .fieldAddr 150 (.tmp 12) 0⟩,
  ⟨none, none, .store 38 (.tmp 13) (.tmp 11)⟩]
def r37_0_w {E fr h Q} := @opsW_unf E fr h Q _ _ r37_0.eq_1
def s37_1 : GC := .ops r37_0
def s37_1_w {E nt rd fr h Q} := @wp_unf E nt rd fr h Q _ _ s37_1.eq_1
theorem c37 : Try.f37.body.bind (clean env 14) = some s37_1 := by kernel_rfl
theorem e37 : env.funs.get 37 = some Try.f37 := by kernel_rfl
theorem F37 {args : List Value} {h : Heap} {K : Value → Heap → Prop} (hl : args.length = 2) (w : s37_1.wp env 14 none (setAll args 0 .leaf) h (resK env [] K)) : Ret env (.func 37) args h K :=
  Ret.of_body' rfl e37 c37 rfl rfl (by rw [hl]; decide) w
/-! (*helmsman/helmsmanref13.Space).Put -/
def r38_0 : List GO := [⟨none, some 10, .assign (.const (.int .i64 0))⟩]
def r38_0_w {E fr h Q} := @opsW_unf E fr h Q _ _ r38_0.eq_1
def s38_1 : GC := .seq (.ops r38_0) .ret
def s38_1_w {E nt rd fr h Q} := @wp_unf E nt rd fr h Q _ _ s38_1.eq_1
def p38_2 : List (GO × List GO) := [(⟨none, some 74, .move (.tmp 0)⟩, []),
  (⟨none, some 75, .move (.tmp 0)⟩, []),
  (⟨none, some 76, .nilCheck (.tmp 75)⟩, []),
  (⟨none, some 77, .fieldAddr 148 (.tmp 76) 3⟩, []),
  (⟨none, some 78, .load 146 (.tmp 77)⟩, []),
  (⟨none, some 80, .move (.tmp 0)⟩, []),
  (⟨none, some 81, .nilCheck (.tmp 80)⟩, []),
  (⟨none, some 82, .fieldAddr 148 (.tmp 81) 4⟩, []),
  (⟨none, some 83, .load 3 (.tmp 82)⟩, []),
  (⟨none, some 84, .move (.tmp 1)⟩, []),
  (⟨none, some 85, .move (.tmp 2)⟩, []),
  (⟨none, some 86, .move (.tmp 3)⟩, []),
  (⟨none, some 87, .load 112 (.tmp 9)⟩, []),
  (⟨none, some 88, .build 167 ⟨[(0, .tmp 83), (1, .tmp 84), (2, .tmp 85), (3, .tmp 86), (4, .tmp 87)]⟩⟩, []),
  (⟨none, some 89, .buildSlice 146 1 ⟨[(0, .tmp 88)]⟩⟩, []),
  (⟨none, some 79, .call ⟨.builtin .append, ⟨[.const (.slice none 0 0), .tmp 78]⟩, ⟨[146, 146]⟩⟩⟩, [⟨none, some 83, .load 3 (.tmp 82)⟩, ⟨none, some 87, .load 112 (.tmp 9)⟩]),
  (⟨none, some 90, .call ⟨.builtin .append, ⟨[.tmp 79, .tmp 89]⟩, ⟨[146, 146]⟩⟩⟩, []),
  (⟨none, some 91, .nilCheck (.tmp 74)⟩, []),
  (⟨none, some 92, .fieldAddr 148 (.tmp 91) 3⟩, []),
  (⟨none, none, .store 146 (.tmp 92) (.tmp 90)⟩, [])]
def p38_2_w {E fr h Q} := @planW_unf E fr h Q _ _ p38_2.eq_1
def s38_3 : GC := .seq (.plan p38_2) s38_1
def s38_3_w {E nt rd fr h Q} := @wp_unf E nt rd fr h Q _ _ s38_3.eq_1
def r38_4 : List GO := [⟨none, some 67, .move (.tmp 0)⟩,
  ⟨none, some 68, .nilCheck (.tmp 67)⟩,
  ⟨none, some 69, .fieldAddr 148 (.tmp 68) 4⟩,
  ⟨none, some 70, .load 3 (.tmp 69)⟩,
  ⟨none, some 71, .binOp .add 3 (.tmp 70) (.const (.int .i64 1)) 3⟩,
  ⟨none, some 72, .nilCheck (.tmp 67)⟩,
  ⟨none, some 73, .fieldAddr 148 (.tmp 72) 4⟩,
  ⟨none, none, .store 3 (.tmp 73) (.tmp 71)⟩]
def r38_4_w {E fr h Q} := @opsW_unf E fr h Q _ _ r38_4.eq_1
def s38_5 : GC := .seq (.ops r38_4) s38_3
def s38_5_w {E nt rd fr h Q} := @wp_unf E nt rd fr h Q _ _ s38_5.eq_1
def r38_6 : List GO := [⟨none, some 10, .assign (.const (.int .i64 3))⟩]
def r38_6_w {E fr h Q} := @opsW_unf E fr h Q _ _ r38_6.eq_1
def s38_7 : GC := .seq (.ops r38_6) .ret
def s38_7_w {E nt rd fr h Q} := @wp_unf E nt rd fr h Q _ _ s38_7.eq_1
def s38_8 : GC := .cond (.tmp 66) s38_7 .skip
def s38_8_w {E nt rd fr h Q} := @wp_unf E nt rd fr h Q _ _ s38_8.eq_1
def p38_9 : List (GO × List GO) := [(⟨none, some 57, .move (.tmp 0)⟩, []),
  (⟨none, some 58, .nilCheck (.tmp 57)⟩, []),
  (⟨none, some 59, .fieldAddr 148 (.tmp 58) 3⟩, []),
  (⟨none, some 60, .load 146 (.tmp 59)⟩, []),
  (⟨none, some 61, .call ⟨.builtin .len, ⟨[.tmp 60]⟩, ⟨[146]⟩⟩⟩, []),
  (⟨none, some 62, .move (.tmp 0)⟩, []),
  (⟨none, some 63, .nilCheck (.tmp 62)⟩, []),
  (⟨none, some 64, .fieldAddr 148 (.tmp 63) 2⟩, []),
  (⟨none, some 65, .load 3 (.tmp 64)⟩, []),
  (⟨none, some 66, .binOp .geq 3 (.tmp 61) (.tmp 65) 3⟩, [])]
def p38_9_w {E fr h Q} := @planW_unf E fr h Q _ _ p38_9.eq_1
def s38_10 : GC := .seq (.plan p38_9) s38_8
def s38_10_w {E nt rd fr h Q} := @wp_unf E nt rd fr h Q _ _ s38_10.eq_1
def s38_11 : GC := .seq (s38_10) s38_5
def s38_11_w {E nt rd fr h Q} := @wp_unf E nt rd fr h Q _ _ s38_11.eq_1
def r38_12 : List GO := [⟨none, some 30, .move (.tmp 12)⟩,
  ⟨none, some 31, .binOp .add 3 (.tmp 30) (.const (.int .i64 1)) 3⟩,
  ⟨none, some 12, .assign (.tmp 31)⟩]
def r38_12_w {E fr h Q} := @opsW_unf E fr h Q _ _ r38_12.eq_1
def s38_13 : GC := .ops r38_12
def s38_13_w {E nt rd fr h Q} := @wp_unf E nt rd fr h Q _ _ s38_13.eq_1
def r38_14 : List GO := [⟨none, some 10, .assign (.const (.int .i64 13))⟩]
def r38_14_w {E fr h Q} := @opsW_unf E fr h Q _ _ r38_14.eq_1
def s38_15 : GC := .seq (.ops r38_14) .ret
def s38_15_w {E nt rd fr h Q} := @wp_unf E nt rd fr h Q _ _ s38_15.eq_1
def s38_16 : GC := .cond (.tmp 56) s38_15 .skip
def s38_16_w {E nt rd fr h Q} := @wp_unf E nt rd fr h Q _ _ s38_16.eq_1
def p38_17 : List (GO × List GO) := [(⟨none, some 32, .move (.tmp 0)⟩, []),
  (⟨none, some 33, .nilCheck (.tmp 32)⟩, []),
  (⟨none, some 34, .fieldAddr 148 (.tmp 33) 3⟩, []),
  (⟨none, some 35, .load 146 (.tmp 34)⟩, []),
  (⟨none, some 36, .move (.tmp 12)⟩, []),
  (⟨none, some 37, .indexAddr 146 (.tmp 35) (.tmp 36)⟩, []),
  (⟨none, some 38, .fieldAddr 167 (.tmp 37) 0⟩, []),
  (⟨none, some 39, .load 3 (.tmp 38)⟩, []),
  (⟨none, some 40, .move (.tmp 1)⟩, []),
  (⟨none, some 41, .binOp .eql 3 (.tmp 39) (.tmp 40) 3⟩, []),
  (⟨none, some 42, .move (.tmp 41)⟩, []),
  (⟨some (42, true), some 43, .fieldAddr 112 (.tmp 9) 2⟩, []),
  (⟨some (42, true), some 44, .load 110 (.tmp 43)⟩, []),
  (⟨some (42, true), some 45, .move (.tmp 0)⟩, []),
  (⟨some (42, true), some 46, .nilCheck (.tmp 45)⟩, []),
  (⟨some (42, true), some 47, .fieldAddr 148 (.tmp 46) 3⟩, []),
  (⟨some (42, true), some 48, .load 146 (.tmp 47)⟩, []),
  (⟨some (42, true), some 49, .move (.tmp 12)⟩, []),
  (⟨some (42, true), some 50, .indexAddr 146 (.tmp 48) (.tmp 49)⟩, []),
  (⟨some (42, true), some 51, .fieldAddr 167 (.tmp 50) 4⟩, []),
  (⟨some (42, true), some 52, .fieldAddr 112 (.tmp 51) 2⟩, []),
  (⟨some (42, true), some 53, .load 110 (.tmp 52)⟩, []),
  (⟨some (42, true), some 54, .call ⟨.value (.func 65), ⟨[.tmp 44, .tmp 53]⟩, ⟨[110, 110]⟩⟩⟩, []),
  (⟨some (42, true), some 55, .unOp .not 4 (.tmp 54)⟩, []),
  (⟨none, some 56, .pick (.tmp 42) (.tmp 55) (.const (.bool false))⟩, [])]
def p38_17_w {E fr h Q} := @planW_unf E fr h Q _ _ p38_17.eq_1
def s38_18 : GC := .seq (.plan p38_17) s38_16
def s38_18_w {E nt rd fr h Q} := @wp_unf E nt rd fr h Q _ _ s38_18.eq_1
def s38_19 : GC := .seq (.block 1 s38_18) s38_13
def s38_19_w {E nt rd fr h Q} := @wp_unf E nt rd fr h Q _ _ s38_19.eq_1
def s38_20 : GC := .cond (.tmp 29) .skip (.exit 0)
def s38_20_w {E nt rd fr h Q} := @wp_unf E nt rd fr h Q _ _ s38_20.eq_1
def r38_21 : List GO := [⟨none, some 23, .move (.tmp 12)⟩,
  ⟨none, some 24, .move (.tmp 0)⟩,
  ⟨none, some 25, .nilCheck (.tmp 24)⟩,
  ⟨none, some 26, .fieldAddr 148 (.tmp 25) 3⟩,
  ⟨none, some 27, .load 146 (.tmp 26)⟩,
  ⟨none, some 28, .call ⟨.builtin .len, ⟨[.tmp 27]⟩, ⟨[146]⟩⟩⟩,
  ⟨none, some 29, .binOp .lss 3 (.tmp 23) (.tmp 28) 3⟩]
def r38_21_w {E fr h Q} := @opsW_unf E fr h Q _ _ r38_21.eq_1
def s38_22 : GC := .seq (.ops r38_21) s38_20
def s38_22_w {E nt rd fr h Q} := @wp_unf E nt rd fr h Q _ _ s38_22.eq_1
def s38_23 : GC := .seq (s38_22) s38_19
def s38_23_w {E nt rd fr h Q} := @wp_unf E nt rd fr h Q _ _ s38_23.eq_1
def s38_24 : GC := .loop s38_23
def s38_24_w {E nt rd fr h Q} := @wp_unf E nt rd fr h Q _ _ s38_24.eq_1
def s38_25 : GC := .block 0 s38_24
def s38_25_w {E nt rd fr h Q} := @wp_unf E nt rd fr h Q _ _ s38_25.eq_1
def r38_26 : List GO := [⟨none, some 12, .assign (.const (.int .i64 0))⟩]
def r38_26_w {E fr h Q} := @opsW_unf E fr h Q _ _ r38_26.eq_1
def s38_27 : GC := .seq (.ops r38_26) s38_25
def s38_27_w {E nt rd fr h Q} := @wp_unf E nt rd fr h Q _ _ s38_27.eq_1
def s38_28 : GC := .seq (s38_27) s38_11
def s38_28_w {E nt rd fr h Q} := @wp_unf E nt rd fr h Q _ _ s38_28.eq_1
def r38_29 : List GO := [⟨none, some 10, .assign (.const (.int .i64 2))⟩]
def r38_29_w {E fr h Q} := @opsW_unf E fr h Q _ _ r38_29.eq_1
def s38_30 : GC := .seq (.ops r38_29) .ret
def s38_30_w {E nt rd fr h Q} := @wp_unf E nt rd fr h Q _ _ s38_30.eq_1
def s38_31 : GC := .cond (.tmp 22) s38_30 .skip
def s38_31_w {E nt rd fr h Q} := @wp_unf E nt rd fr h Q _ _ s38_31.eq_1
def r38_32 : List GO := [⟨none, some 20, .load 112 (.tmp 9)⟩,
  ⟨none, some 21, .call ⟨.value (.func 64), ⟨[.tmp 20]⟩, ⟨[112]⟩⟩⟩,
  ⟨none, some 22, .unOp .not 4 (.tmp 21)⟩]
def r38_32_w {E fr h Q} := @opsW_unf E fr h Q _ _ r38_32.eq_1
def s38_33 : GC := .seq (.ops r38_32) s38_31
def s38_33_w {E nt rd fr h Q} := @wp_unf E nt rd fr h Q _ _ s38_33.eq_1
def s38_34 : GC := .seq (s38_33) s38_28
def s38_34_w {E nt rd fr h Q} := @wp_unf E nt rd fr h Q _ _ s38_34.eq_1
def r38_35 : List GO := [⟨none, some 19, .move (.tmp 11)⟩,
  ⟨none, some 10, .assign (.tmp 19)⟩]
def r38_35_w {E fr h Q} := @opsW_unf E fr h Q _ _ r38_35.eq_1
def s38_36 : GC := .seq (.ops r38_35) .ret
def s38_36_w {E nt rd fr h Q} := @wp_unf E nt rd fr h Q _ _ s38_36.eq_1
def s38_37 : GC := .cond (.tmp 18) s38_36 .skip
def s38_37_w {E nt rd fr h Q} := @wp_unf E nt rd fr h Q _ _ s38_37.eq_1
def r38_38 : List GO := [⟨none, some 17, .move (.tmp 11)⟩,
  ⟨none, some 18, .binOp .neq 3 (.tmp 17) (.const (.int .i64 0)) 3⟩]
def r38_38_w {E fr h Q} := @opsW_unf E fr h Q _ _ r38_38.eq_1
def s38_39 : GC := .seq (.ops r38_38) s38_37
def s38_39_w {E nt rd fr h Q} := @wp_unf E nt rd fr h Q _ _ s38_39.eq_1
def r38_40 : List GO := [⟨none, some 13, .move (.tmp 0)⟩,
  ⟨none, some 14, .move (.tmp 2)⟩,
  ⟨none, some 15, .move (.tmp 3)⟩,
  ⟨none, some 16, .call ⟨.value (.func 63), ⟨[.tmp 13, .tmp 14, .tmp 15]⟩, ⟨[85, 3, 3]⟩⟩⟩,
  ⟨none, some 11, .assign (.tmp 16)⟩]
def r38_40_w {E fr h Q} := @opsW_unf E fr h Q _ _ r38_40.eq_1
def s38_41 : GC := .seq (.ops r38_40) s38_39
def s38_41_w {E nt rd fr h Q} := @wp_unf E nt rd fr h Q _ _ s38_41.eq_1
def s38_42 : GC := .seq (s38_41) s38_34
def s38_42_w {E nt rd fr h Q} := @wp_unf E nt rd fr h Q _ _ s38_42.eq_1
def r38_43 : List GO := [⟨none, some 9, .box 112 (.tmp 4)⟩,
  ⟨none, some 10, .assign (.const (.int .i64 0))⟩]
def r38_43_w {E fr h Q} := @opsW_unf E fr h Q _ _ r38_43.eq_1
def s38_44 : GC := .seq (.ops r38_43) s38_42
def s38_44_w {E nt rd fr h Q} := @wp_unf E nt rd fr h Q _ _ s38_44.eq_1
theorem c38 : Try.f38.body.bind (clean env 93) = some s38_44 := by kernel_rfl
theorem e38 : env.funs.get 38 = some Try.f38 := by kernel_rfl
theorem F38 {args : List Value} {h : Heap} {K : Value → Heap → Prop} (hl : args.length = 5) (w : s38_44.wp env 93 none (setAll args 0 .leaf) h (resK env [.tmp 10] K)) : Ret env (.func 38) args h K :=
  Ret.of_body' rfl e38 c38 rfl rfl (by rw [hl]; decide) w
/-! (*helmsman/helmsmanref08.Contexts).put -/
def r57_0 : List GO := [⟨none, some 68, .move (.tmp 6)⟩,
  ⟨none, some 69, .move (.tmp 0)⟩,
  ⟨none, some 70, .nilCheck (.tmp 69)⟩,
  ⟨none, some 71, .fieldAddr 134 (.tmp 70) 0⟩,
  ⟨none, some 72, .load 132 (.tmp 71)⟩,
  ⟨none, some 73, .move (.tmp 6)⟩,
  ⟨none, some 74, .indexAddr 132 (.tmp 72) (.tmp 73)⟩,
  ⟨none, some 75, .fieldAddr 139 (.tmp 74) 0⟩,
  ⟨none, some 76, .load 22 (.tmp 75)⟩,
  ⟨none, some 77, .build 59 ⟨[(0, .tmp 68), (1, .tmp 76)]⟩⟩,
  ⟨none, none, .store 59 (.tmp 4) (.tmp 77)⟩,
  ⟨none, some 5, .assign (.const (.int .i64 0))⟩]
def r57_0_w {E fr h Q} := @opsW_unf E fr h Q _ _ r57_0.eq_1
def s57_1 : GC := .seq (.ops r57_0) .ret
def s57_1_w {E nt rd fr h Q} := @wp_unf E nt rd fr h Q _ _ s57_1.eq_1
def p57_2 : List (GO × List GO) := [(⟨none, some 60, .move (.tmp 0)⟩, []),
  (⟨none, some 61, .nilCheck (.tmp 60)⟩, []),
  (⟨none, some 62, .fieldAddr 134 (.tmp 61) 0⟩, []),
  (⟨none, some 63, .load 132 (.tmp 62)⟩, []),
  (⟨none, some 64, .move (.tmp 6)⟩, []),
  (⟨none, some 65, .load 137 (.tmp 3)⟩, []),
  (⟨none, some 66, .indexAddr 132 (.tmp 63) (.tmp 64)⟩, []),
  (⟨none, some 67, .fieldAddr 139 (.tmp 66) 2⟩, []),
  (⟨none, none, .store 137 (.tmp 67) (.tmp 65)⟩, [])]
def p57_2_w {E fr h Q} := @planW_unf E fr h Q _ _ p57_2.eq_1
def s57_3 : GC := .seq (.plan p57_2) s57_1
def s57_3_w {E nt rd fr h Q} := @wp_unf E nt rd fr h Q _ _ s57_3.eq_1
def r57_4 : List GO := [⟨none, some 53, .move (.tmp 0)⟩,
  ⟨none, some 54, .nilCheck (.tmp 53)⟩,
  ⟨none, some 55, .fieldAddr 134 (.tmp 54) 0⟩,
  ⟨none, some 56, .load 132 (.tmp 55)⟩,
  ⟨none, some 57, .move (.tmp 6)⟩,
  ⟨none, some 58, .indexAddr 132 (.tmp 56) (.tmp 57)⟩,
  ⟨none, some 59, .fieldAddr 139 (.tmp 58) 1⟩,
  ⟨none, none, .store 4 (.tmp 59) (.const (.bool true))⟩]
def r57_4_w {E fr h Q} := @opsW_unf E fr h Q _ _ r57_4.eq_1
def s57_5 : GC := .seq (.ops r57_4) s57_3
def s57_5_w {E nt rd fr h Q} := @wp_unf E nt rd fr h Q _ _ s57_5.eq_1
def r57_6 : List GO := [⟨none, some 52, .build 59 ⟨[]⟩⟩,
  ⟨none, none, .store 59 (.tmp 4) (.tmp 52)⟩,
  ⟨none, some 5, .assign (.const (.int .i64 3))⟩]
def r57_6_w {E fr h Q} := @opsW_unf E fr h Q _ _ r57_6.eq_1
def s57_7 : GC := .seq (.ops r57_6) .ret
def s57_7_w {E nt rd fr h Q} := @wp_unf E nt rd fr h Q _ _ s57_7.eq_1
def s57_8 : GC := .cond (.tmp 51) s57_7 .skip
def s57_8_w {E nt rd fr h Q} := @wp_unf E nt rd fr h Q _ _ s57_8.eq_1
def r57_9 : List GO := [⟨none, some 50, .move (.tmp 6)⟩,
  ⟨none, some 51, .binOp .lss 3 (.tmp 50) (.const (.int .i64 0)) 3⟩]
def r57_9_w {E fr h Q} := @opsW_unf E fr h Q _ _ r57_9.eq_1
def s57_10 : GC := .seq (.ops r57_9) s57_8
def s57_10_w {E nt rd fr h Q} := @wp_unf E nt rd fr h Q _ _ s57_10.eq_1
def s57_11 : GC := .seq (s57_10) s57_5
def s57_11_w {E nt rd fr h Q} := @wp_unf E nt rd fr h Q _ _ s57_11.eq_1
def r57_12 : List GO := [⟨none, some 15, .move (.tmp 7)⟩,
  ⟨none, some 16, .binOp .add 3 (.tmp 15) (.const (.int .i64 1)) 3⟩,
  ⟨none, some 7, .assign (.tmp 16)⟩]
def r57_12_w {E fr h Q} := @opsW_unf E fr h Q _ _ r57_12.eq_1
def s57_13 : GC := .ops r57_12
def s57_13_w {E nt rd fr h Q} := @wp_unf E nt rd fr h Q _ _ s57_13.eq_1
def r57_14 : List GO := [⟨none, some 49, .move (.tmp 7)⟩,
  ⟨none, some 6, .assign (.tmp 49)⟩]
def r57_14_w {E fr h Q} := @opsW_unf E fr h Q _ _ r57_14.eq_1
def s57_15 : GC := .ops r57_14
def s57_15_w {E nt rd fr h Q} := @wp_unf E nt rd fr h Q _ _ s57_15.eq_1
def s57_16 : GC := .cond (.tmp 48) s57_15 .skip
def s57_16_w {E nt rd fr h Q} := @wp_unf E nt rd fr h Q _ _ s57_16.eq_1
def p57_17 : List (GO × List GO) := [(⟨none, some 17, .move (.tmp 0)⟩, []),
  (⟨none, some 18, .nilCheck (.tmp 17)⟩, []),
  (⟨none, some 19, .fieldAddr 134 (.tmp 18) 0⟩, []),
  (⟨none, some 20, .load 132 (.tmp 19)⟩, []),
  (⟨none, some 21, .move (.tmp 7)⟩, []),
  (⟨none, some 22, .indexAddr 132 (.tmp 20) (.tmp 21)⟩, []),
  (⟨none, some 23, .fieldAddr 139 (.tmp 22) 1⟩, []),
  (⟨none, some 24, .load 4 (.tmp 23)⟩, []),
  (⟨none, some 25, .unOp .not 4 (.tmp 24)⟩, []),
  (⟨none, some 26, .move (.tmp 25)⟩, []),
  (⟨some (26, true), some 27, .move (.tmp 6)⟩, []),
  (⟨some (26, true), some 28, .binOp .lss 3 (.tmp 27) (.const (.int .i64 0)) 3⟩, []),
  (⟨some (26, true), some 29, .move (.tmp 28)⟩, []),
  (⟨some (29, false), some 30, .move (.tmp 0)⟩, []),
  (⟨some (29, false), some 31, .nilCheck (.tmp 30)⟩, []),
  (⟨some (29, false), some 32, .fieldAddr 134 (.tmp 31) 0⟩, []),
  (⟨some (29, false), some 33, .load 132 (.tmp 32)⟩, []),
  (⟨some (29, false), some 34, .move (.tmp 7)⟩, []),
  (⟨some (29, false), some 35, .indexAddr 132 (.tmp 33) (.tmp 34)⟩, []),
  (⟨some (29, false), some 36, .fieldAddr 139 (.tmp 35) 3⟩, []),
  (⟨some (29, false), some 37, .load 3 (.tmp 36)⟩, []),
  (⟨some (29, false), some 38, .move (.tmp 0)⟩, []),
  (⟨some (29, false), some 39, .nilCheck (.tmp 38)⟩, []),
  (⟨some (29, false), some 40, .fieldAddr 134 (.tmp 39) 0⟩, []),
  (⟨some (29, false), some 41, .load 132 (.tmp 40)⟩, []),
  (⟨some (29, false), some 42, .move (.tmp 6)⟩, []),
  (⟨some (29, false), some 43, .indexAddr 132 (.tmp 41) (.tmp 42)⟩, []),
  (⟨some (29, false), some 44, .fieldAddr 139 (.tmp 43) 3⟩, []),
  (⟨some (29, false), some 45, .load 3 (.tmp 44)⟩, []),
  (⟨some (29, false), some 46, .binOp .gtr 3 (.tmp 37) (.tmp 45) 3⟩, []),
  (⟨some (26, true), some 47, .pick (.tmp 29) (.const (.bool true)) (.tmp 46)⟩, []),
  (⟨none, some 48, .pick (.tmp 26) (.tmp 47) (.const (.bool false))⟩, [])]
def p57_17_w {E fr h Q} := @planW_unf E fr h Q _ _ p57_17.eq_1
def s57_18 : GC := .seq (.plan p57_17) s57_16
def s57_18_w {E nt rd fr h Q} := @wp_unf E nt rd fr h Q _ _ s57_18.eq_1
def s57_19 : GC := .seq (.block 1 s57_18) s57_13
def s57_19_w {E nt rd fr h Q} := @wp_unf E nt rd fr h Q _ _ s57_19.eq_1
def s57_20 : GC := .cond (.tmp 14) .skip (.exit 0)
def s57_20_w {E nt rd fr h Q} := @wp_unf E nt rd fr h Q _ _ s57_20.eq_1
def r57_21 : List GO := [⟨none, some 8, .move (.tmp 7)⟩,
  ⟨none, some 9, .move (.tmp 0)⟩,
  ⟨none, some 10, .nilCheck (.tmp 9)⟩,
  ⟨none, some 11, .fieldAddr 134 (.tmp 10) 0⟩,
  ⟨none, some 12, .load 132 (.tmp 11)⟩,
  ⟨none, some 13, .call ⟨.builtin .len, ⟨[.tmp 12]⟩, ⟨[132]⟩⟩⟩,
  ⟨none, some 14, .binOp .lss 3 (.tmp 8) (.tmp 13) 3⟩]
def r57_21_w {E fr h Q} := @opsW_unf E fr h Q _ _ r57_21.eq_1
def s57_22 : GC := .seq (.ops r57_21) s57_20
def s57_22_w {E nt rd fr h Q} := @wp_unf E nt rd fr h Q _ _ s57_22.eq_1
def s57_23 : GC := .seq (s57_22) s57_19
def s57_23_w {E nt rd fr h Q} := @wp_unf E nt rd fr h Q _ _ s57_23.eq_1
def s57_24 : GC := .loop s57_23
def s57_24_w {E nt rd fr h Q} := @wp_unf E nt rd fr h Q _ _ s57_24.eq_1
def s57_25 : GC := .block 0 s57_24
def s57_25_w {E nt rd fr h Q} := @wp_unf E nt rd fr h Q _ _ s57_25.eq_1
def r57_26 : List GO := [⟨none, some 7, .assign (.const (.int .i64 0))⟩]
def r57_26_w {E fr h Q} := @opsW_unf E fr h Q _ _ r57_26.eq_1
def s57_27 : GC := .seq (.ops r57_26) s57_25
def s57_27_w {E nt rd fr h Q} := @wp_unf E nt rd fr h Q _ _ s57_27.eq_1
def s57_28 : GC := .seq (s57_27) s57_11
def s57_28_w {E nt rd fr h Q} := @wp_unf E nt rd fr h Q _ _ s57_28.eq_1
def r57_29 : List GO := [⟨none, some 6, .assign (.const (.int .i64 (-1)))⟩]
def r57_29_w {E fr h Q} := @opsW_unf E fr h Q _ _ r57_29.eq_1
def s57_30 : GC := .seq (.ops r57_29) s57_28
def s57_30_w {E nt rd fr h Q} := @wp_unf E nt rd fr h Q _ _ s57_30.eq_1
def r57_31 : List GO := [⟨none, some 3, .box 137 (.tmp 1)⟩,
  ⟨none, some 4, .alloc 59⟩,
  ⟨none, some 5, .assign (.const (.int .i64 0))⟩]
def r57_31_w {E fr h Q} := @opsW_unf E fr h Q _ _ r57_31.eq_1
def s57_32 : GC := .seq (.ops r57_31) s57_30
def s57_32_w {E nt rd fr h Q} := @wp_unf E nt rd fr h Q _ _ s57_32.eq_1
theorem c57 : Try.f57.body.bind (clean env 78) = some s57_32 := by kernel_rfl
theorem e57 : env.funs.get 57 = some Try.f57 := by kernel_rfl
theorem F57 {args : List Value} {h : Heap} {K : Value → Heap → Prop} (hl : args.length = 2) (w : s57_32.wp env 78 none (setAll args 0 .leaf) h (resK env [.cell 4 59, .tmp 5] K)) : Ret env (.func 57) args h K :=
  Ret.of_body' rfl e57 c57 rfl rfl (by rw [hl]; decide) w
/-! (*helmsman/helmsmanref09.Domains).Is -/
def p58_0 : List (GO × List GO) := [(⟨none, some 5, .fieldAddr 59 (.tmp 3) 0⟩, []),
  (⟨none, some 6, .load 3 (.tmp 5)⟩, []),
  (⟨none, some 7, .binOp .geq 3 (.tmp 6) (.const (.int .i64 0)) 3⟩, []),
  (⟨none, some 8, .move (.tmp 7)⟩, []),
  (⟨some (8, true), some 9, .fieldAddr 59 (.tmp 3) 0⟩, []),
  (⟨some (8, true), some 10, .load 3 (.tmp 9)⟩, []),
  (⟨some (8, true), some 11, .move (.tmp 0)⟩, []),
  (⟨some (8, true), some 12, .nilCheck (.tmp 11)⟩, []),
  (⟨some (8, true), some 13, .fieldAddr 142 (.tmp 12) 0⟩, []),
  (⟨some (8, true), some 14, .load 140 (.tmp 13)⟩, []),
  (⟨some (8, true), some 15, .call ⟨.builtin .len, ⟨[.tmp 14]⟩, ⟨[140]⟩⟩⟩, []),
  (⟨some (8, true), some 16, .binOp .lss 3 (.tmp 10) (.tmp 15) 3⟩, []),
  (⟨none, some 17, .pick (.tmp 8) (.tmp 16) (.const (.bool false))⟩, []),
  (⟨none, some 18, .move (.tmp 17)⟩, []),
  (⟨some (18, true), some 19, .move (.tmp 0)⟩, []),
  (⟨some (18, true), some 20, .nilCheck (.tmp 19)⟩, []),
  (⟨some (18, true), some 21, .fieldAddr 142 (.tmp 20) 0⟩, []),
  (⟨some (18, true), some 22, .load 140 (.tmp 21)⟩, []),
  (⟨some (18, true), some 23, .fieldAddr 59 (.tmp 3) 0⟩, []),
  (⟨some (18, true), some 24, .load 3 (.tmp 23)⟩, []),
  (⟨some (18, true), some 25, .indexAddr 140 (.tmp 22) (.tmp 24)⟩, []),
  (⟨some (18, true), some 26, .fieldAddr 144 (.tmp 25) 1⟩, []),
  (⟨some (18, true), some 27, .load 4 (.tmp 26)⟩, []),
  (⟨none, some 28, .pick (.tmp 18) (.tmp 27) (.const (.bool false))⟩, []),
  (⟨none, some 29, .move (.tmp 28)⟩, []),
  (⟨some (29, true), some 30, .move (.tmp 0)⟩, []),
  (⟨some (29, true), some 31, .nilCheck (.tmp 30)⟩, []),
  (⟨some (29, true), some 32, .fieldAddr 142 (.tmp 31) 0⟩, []),
  (⟨some (29, true), some 33, .load 140 (.tmp 32)⟩, []),
  (⟨some (29, true), some 34, .fieldAddr 59 (.tmp 3) 0⟩, []),
  (⟨some (29, true), some 35, .load 3 (.tmp 34)⟩, []),
  (⟨some (29, true), some 36, .indexAddr 140 (.tmp 33) (.tmp 35)⟩, []),
  (⟨some (29, true), some 37, .fieldAddr 144 (.tmp 36) 0⟩, []),
  (⟨some (29, true), some 38, .load 22 (.tmp 37)⟩, []),
  (⟨some (29, true), some 39, .fieldAddr 59 (.tmp 3) 1⟩, []),
  (⟨some (29, true), some 40, .load 22 (.tmp 39)⟩, []),
  (⟨some (29, true), some 41, .binOp .eql 22 (.tmp 38) (.tmp 40) 22⟩, []),
  (⟨none, some 42, .pick (.tmp 29) (.tmp 41) (.const (.bool false))⟩, []),
  (⟨none, some 4, .assign (.tmp 42)⟩, [])]
def p58_0_w {E fr h Q} := @planW_unf E fr h Q _ _ p58_0.eq_1
def s58_1 : GC := .seq (.plan p58_0) .ret
def s58_1_w {E nt rd fr h Q} := @wp_unf E nt rd fr h Q _ _ s58_1.eq_1
def r58_2 : List GO := [⟨none, some 3, .box 59 (.tmp 1)⟩,
  ⟨none, some 4, .assign (.const (.bool false))⟩]
def r58_2_w {E fr h Q} := @opsW_unf E fr h Q _ _ r58_2.eq_1
def s58_3 : GC := .seq (.ops r58_2) s58_1
def s58_3_w {E nt rd fr h Q} := @wp_unf E nt rd fr h Q _ _ s58_3.eq_1
theorem c58 : Try.f58.body.bind (clean env 43) = some s58_3 := by kernel_rfl
theorem e58 : env.funs.get 58 = some Try.f58 := by kernel_rfl
theorem F58 {args : List Value} {h : Heap} {K : Value → Heap → Prop} (hl : args.length = 2) (w : s58_3.wp env 43 none (setAll args 0 .leaf) h (resK env [.tmp 4] K)) : Ret env (.func 58) args h K :=
  Ret.of_body' rfl e58 c58 rfl rfl (by rw [hl]; decide) w
/-! (*helmsman/helmsmanref09.Domains).Get -/
def r59_0 : List GO := [⟨none, some 109, .load 160 (.tmp 6)⟩,
  ⟨none, none, .store 160 (.tmp 4) (.tmp 109)⟩]
def r59_0_w {E fr h Q} := @opsW_unf E fr h Q _ _ r59_0.eq_1
def s59_1 : GC := .seq (.ops r59_0) .ret
def s59_1_w {E nt rd fr h Q} := @wp_unf E nt rd fr h Q _ _ s59_1.eq_1
def r59_2 : List GO := [⟨none, some 81, .move (.tmp 9)⟩,
  ⟨none, some 82, .binOp .add 3 (.tmp 81) (.const (.int .i64 1)) 3⟩,
  ⟨none, some 9, .assign (.tmp 82)⟩]
def r59_2_w {E fr h Q} := @opsW_unf E fr h Q _ _ r59_2.eq_1
def s59_3 : GC := .ops r59_2
def s59_3_w {E nt rd fr h Q} := @wp_unf E nt rd fr h Q _ _ s59_3.eq_1
def p59_4 : List (GO × List GO) := [(⟨none, some 97, .fieldAddr 160 (.tmp 6) 7⟩, []),
  (⟨none, some 98, .load 3 (.tmp 97)⟩, []),
  (⟨none, some 99, .move (.tmp 0)⟩, []),
  (⟨none, some 100, .nilCheck (.tmp 99)⟩, []),
  (⟨none, some 101, .fieldAddr 142 (.tmp 100) 0⟩, []),
  (⟨none, some 102, .load 140 (.tmp 101)⟩, []),
  (⟨none, some 103, .move (.tmp 9)⟩, []),
  (⟨none, some 104, .indexAddr 140 (.tmp 102) (.tmp 103)⟩, []),
  (⟨none, some 105, .fieldAddr 144 (.tmp 104) 6⟩, []),
  (⟨none, some 106, .load 3 (.tmp 105)⟩, []),
  (⟨none, some 107, .binOp .add 3 (.tmp 98) (.tmp 106) 3⟩, []),
  (⟨none, some 108, .fieldAddr 160 (.tmp 6) 7⟩, []),
  (⟨none, none, .store 3 (.tmp 108) (.tmp 107)⟩, [])]
def p59_4_w {E fr h Q} := @planW_unf E fr h Q _ _ p59_4.eq_1
def s59_5 : GC := .plan p59_4
def s59_5_w {E nt rd fr h Q} := @wp_unf E nt rd fr h Q _ _ s59_5.eq_1
def s59_6 : GC := .cond (.tmp 96) s59_5 .skip
def s59_6_w {E nt rd fr h Q} := @wp_unf E nt rd fr h Q _ _ s59_6.eq_1
def r59_7 : List GO := [⟨none, some 83, .move (.tmp 0)⟩,
  ⟨none, some 84, .nilCheck (.tmp 83)⟩,
  ⟨none, some 85, .fieldAddr 142 (.tmp 84) 0⟩,
  ⟨none, some 86, .load 140 (.tmp 85)⟩,
  ⟨none, some 87, .move (.tmp 9)⟩,
  ⟨none, some 88, .indexAddr 140 (.tmp 86) (.tmp 87)⟩,
  ⟨none, some 89, .fieldAddr 144 (.tmp 88) 1⟩,
  ⟨none, some 90, .load 4 (.tmp 89)⟩,
  ⟨none, some 91, .move (.tmp 90)⟩,
  ⟨some (91, true), some 92, .move (.tmp 0)⟩,
  ⟨some (91, true), some 93, .move (.tmp 9)⟩,
  ⟨some (91, true), some 94, .load 59 (.tmp 3)⟩,
  ⟨some (91, true), some 95, .call ⟨.value (.func 73), ⟨[.tmp 92, .tmp 93, .tmp 94]⟩, ⟨[84, 3, 59]⟩⟩⟩,
  ⟨none, some 96, .pick (.tmp 91) (.tmp 95) (.const (.bool false))⟩]
def r59_7_w {E fr h Q} := @opsW_unf E fr h Q _ _ r59_7.eq_1
def s59_8 : GC := .seq (.ops r59_7) s59_6
def s59_8_w {E nt rd fr h Q} := @wp_unf E nt rd fr h Q _ _ s59_8.eq_1
def s59_9 : GC := .seq (.block 3 s59_8) s59_3
def s59_9_w {E nt rd fr h Q} := @wp_unf E nt rd fr h Q _ _ s59_9.eq_1
def s59_10 : GC := .cond (.tmp 80) .skip (.exit 2)
def s59_10_w {E nt rd fr h Q} := @wp_unf E nt rd fr h Q _ _ s59_10.eq_1
def r59_11 : List GO := [⟨none, some 74, .move (.tmp 9)⟩,
  ⟨none, some 75, .move (.tmp 0)⟩,
  ⟨none, some 76, .nilCheck (.tmp 75)⟩,
  ⟨none, some 77, .fieldAddr 142 (.tmp 76) 0⟩,
  ⟨none, some 78, .load 140 (.tmp 77)⟩,
  ⟨none, some 79, .call ⟨.builtin .len, ⟨[.tmp 78]⟩, ⟨[140]⟩⟩⟩,
  ⟨none, some 80, .binOp .lss 3 (.tmp 74) (.tmp 79) 3⟩]
def r59_11_w {E fr h Q} := @opsW_unf E fr h Q _ _ r59_11.eq_1
def s59_12 : GC := .seq (.ops r59_11) s59_10
def s59_12_w {E nt rd fr h Q} := @wp_unf E nt rd fr h Q _ _ s59_12.eq_1
def s59_13 : GC := .seq (s59_12) s59_9
def s59_13_w {E nt rd fr h Q} := @wp_unf E nt rd fr h Q _ _ s59_13.eq_1
def s59_14 : GC := .loop s59_13
def s59_14_w {E nt rd fr h Q} := @wp_unf E nt rd fr h Q _ _ s59_14.eq_1
def s59_15 : GC := .block 2 s59_14
def s59_15_w {E nt rd fr h Q} := @wp_unf E nt rd fr h Q _ _ s59_15.eq_1
def r59_16 : List GO := [⟨none, some 9, .assign (.const (.int .i64 0))⟩]
def r59_16_w {E fr h Q} := @opsW_unf E fr h Q _ _ r59_16.eq_1
def s59_17 : GC := .seq (.ops r59_16) s59_15
def s59_17_w {E nt rd fr h Q} := @wp_unf E nt rd fr h Q _ _ s59_17.eq_1
def s59_18 : GC := .seq (s59_17) s59_1
def s59_18_w {E nt rd fr h Q} := @wp_unf E nt rd fr h Q _ _ s59_18.eq_1
def r59_19 : List GO := [⟨none, some 38, .move (.tmp 8)⟩,
  ⟨none, some 39, .binOp .add 3 (.tmp 38) (.const (.int .i64 1)) 3⟩,
  ⟨none, some 8, .assign (.tmp 39)⟩]
def r59_19_w {E fr h Q} := @opsW_unf E fr h Q _ _ r59_19.eq_1
def s59_20 : GC := .ops r59_19
def s59_20_w {E nt rd fr h Q} := @wp_unf E nt rd fr h Q _ _ s59_20.eq_1
def r59_21 : List GO := [⟨none, some 70, .fieldAddr 160 (.tmp 6) 9⟩,
  ⟨none, some 71, .load 3 (.tmp 70)⟩,
  ⟨none, some 72, .binOp .add 3 (.tmp 71) (.const (.int .i64 1)) 3⟩,
  ⟨none, some 73, .fieldAddr 160 (.tmp 6) 9⟩,
  ⟨none, none, .store 3 (.tmp 73) (.tmp 72)⟩]
def r59_21_w {E fr h Q} := @opsW_unf E fr h Q _ _ r59_21.eq_1
def s59_22 : GC := .ops r59_21
def s59_22_w {E nt rd fr h Q} := @wp_unf E nt rd fr h Q _ _ s59_22.eq_1
def p59_23 : List (GO × List GO) := [(⟨none, some 55, .fieldAddr 160 (.tmp 6) 5⟩, []),
  (⟨none, some 56, .load 22 (.tmp 55)⟩, []),
  (⟨none, some 57, .move (.tmp 0)⟩, []),
  (⟨none, some 58, .nilCheck (.tmp 57)⟩, []),
  (⟨none, some 59, .fieldAddr 142 (.tmp 58) 0⟩, []),
  (⟨none, some 60, .load 140 (.tmp 59)⟩, []),
  (⟨none, some 61, .move (.tmp 7)⟩, []),
  (⟨none, some 62, .move (.tmp 8)⟩, []),
  (⟨none, some 63, .indexAddr 38 (.tmp 61) (.tmp 62)⟩, []),
  (⟨none, some 64, .load 3 (.tmp 63)⟩, []),
  (⟨none, some 65, .indexAddr 140 (.tmp 60) (.tmp 64)⟩, []),
  (⟨none, some 66, .fieldAddr 144 (.tmp 65) 3⟩, []),
  (⟨none, some 67, .load 22 (.tmp 66)⟩, []),
  (⟨none, some 68, .binOp .add 22 (.tmp 56) (.tmp 67) 22⟩, []),
  (⟨none, some 69, .fieldAddr 160 (.tmp 6) 5⟩, []),
  (⟨none, none, .store 22 (.tmp 69) (.tmp 68)⟩, [])]
def p59_23_w {E fr h Q} := @planW_unf E fr h Q _ _ p59_23.eq_1
def s59_24 : GC := .seq (.plan p59_23) s59_22
def s59_24_w {E nt rd fr h Q} := @wp_unf E nt rd fr h Q _ _ s59_24.eq_1
def p59_25 : List (GO × List GO) := [(⟨none, some 40, .fieldAddr 160 (.tmp 6) 4⟩, []),
  (⟨none, some 41, .load 3 (.tmp 40)⟩, []),
  (⟨none, some 42, .move (.tmp 0)⟩, []),
  (⟨none, some 43, .nilCheck (.tmp 42)⟩, []),
  (⟨none, some 44, .fieldAddr 142 (.tmp 43) 0⟩, []),
  (⟨none, some 45, .load 140 (.tmp 44)⟩, []),
  (⟨none, some 46, .move (.tmp 7)⟩, []),
  (⟨none, some 47, .move (.tmp 8)⟩, []),
  (⟨none, some 48, .indexAddr 38 (.tmp 46) (.tmp 47)⟩, []),
  (⟨none, some 49, .load 3 (.tmp 48)⟩, []),
  (⟨none, some 50, .indexAddr 140 (.tmp 45) (.tmp 49)⟩, []),
  (⟨none, some 51, .fieldAddr 144 (.tmp 50) 2⟩, []),
  (⟨none, some 52, .load 3 (.tmp 51)⟩, []),
  (⟨none, some 53, .binOp .add 3 (.tmp 41) (.tmp 52) 3⟩, []),
  (⟨none, some 54, .fieldAddr 160 (.tmp 6) 4⟩, []),
  (⟨none, none, .store 3 (.tmp 54) (.tmp 53)⟩, [])]
def p59_25_w {E fr h Q} := @planW_unf E fr h Q _ _ p59_25.eq_1
def s59_26 : GC := .seq (.plan p59_25) s59_24
def s59_26_w {E nt rd fr h Q} := @wp_unf E nt rd fr h Q _ _ s59_26.eq_1
def s59_27 : GC := .seq (.block 1 s59_26) s59_20
def s59_27_w {E nt rd fr h Q} := @wp_unf E nt rd fr h Q _ _ s59_27.eq_1
def s59_28 : GC := .cond (.tmp 37) .skip (.exit 0)
def s59_28_w {E nt rd fr h Q} := @wp_unf E nt rd fr h Q _ _ s59_28.eq_1
def r59_29 : List GO := [⟨none, some 34, .move (.tmp 8)⟩,
  ⟨none, some 35, .move (.tmp 7)⟩,
  ⟨none, some 36, .call ⟨.builtin .len, ⟨[.tmp 35]⟩, ⟨[38]⟩⟩⟩,
  ⟨none, some 37, .binOp .lss 3 (.tmp 34) (.tmp 36) 3⟩]
def r59_29_w {E fr h Q} := @opsW_unf E fr h Q _ _ r59_29.eq_1
def s59_30 : GC := .seq (.ops r59_29) s59_28
def s59_30_w {E nt rd fr h Q} := @wp_unf E nt rd fr h Q _ _ s59_30.eq_1
def s59_31 : GC := .seq (s59_30) s59_27
def s59_31_w {E nt rd fr h Q} := @wp_unf E nt rd fr h Q _ _ s59_31.eq_1
def s59_32 : GC := .loop s59_31
def s59_32_w {E nt rd fr h Q} := @wp_unf E nt rd fr h Q _ _ s59_32.eq_1
def s59_33 : GC := .block 0 s59_32
def s59_33_w {E nt rd fr h Q} := @wp_unf E nt rd fr h Q _ _ s59_33.eq_1
def r59_34 : List GO := [⟨none, some 8, .assign (.const (.int .i64 0))⟩]
def r59_34_w {E fr h Q} := @opsW_unf E fr h Q _ _ r59_34.eq_1
def s59_35 : GC := .seq (.ops r59_34) s59_33
def s59_35_w {E nt rd fr h Q} := @wp_unf E nt rd fr h Q _ _ s59_35.eq_1
def s59_36 : GC := .seq (s59_35) s59_18
def s59_36_w {E nt rd fr h Q} := @wp_unf E nt rd fr h Q _ _ s59_36.eq_1
def r59_37 : List GO := [⟨none, some 31, .move (.tmp 0)⟩,
  ⟨none, some 32, .load 59 (.tmp 3)⟩,
  ⟨none, some 33, .call ⟨.value (.func 72), ⟨[.tmp 31, .tmp 32]⟩, ⟨[84, 59]⟩⟩⟩,
  ⟨none, some 7, .assign (.tmp 33)⟩]
def r59_37_w {E fr h Q} := @opsW_unf E fr h Q _ _ r59_37.eq_1
def s59_38 : GC := .seq (.ops r59_37) s59_36
def s59_38_w {E nt rd fr h Q} := @wp_unf E nt rd fr h Q _ _ s59_38.eq_1
def r59_39 : List GO := [⟨none, some 18, .fieldAddr 144 (.tmp 5) 5⟩,
  ⟨none, some 19, .load 59 (.tmp 18)⟩,
  ⟨none, some 20, .fieldAddr 144 (.tmp 5) 2⟩,
  ⟨none, some 21, .load 3 (.tmp 20)⟩,
  ⟨none, some 22, .fieldAddr 144 (.tmp 5) 3⟩,
  ⟨none, some 23, .load 22 (.tmp 22)⟩,
  ⟨none, some 24, .fieldAddr 144 (.tmp 5) 4⟩,
  ⟨none, some 25, .load 22 (.tmp 24)⟩,
  ⟨none, some 26, .fieldAddr 144 (.tmp 5) 6⟩,
  ⟨none, some 27, .load 3 (.tmp 26)⟩,
  ⟨none, some 28, .fieldAddr 144 (.tmp 5) 7⟩,
  ⟨none, some 29, .load 22 (.tmp 28)⟩,
  ⟨none, some 30, .build 160 ⟨[(0, .tmp 19), (1, .tmp 21), (2, .tmp 23), (3, .tmp 25), (6, .tmp 27), (8, .tmp 29)]⟩⟩,
  ⟨none, some 6, .alloc 160⟩,
  ⟨none, none, .store 160 (.tmp 6) (.tmp 30)⟩]
def r59_39_w {E fr h Q} := @opsW_unf E fr h Q _ _ r59_39.eq_1
def s59_40 : GC := .seq (.ops r59_39) s59_38
def s59_40_w {E nt rd fr h Q} := @wp_unf E nt rd fr h Q _ _ s59_40.eq_1
def p59_41 : List (GO × List GO) := [(⟨none, some 10, .move (.tmp 0)⟩, []),
  (⟨none, some 11, .nilCheck (.tmp 10)⟩, []),
  (⟨none, some 12, .fieldAddr 142 (.tmp 11) 0⟩, []),
  (⟨none, some 13, .load 140 (.tmp 12)⟩, []),
  (⟨none, some 14, .fieldAddr 59 (.tmp 3) 0⟩, []),
  (⟨none, some 15, .load 3 (.tmp 14)⟩, []),
  (⟨none, some 16, .indexAddr 140 (.tmp 13) (.tmp 15)⟩, []),
  (⟨none, some 17, .load 144 (.tmp 16)⟩, []),
  (⟨none, some 5, .alloc 144⟩, []),
  (⟨none, none, .store 144 (.tmp 5) (.tmp 17)⟩, [])]
def p59_41_w {E fr h Q} := @planW_unf E fr h Q _ _ p59_41.eq_1
def s59_42 : GC := .seq (.plan p59_41) s59_40
def s59_42_w {E nt rd fr h Q} := @wp_unf E nt rd fr h Q _ _ s59_42.eq_1
def r59_43 : List GO := [⟨none, some 3, .box 59 (.tmp 1)⟩,
  ⟨none, some 4, .alloc 160⟩]
def r59_43_w {E fr h Q} := @opsW_unf E fr h Q _ _ r59_43.eq_1
def s59_44 : GC := .seq (.ops r59_43) s59_42
def s59_44_w {E nt rd fr h Q} := @wp_unf E nt rd fr h Q _ _ s59_44.eq_1
theorem c59 : Try.f59.body.bind (clean env 110) = some s59_44 := by kernel_rfl
theorem e59 : env.funs.get 59 = some Try.f59 := by kernel_rfl
theorem F59 {args : List Value} {h : Heap} {K : Value → Heap → Prop} (hl : args.length = 2) (w : s59_44.wp env 110 none (setAll args 0 .leaf) h (resK env [.cell 4 160] K)) : Ret env (.func 59) args h K :=
  Ret.of_body' rfl e59 c59 rfl rfl (by rw [hl]; decide) w
/-! (*helmsman/helmsmanref08.Contexts).Is -/
def p60_0 : List (GO × List GO) := [(⟨none, some 5, .fieldAddr 59 (.tmp 3) 0⟩, []),
  (⟨none, some 6, .load 3 (.tmp 5)⟩, []),
  (⟨none, some 7, .binOp .geq 3 (.tmp 6) (.const (.int .i64 0)) 3⟩, []),
  (⟨none, some 8, .move (.tmp 7)⟩, []),
  (⟨some (8, true), some 9, .fieldAddr 59 (.tmp 3) 0⟩, []),
  (⟨some (8, true), some 10, .load 3 (.tmp 9)⟩, []),
  (⟨some (8, true), some 11, .move (.tmp 0)⟩, []),
  (⟨some (8, true), some 12, .nilCheck (.tmp 11)⟩, []),
  (⟨some (8, true), some 13, .fieldAddr 134 (.tmp 12) 0⟩, []),
  (⟨some (8, true), some 14, .load 132 (.tmp 13)⟩, []),
  (⟨some (8, true), some 15, .call ⟨.builtin .len, ⟨[.tmp 14]⟩, ⟨[132]⟩⟩⟩, []),
  (⟨some (8, true), some 16, .binOp .lss 3 (.tmp 10) (.tmp 15) 3⟩, []),
  (⟨none, some 17, .pick (.tmp 8) (.tmp 16) (.const (.bool false))⟩, []),
  (⟨none, some 18, .move (.tmp 17)⟩, []),
  (⟨some (18, true), some 19, .move (.tmp 0)⟩, []),
  (⟨some (18, true), some 20, .nilCheck (.tmp 19)⟩, []),
  (⟨some (18, true), some 21, .fieldAddr 134 (.tmp 20) 0⟩, []),
  (⟨some (18, true), some 22, .load 132 (.tmp 21)⟩, []),
  (⟨some (18, true), some 23, .fieldAddr 59 (.tmp 3) 0⟩, []),
  (⟨some (18, true), some 24, .load 3 (.tmp 23)⟩, []),
  (⟨some (18, true), some 25, .indexAddr 132 (.tmp 22) (.tmp 24)⟩, []),
  (⟨some (18, true), some 26, .fieldAddr 139 (.tmp 25) 1⟩, []),
  (⟨some (18, true), some 27, .load 4 (.tmp 26)⟩, []),
  (⟨none, some 28, .pick (.tmp 18) (.tmp 27) (.const (.bool false))⟩, []),
  (⟨none, some 29, .move (.tmp 28)⟩, []),
  (⟨some (29, true), some 30, .move (.tmp 0)⟩, []),
  (⟨some (29, true), some 31, .nilCheck (.tmp 30)⟩, []),
  (⟨some (29, true), some 32, .fieldAddr 134 (.tmp 31) 0⟩, []),
  (⟨some (29, true), some 33, .load 132 (.tmp 32)⟩, []),
  (⟨some (29, true), some 34, .fieldAddr 59 (.tmp 3) 0⟩, []),
  (⟨some (29, true), some 35, .load 3 (.tmp 34)⟩, []),
  (⟨some (29, true), some 36, .indexAddr 132 (.tmp 33) (.tmp 35)⟩, []),
  (⟨some (29, true), some 37, .fieldAddr 139 (.tmp 36) 0⟩, []),
  (⟨some (29, true), some 38, .load 22 (.tmp 37)⟩, []),
  (⟨some (29, true), some 39, .fieldAddr 59 (.tmp 3) 1⟩, []),
  (⟨some (29, true), some 40, .load 22 (.tmp 39)⟩, []),
  (⟨some (29, true), some 41, .binOp .eql 22 (.tmp 38) (.tmp 40) 22⟩, []),
  (⟨none, some 42, .pick (.tmp 29) (.tmp 41) (.const (.bool false))⟩, []),
  (⟨none, some 4, .assign (.tmp 42)⟩, [])]
def p60_0_w {E fr h Q} := @planW_unf E fr h Q _ _ p60_0.eq_1
def s60_1 : GC := .seq (.plan p60_0) .ret
def s60_1_w {E nt rd fr h Q} := @wp_unf E nt rd fr h Q _ _ s60_1.eq_1
def r60_2 : List GO := [⟨none, some 3, .box 59 (.tmp 1)⟩,
  ⟨none, some 4, .assign (.const (.bool false))⟩]
def r60_2_w {E fr h Q} := @opsW_unf E fr h Q _ _ r60_2.eq_1
def s60_3 : GC := .seq (.ops r60_2) s60_1
def s60_3_w {E nt rd fr h Q} := @wp_unf E nt rd fr h Q _ _ s60_3.eq_1
theorem c60 : Try.f60.body.bind (clean env 43) = some s60_3 := by kernel_rfl
theorem e60 : env.funs.get 60 = some Try.f60 := by kernel_rfl
theorem F60 {args : List Value} {h : Heap} {K : Value → Heap → Prop} (hl : args.length = 2) (w : s60_3.wp env 43 none (setAll args 0 .leaf) h (resK env [.tmp 4] K)) : Ret env (.func 60) args h K :=
  Ret.of_body' rfl e60 c60 rfl rfl (by rw [hl]; decide) w
/-! helmsman/helmsmanref16.May -/
def r61_0 : List GO := [⟨none, some 41, .fieldAddr 64 (.tmp 1) 1⟩,
  ⟨none, some 42, .load 4 (.tmp 41)⟩,
  ⟨none, some 43, .unOp .not 4 (.tmp 42)⟩,
  ⟨none, some 44, .move (.tmp 43)⟩,
  ⟨some (44, false), some 45, .fieldAddr 64 (.tmp 1) 0⟩,
  ⟨some (44, false), some 46, .load 60 (.tmp 45)⟩,
  ⟨some (44, false), some 47, .binOp .gtr 60 (.tmp 46) (.const (.int .i64 2)) 60⟩,
  ⟨none, some 48, .pick (.tmp 44) (.const (.bool true)) (.tmp 47)⟩,
  ⟨none, some 2, .assign (.tmp 48)⟩]
def r61_0_w {E fr h Q} := @opsW_unf E fr h Q _ _ r61_0.eq_1
def s61_1 : GC := .seq (.ops r61_0) .ret
def s61_1_w {E nt rd fr h Q} := @wp_unf E nt rd fr h Q _ _ s61_1.eq_1
def r61_2 : List GO := [⟨none, some 39, .fieldAddr 64 (.tmp 1) 1⟩,
  ⟨none, some 40, .load 4 (.tmp 39)⟩,
  ⟨none, some 2, .assign (.tmp 40)⟩]
def r61_2_w {E fr h Q} := @opsW_unf E fr h Q _ _ r61_2.eq_1
def s61_3 : GC := .seq (.ops r61_2) .ret
def s61_3_w {E nt rd fr h Q} := @wp_unf E nt rd fr h Q _ _ s61_3.eq_1
def s61_4 : GC := .cond (.tmp 38) s61_3 .skip
def s61_4_w {E nt rd fr h Q} := @wp_unf E nt rd fr h Q _ _ s61_4.eq_1
def r61_5 : List GO := [⟨none, some 36, .fieldAddr 64 (.tmp 1) 0⟩,
  ⟨none, some 37, .load 60 (.tmp 36)⟩,
  ⟨none, some 38, .binOp .eql 60 (.tmp 37) (.const (.int .i64 5)) 60⟩]
def r61_5_w {E fr h Q} := @opsW_unf E fr h Q _ _ r61_5.eq_1
def s61_6 : GC := .seq (.ops r61_5) s61_4
def s61_6_w {E nt rd fr h Q} := @wp_unf E nt rd fr h Q _ _ s61_6.eq_1
def s61_7 : GC := .seq (s61_6) s61_1
def s61_7_w {E nt rd fr h Q} := @wp_unf E nt rd fr h Q _ _ s61_7.eq_1
def r61_8 : List GO := [⟨none, some 2, .assign (.const (.bool false))⟩]
def r61_8_w {E fr h Q} := @opsW_unf E fr h Q _ _ r61_8.eq_1
def s61_9 : GC := .seq (.ops r61_8) .ret
def s61_9_w {E nt rd fr h Q} := @wp_unf E nt rd fr h Q _ _ s61_9.eq_1
def s61_10 : GC := .cond (.tmp 35) s61_9 .skip
def s61_10_w {E nt rd fr h Q} := @wp_unf E nt rd fr h Q _ _ s61_10.eq_1
def r61_11 : List GO := [⟨none, some 3, .fieldAddr 64 (.tmp 1) 0⟩,
  ⟨none, some 4, .load 60 (.tmp 3)⟩,
  ⟨none, some 5, .binOp .lss 60 (.tmp 4) (.const (.int .i64 1)) 60⟩,
  ⟨none, some 6, .move (.tmp 5)⟩,
  ⟨some (6, false), some 7, .fieldAddr 64 (.tmp 1) 0⟩,
  ⟨some (6, false), some 8, .load 60 (.tmp 7)⟩,
  ⟨some (6, false), some 9, .binOp .gtr 60 (.tmp 8) (.const (.int .i64 6)) 60⟩,
  ⟨none, some 10, .pick (.tmp 6) (.const (.bool true)) (.tmp 9)⟩,
  ⟨none, some 11, .move (.tmp 10)⟩,
  ⟨some (11, false), some 12, .fieldAddr 64 (.tmp 1) 9⟩,
  ⟨some (11, false), some 13, .load 22 (.tmp 12)⟩,
  ⟨some (11, false), some 14, .binOp .gtr 22 (.tmp 13) (.const (.int .u64 1152921504606846976)) 22⟩,
  ⟨none, some 15, .pick (.tmp 11) (.const (.bool true)) (.tmp 14)⟩,
  ⟨none, some 16, .move (.tmp 15)⟩,
  ⟨some (16, false), some 17, .fieldAddr 64 (.tmp 1) 9⟩,
  ⟨some (16, false), some 18, .load 22 (.tmp 17)⟩,
  ⟨some (16, false), some 19, .binOp .gtr 22 (.tmp 18) (.const (.int .u64 0)) 22⟩,
  ⟨some (16, false), some 20, .move (.tmp 19)⟩,
  ⟨some (20, true), some 21, .fieldAddr 64 (.tmp 1) 0⟩,
  ⟨some (20, true), some 22, .load 60 (.tmp 21)⟩,
  ⟨some (20, true), some 23, .binOp .neq 60 (.tmp 22) (.const (.int .i64 4)) 60⟩,
  ⟨some (16, false), some 24, .pick (.tmp 20) (.tmp 23) (.const (.bool false))⟩,
  ⟨none, some 25, .pick (.tmp 16) (.const (.bool true)) (.tmp 24)⟩,
  ⟨none, some 26, .move (.tmp 25)⟩,
  ⟨some (26, false), some 27, .fieldAddr 64 (.tmp 1) 5⟩,
  ⟨some (26, false), some 28, .load 3 (.tmp 27)⟩,
  ⟨some (26, false), some 29, .binOp .lss 3 (.tmp 28) (.const (.int .i64 0)) 3⟩,
  ⟨none, some 30, .pick (.tmp 26) (.const (.bool true)) (.tmp 29)⟩,
  ⟨none, some 31, .move (.tmp 30)⟩,
  ⟨some (31, false), some 32, .fieldAddr 64 (.tmp 1) 6⟩,
  ⟨some (31, false), some 33, .load 3 (.tmp 32)⟩,
  ⟨some (31, false), some 34, .binOp .lss 3 (.tmp 33) (.const (.int .i64 0)) 3⟩,
  ⟨none, some 35, .pick (.tmp 31) (.const (.bool true)) (.tmp 34)⟩]
def r61_11_w {E fr h Q} := @opsW_unf E fr h Q _ _ r61_11.eq_1
def s61_12 : GC := .seq (.ops r61_11) s61_10
def s61_12_w {E nt rd fr h Q} := @wp_unf E nt rd fr h Q _ _ s61_12.eq_1
def s61_13 : GC := .seq (s61_12) s61_7
def s61_13_w {E nt rd fr h Q} := @wp_unf E nt rd fr h Q _ _ s61_13.eq_1
def r61_14 : List GO := [⟨none, some 1, .box 64 (.tmp 0)⟩,
  ⟨none, some 2, .assign (.const (.bool false))⟩]
def r61_14_w {E fr h Q} := @opsW_unf E fr h Q _ _ r61_14.eq_1
def s61_15 : GC := .seq (.ops r61_14) s61_13
def s61_15_w {E nt rd fr h Q} := @wp_unf E nt rd fr h Q _ _ s61_15.eq_1
theorem c61 : Try.f61.body.bind (clean env 49) = some s61_15 := by kernel_rfl
theorem e61 : env.funs.get 61 = some Try.f61 := by kernel_rfl
theorem F61 {args : List Value} {h : Heap} {K : Value → Heap → Prop} (hl : args.length = 1) (w : s61_15.wp env 49 none (setAll args 0 .leaf) h (resK env [.tmp 2] K)) : Ret env (.func 61) args h K :=
  Ret.of_body' rfl e61 c61 rfl rfl (by rw [hl]; decide) w
/-! helmsman/helmsmanref01.Of -/
def r62_0 : List GO := [⟨none, some 31, .move (.tmp 3)⟩,
  ⟨none, some 32, .convert 3 5 (.tmp 31)⟩,
  ⟨none, some 2, .assign (.tmp 32)⟩]
def r62_0_w {E fr h Q} := @opsW_unf E fr h Q _ _ r62_0.eq_1
def s62_1 : GC := .seq (.ops r62_0) .ret
def s62_1_w {E nt rd fr h Q} := @wp_unf E nt rd fr h Q _ _ s62_1.eq_1
def r62_2 : List GO := [⟨none, some 9, .move (.tmp 4)⟩,
  ⟨none, some 10, .binOp .sub 3 (.tmp 9) (.const (.int .i64 1)) 3⟩,
  ⟨none, some 4, .assign (.tmp 10)⟩]
def r62_2_w {E fr h Q} := @opsW_unf E fr h Q _ _ r62_2.eq_1
def s62_3 : GC := .ops r62_2
def s62_3_w {E nt rd fr h Q} := @wp_unf E nt rd fr h Q _ _ s62_3.eq_1
def r62_4 : List GO := [⟨none, some 29, .move (.tmp 3)⟩,
  ⟨none, some 30, .binOp .add 3 (.tmp 29) (.const (.int .i64 1)) 3⟩,
  ⟨none, some 3, .assign (.tmp 30)⟩]
def r62_4_w {E fr h Q} := @opsW_unf E fr h Q _ _ r62_4.eq_1
def s62_5 : GC := .ops r62_4
def s62_5_w {E nt rd fr h Q} := @wp_unf E nt rd fr h Q _ _ s62_5.eq_1
def s62_6 : GC := .cond (.tmp 28) s62_5 .skip
def s62_6_w {E nt rd fr h Q} := @wp_unf E nt rd fr h Q _ _ s62_6.eq_1
def r62_7 : List GO := [⟨none, some 28, .move (.tmp 5)⟩]
def r62_7_w {E fr h Q} := @opsW_unf E fr h Q _ _ r62_7.eq_1
def s62_8 : GC := .seq (.ops r62_7) s62_6
def s62_8_w {E nt rd fr h Q} := @wp_unf E nt rd fr h Q _ _ s62_8.eq_1
def r62_9 : List GO := [⟨none, some 17, .move (.tmp 6)⟩,
  ⟨none, some 18, .binOp .add 3 (.tmp 17) (.const (.int .i64 1)) 3⟩,
  ⟨none, some 6, .assign (.tmp 18)⟩]
def r62_9_w {E fr h Q} := @opsW_unf E fr h Q _ _ r62_9.eq_1
def s62_10 : GC := .ops r62_9
def s62_10_w {E nt rd fr h Q} := @wp_unf E nt rd fr h Q _ _ s62_10.eq_1
def r62_11 : List GO := [⟨none, some 19, .move (.tmp 5)⟩,
  ⟨none, some 20, .move (.tmp 19)⟩,
  ⟨some (20, false), some 21, .move (.tmp 0)⟩,
  ⟨some (20, false), some 22, .move (.tmp 6)⟩,
  ⟨some (20, false), some 23, .indexAddr 38 (.tmp 21) (.tmp 22)⟩,
  ⟨some (20, false), some 24, .load 3 (.tmp 23)⟩,
  ⟨some (20, false), some 25, .move (.tmp 4)⟩,
  ⟨some (20, false), some 26, .binOp .eql 3 (.tmp 24) (.tmp 25) 3⟩,
  ⟨none, some 27, .pick (.tmp 20) (.const (.bool true)) (.tmp 26)⟩,
  ⟨none, some 5, .assign (.tmp 27)⟩]
def r62_11_w {E fr h Q} := @opsW_unf E fr h Q _ _ r62_11.eq_1
def s62_12 : GC := .ops r62_11
def s62_12_w {E nt rd fr h Q} := @wp_unf E nt rd fr h Q _ _ s62_12.eq_1
def s62_13 : GC := .seq (.block 3 s62_12) s62_10
def s62_13_w {E nt rd fr h Q} := @wp_unf E nt rd fr h Q _ _ s62_13.eq_1
def s62_14 : GC := .cond (.tmp 16) .skip (.exit 2)
def s62_14_w {E nt rd fr h Q} := @wp_unf E nt rd fr h Q _ _ s62_14.eq_1
def r62_15 : List GO := [⟨none, some 13, .move (.tmp 6)⟩,
  ⟨none, some 14, .move (.tmp 0)⟩,
  ⟨none, some 15, .call ⟨.builtin .len, ⟨[.tmp 14]⟩, ⟨[38]⟩⟩⟩,
  ⟨none, some 16, .binOp .lss 3 (.tmp 13) (.tmp 15) 3⟩]
def r62_15_w {E fr h Q} := @opsW_unf E fr h Q _ _ r62_15.eq_1
def s62_16 : GC := .seq (.ops r62_15) s62_14
def s62_16_w {E nt rd fr h Q} := @wp_unf E nt rd fr h Q _ _ s62_16.eq_1
def s62_17 : GC := .seq (s62_16) s62_13
def s62_17_w {E nt rd fr h Q} := @wp_unf E nt rd fr h Q _ _ s62_17.eq_1
def s62_18 : GC := .loop s62_17
def s62_18_w {E nt rd fr h Q} := @wp_unf E nt rd fr h Q _ _ s62_18.eq_1
def s62_19 : GC := .block 2 s62_18
def s62_19_w {E nt rd fr h Q} := @wp_unf E nt rd fr h Q _ _ s62_19.eq_1
def r62_20 : List GO := [⟨none, some 6, .assign (.const (.int .i64 0))⟩]
def r62_20_w {E fr h Q} := @opsW_unf E fr h Q _ _ r62_20.eq_1
def s62_21 : GC := .seq (.ops r62_20) s62_19
def s62_21_w {E nt rd fr h Q} := @wp_unf E nt rd fr h Q _ _ s62_21.eq_1
def s62_22 : GC := .seq (s62_21) s62_8
def s62_22_w {E nt rd fr h Q} := @wp_unf E nt rd fr h Q _ _ s62_22.eq_1
def r62_23 : List GO := [⟨none, some 5, .assign (.const (.bool false))⟩]
def r62_23_w {E fr h Q} := @opsW_unf E fr h Q _ _ r62_23.eq_1
def s62_24 : GC := .seq (.ops r62_23) s62_22
def s62_24_w {E nt rd fr h Q} := @wp_unf E nt rd fr h Q _ _ s62_24.eq_1
def r62_25 : List GO := [⟨none, some 11, .move (.tmp 3)⟩,
  ⟨none, some 12, .binOp .mul 3 (.const (.int .i64 2)) (.tmp 11) 3⟩,
  ⟨none, some 3, .assign (.tmp 12)⟩]
def r62_25_w {E fr h Q} := @opsW_unf E fr h Q _ _ r62_25.eq_1
def s62_26 : GC := .seq (.ops r62_25) s62_24
def s62_26_w {E nt rd fr h Q} := @wp_unf E nt rd fr h Q _ _ s62_26.eq_1
def s62_27 : GC := .seq (.block 1 s62_26) s62_3
def s62_27_w {E nt rd fr h Q} := @wp_unf E nt rd fr h Q _ _ s62_27.eq_1
def s62_28 : GC := .cond (.tmp 8) .skip (.exit 0)
def s62_28_w {E nt rd fr h Q} := @wp_unf E nt rd fr h Q _ _ s62_28.eq_1
def r62_29 : List GO := [⟨none, some 7, .move (.tmp 4)⟩,
  ⟨none, some 8, .binOp .geq 3 (.tmp 7) (.const (.int .i64 0)) 3⟩]
def r62_29_w {E fr h Q} := @opsW_unf E fr h Q _ _ r62_29.eq_1
def s62_30 : GC := .seq (.ops r62_29) s62_28
def s62_30_w {E nt rd fr h Q} := @wp_unf E nt rd fr h Q _ _ s62_30.eq_1
def s62_31 : GC := .seq (s62_30) s62_27
def s62_31_w {E nt rd fr h Q} := @wp_unf E nt rd fr h Q _ _ s62_31.eq_1
def s62_32 : GC := .loop s62_31
def s62_32_w {E nt rd fr h Q} := @wp_unf E nt rd fr h Q _ _ s62_32.eq_1
def s62_33 : GC := .block 0 s62_32
def s62_33_w {E nt rd fr h Q} := @wp_unf E nt rd fr h Q _ _ s62_33.eq_1
def r62_34 : List GO := [⟨none, some 4, .assign (.const (.int .i64 7))⟩]
def r62_34_w {E fr h Q} := @opsW_unf E fr h Q _ _ r62_34.eq_1
def s62_35 : GC := .seq (.ops r62_34) s62_33
def s62_35_w {E nt rd fr h Q} := @wp_unf E nt rd fr h Q _ _ s62_35.eq_1
def s62_36 : GC := .seq (s62_35) s62_1
def s62_36_w {E nt rd fr h Q} := @wp_unf E nt rd fr h Q _ _ s62_36.eq_1
def r62_37 : List GO := [⟨none, some 3, .assign (.const (.int .i64 0))⟩]
def r62_37_w {E fr h Q} := @opsW_unf E fr h Q _ _ r62_37.eq_1
def s62_38 : GC := .seq (.ops r62_37) s62_36
def s62_38_w {E nt rd fr h Q} := @wp_unf E nt rd fr h Q _ _ s62_38.eq_1
def r62_39 : List GO := [⟨none, some 2, .assign (.const (.int .u8 0))⟩]
def r62_39_w {E fr h Q} := @opsW_unf E fr h Q _ _ r62_39.eq_1
def s62_40 : GC := .seq (.ops r62_39) s62_38
def s62_40_w {E nt rd fr h Q} := @wp_unf E nt rd fr h Q _ _ s62_40.eq_1
theorem c62 : Try.f62.body.bind (clean env 33) = some s62_40 := by kernel_rfl
theorem e62 : env.funs.get 62 = some Try.f62 := by kernel_rfl
theorem F62 {args : List Value} {h : Heap} {K : Value → Heap → Prop} (hl : args.length = 1) (w : s62_40.wp env 33 none (setAll args 0 .leaf) h (resK env [.tmp 2] K)) : Ret env (.func 62) args h K :=
  Ret.of_body' rfl e62 c62 rfl rfl (by rw [hl]; decide) w
/-! (*helmsman/helmsmanref13.Space).Free -/
def r63_0 : List GO := [⟨none, some 6, .assign (.const (.int .i64 0))⟩]
def r63_0_w {E fr h Q} := @opsW_unf E fr h Q _ _ r63_0.eq_1
def s63_1 : GC := .seq (.ops r63_0) .ret
def s63_1_w {E nt rd fr h Q} := @wp_unf E nt rd fr h Q _ _ s63_1.eq_1
def r63_2 : List GO := [⟨none, some 6, .assign (.const (.int .i64 14))⟩]
def r63_2_w {E fr h Q} := @opsW_unf E fr h Q _ _ r63_2.eq_1
def s63_3 : GC := .seq (.ops r63_2) .ret
def s63_3_w {E nt rd fr h Q} := @wp_unf E nt rd fr h Q _ _ s63_3.eq_1
def s63_4 : GC := .cond (.tmp 16) s63_3 .skip
def s63_4_w {E nt rd fr h Q} := @wp_unf E nt rd fr h Q _ _ s63_4.eq_1
def r63_5 : List GO := [⟨none, some 12, .move (.tmp 0)⟩,
  ⟨none, some 13, .move (.tmp 1)⟩,
  ⟨none, some 14, .move (.tmp 2)⟩,
  ⟨none, some 15, .call ⟨.value (.func 75), ⟨[.tmp 12, .tmp 13, .tmp 14]⟩, ⟨[85, 3, 3]⟩⟩⟩,
  ⟨none, some 16, .binOp .geq 3 (.tmp 15) (.const (.int .i64 0)) 3⟩]
def r63_5_w {E fr h Q} := @opsW_unf E fr h Q _ _ r63_5.eq_1
def s63_6 : GC := .seq (.ops r63_5) s63_4
def s63_6_w {E nt rd fr h Q} := @wp_unf E nt rd fr h Q _ _ s63_6.eq_1
def s63_7 : GC := .seq (s63_6) s63_1
def s63_7_w {E nt rd fr h Q} := @wp_unf E nt rd fr h Q _ _ s63_7.eq_1
def r63_8 : List GO := [⟨none, some 6, .assign (.const (.int .i64 9))⟩]
def r63_8_w {E fr h Q} := @opsW_unf E fr h Q _ _ r63_8.eq_1
def s63_9 : GC := .seq (.ops r63_8) .ret
def s63_9_w {E nt rd fr h Q} := @wp_unf E nt rd fr h Q _ _ s63_9.eq_1
def s63_10 : GC := .cond (.tmp 11) s63_9 .skip
def s63_10_w {E nt rd fr h Q} := @wp_unf E nt rd fr h Q _ _ s63_10.eq_1
def r63_11 : List GO := [⟨none, some 7, .move (.tmp 0)⟩,
  ⟨none, some 8, .move (.tmp 1)⟩,
  ⟨none, some 9, .move (.tmp 2)⟩,
  ⟨none, some 10, .call ⟨.value (.func 74), ⟨[.tmp 7, .tmp 8, .tmp 9]⟩, ⟨[85, 3, 3]⟩⟩⟩,
  ⟨none, some 11, .unOp .not 4 (.tmp 10)⟩]
def r63_11_w {E fr h Q} := @opsW_unf E fr h Q _ _ r63_11.eq_1
def s63_12 : GC := .seq (.ops r63_11) s63_10
def s63_12_w {E nt rd fr h Q} := @wp_unf E nt rd fr h Q _ _ s63_12.eq_1
def s63_13 : GC := .seq (s63_12) s63_7
def s63_13_w {E nt rd fr h Q} := @wp_unf E nt rd fr h Q _ _ s63_13.eq_1
def r63_14 : List GO := [⟨none, some 6, .assign (.const (.int .i64 0))⟩]
def r63_14_w {E fr h Q} := @opsW_unf E fr h Q _ _ r63_14.eq_1
def s63_15 : GC := .seq (.ops r63_14) s63_13
def s63_15_w {E nt rd fr h Q} := @wp_unf E nt rd fr h Q _ _ s63_15.eq_1
theorem c63 : Try.f63.body.bind (clean env 17) = some s63_15 := by kernel_rfl
theorem e63 : env.funs.get 63 = some Try.f63 := by kernel_rfl
theorem F63 {args : List Value} {h : Heap} {K : Value → Heap → Prop} (hl : args.length = 3) (w : s63_15.wp env 17 none (setAll args 0 .leaf) h (resK env [.tmp 6] K)) : Ret env (.func 63) args h K :=
  Ret.of_body' rfl e63 c63 rfl rfl (by rw [hl]; decide) w
/-! helmsman/helmsmanref13.May -/
def r64_0 : List GO := [⟨none, some 3, .fieldAddr 112 (.tmp 1) 0⟩,
  ⟨none, some 4, .load 109 (.tmp 3)⟩,
  ⟨none, some 5, .binOp .eql 109 (.tmp 4) (.const (.int .i64 1)) 109⟩,
  ⟨none, some 6, .move (.tmp 5)⟩,
  ⟨some (6, false), some 7, .fieldAddr 112 (.tmp 1) 0⟩,
  ⟨some (6, false), some 8, .load 109 (.tmp 7)⟩,
  ⟨some (6, false), some 9, .binOp .eql 109 (.tmp 8) (.const (.int .i64 2)) 109⟩,
  ⟨none, some 10, .pick (.tmp 6) (.const (.bool true)) (.tmp 9)⟩,
  ⟨none, some 11, .move (.tmp 10)⟩,
  ⟨some (11, false), some 12, .fieldAddr 112 (.tmp 1) 0⟩,
  ⟨some (11, false), some 13, .load 109 (.tmp 12)⟩,
  ⟨some (11, false), some 14, .binOp .eql 109 (.tmp 13) (.const (.int .i64 3)) 109⟩,
  ⟨none, some 15, .pick (.tmp 11) (.const (.bool true)) (.tmp 14)⟩,
  ⟨none, some 16, .move (.tmp 15)⟩,
  ⟨some (16, true), some 17, .fieldAddr 112 (.tmp 1) 1⟩,
  ⟨some (16, true), some 18, .fieldAddr 59 (.tmp 17) 0⟩,
  ⟨some (16, true), some 19, .load 3 (.tmp 18)⟩,
  ⟨some (16, true), some 20, .binOp .geq 3 (.tmp 19) (.const (.int .i64 0)) 3⟩,
  ⟨none, some 21, .pick (.tmp 16) (.tmp 20) (.const (.bool false))⟩,
  ⟨none, some 22, .move (.tmp 21)⟩,
  ⟨some (22, true), some 23, .fieldAddr 112 (.tmp 1) 1⟩,
  ⟨some (22, true), some 24, .fieldAddr 59 (.tmp 23) 1⟩,
  ⟨some (22, true), some 25, .load 22 (.tmp 24)⟩,
  ⟨some (22, true), some 26, .binOp .gtr 22 (.tmp 25) (.const (.int .u64 0)) 22⟩,
  ⟨none, some 27, .pick (.tmp 22) (.tmp 26) (.const (.bool false))⟩,
  ⟨none, some 2, .assign (.tmp 27)⟩]
def r64_0_w {E fr h Q} := @opsW_unf E fr h Q _ _ r64_0.eq_1
def s64_1 : GC := .seq (.ops r64_0) .ret
def s64_1_w {E nt rd fr h Q} := @wp_unf E nt rd fr h Q _ _ s64_1.eq_1
def r64_2 : List GO := [⟨none, some 1, .box 112 (.tmp 0)⟩,
  ⟨none, some 2, .assign (.const (.bool false))⟩]
def r64_2_w {E fr h Q} := @opsW_unf E fr h Q _ _ r64_2.eq_1
def s64_3 : GC := .seq (.ops r64_2) s64_1
def s64_3_w {E nt rd fr h Q} := @wp_unf E nt rd fr h Q _ _ s64_3.eq_1
theorem c64 : Try.f64.body.bind (clean env 28) = some s64_3 := by kernel_rfl
theorem e64 : env.funs.get 64 = some Try.f64 := by kernel_rfl
theorem F64 {args : List Value} {h : Heap} {K : Value → Heap → Prop} (hl : args.length = 1) (w : s64_3.wp env 28 none (setAll args 0 .leaf) h (resK env [.tmp 2] K)) : Ret env (.func 64) args h K :=
  Ret.of_body' rfl e64 c64 rfl rfl (by rw [hl]; decide) w
/-! helmsman/helmsmanref13.Among -/
def r65_0 : List GO := [⟨none, some 4, .assign (.const (.bool true))⟩]
def r65_0_w {E fr h Q} := @opsW_unf E fr h Q _ _ r65_0.eq_1
def s65_1 : GC := .seq (.ops r65_0) .ret
def s65_1_w {E nt rd fr h Q} := @wp_unf E nt rd fr h Q _ _ s65_1.eq_1
def r65_2 : List GO := [⟨none, some 8, .move (.tmp 5)⟩,
  ⟨none, some 9, .binOp .add 3 (.tmp 8) (.const (.int .i64 1)) 3⟩,
  ⟨none, some 5, .assign (.tmp 9)⟩]
def r65_2_w {E fr h Q} := @opsW_unf E fr h Q _ _ r65_2.eq_1
def s65_3 : GC := .ops r65_2
def s65_3_w {E nt rd fr h Q} := @wp_unf E nt rd fr h Q _ _ s65_3.eq_1
def r65_4 : List GO := [⟨none, some 20, .move (.tmp 1)⟩,
  ⟨none, some 21, .binOp .quo 110 (.tmp 20) (.const (.int .u8 2)) 110⟩,
  ⟨none, some 1, .assign (.tmp 21)⟩]
def r65_4_w {E fr h Q} := @opsW_unf E fr h Q _ _ r65_4.eq_1
def s65_5 : GC := .ops r65_4
def s65_5_w {E nt rd fr h Q} := @wp_unf E nt rd fr h Q _ _ s65_5.eq_1
def r65_6 : List GO := [⟨none, some 18, .move (.tmp 0)⟩,
  ⟨none, some 19, .binOp .quo 110 (.tmp 18) (.const (.int .u8 2)) 110⟩,
  ⟨none, some 0, .assign (.tmp 19)⟩]
def r65_6_w {E fr h Q} := @opsW_unf E fr h Q _ _ r65_6.eq_1
def s65_7 : GC := .seq (.ops r65_6) s65_5
def s65_7_w {E nt rd fr h Q} := @wp_unf E nt rd fr h Q _ _ s65_7.eq_1
def r65_8 : List GO := [⟨none, some 4, .assign (.const (.bool false))⟩]
def r65_8_w {E fr h Q} := @opsW_unf E fr h Q _ _ r65_8.eq_1
def s65_9 : GC := .seq (.ops r65_8) .ret
def s65_9_w {E nt rd fr h Q} := @wp_unf E nt rd fr h Q _ _ s65_9.eq_1
def s65_10 : GC := .cond (.tmp 17) s65_9 .skip
def s65_10_w {E nt rd fr h Q} := @wp_unf E nt rd fr h Q _ _ s65_10.eq_1
def r65_11 : List GO := [⟨none, some 10, .move (.tmp 0)⟩,
  ⟨none, some 11, .binOp .rem 110 (.tmp 10) (.const (.int .u8 2)) 110⟩,
  ⟨none, some 12, .binOp .eql 110 (.tmp 11) (.const (.int .u8 1)) 110⟩,
  ⟨none, some 13, .move (.tmp 12)⟩,
  ⟨some (13, true), some 14, .move (.tmp 1)⟩,
  ⟨some (13, true), some 15, .binOp .rem 110 (.tmp 14) (.const (.int .u8 2)) 110⟩,
  ⟨some (13, true), some 16, .binOp .eql 110 (.tmp 15) (.const (.int .u8 0)) 110⟩,
  ⟨none, some 17, .pick (.tmp 13) (.tmp 16) (.const (.bool false))⟩]
def r65_11_w {E fr h Q} := @opsW_unf E fr h Q _ _ r65_11.eq_1
def s65_12 : GC := .seq (.ops r65_11) s65_10
def s65_12_w {E nt rd fr h Q} := @wp_unf E nt rd fr h Q _ _ s65_12.eq_1
def s65_13 : GC := .seq (s65_12) s65_7
def s65_13_w {E nt rd fr h Q} := @wp_unf E nt rd fr h Q _ _ s65_13.eq_1
def s65_14 : GC := .seq (.block 1 s65_13) s65_3
def s65_14_w {E nt rd fr h Q} := @wp_unf E nt rd fr h Q _ _ s65_14.eq_1
def s65_15 : GC := .cond (.tmp 7) .skip (.exit 0)
def s65_15_w {E nt rd fr h Q} := @wp_unf E nt rd fr h Q _ _ s65_15.eq_1
def r65_16 : List GO := [⟨none, some 6, .move (.tmp 5)⟩,
  ⟨none, some 7, .binOp .lss 3 (.tmp 6) (.const (.int .i64 8)) 3⟩]
def r65_16_w {E fr h Q} := @opsW_unf E fr h Q _ _ r65_16.eq_1
def s65_17 : GC := .seq (.ops r65_16) s65_15
def s65_17_w {E nt rd fr h Q} := @wp_unf E nt rd fr h Q _ _ s65_17.eq_1
def s65_18 : GC := .seq (s65_17) s65_14
def s65_18_w {E nt rd fr h Q} := @wp_unf E nt rd fr h Q _ _ s65_18.eq_1
def s65_19 : GC := .loop s65_18
def s65_19_w {E nt rd fr h Q} := @wp_unf E nt rd fr h Q _ _ s65_19.eq_1
def s65_20 : GC := .block 0 s65_19
def s65_20_w {E nt rd fr h Q} := @wp_unf E nt rd fr h Q _ _ s65_20.eq_1
def r65_21 : List GO := [⟨none, some 5, .assign (.const (.int .i64 0))⟩]
def r65_21_w {E fr h Q} := @opsW_unf E fr h Q _ _ r65_21.eq_1
def s65_22 : GC := .seq (.ops r65_21) s65_20
def s65_22_w {E nt rd fr h Q} := @wp_unf E nt rd fr h Q _ _ s65_22.eq_1
def s65_23 : GC := .seq (s65_22) s65_1
def s65_23_w {E nt rd fr h Q} := @wp_unf E nt rd fr h Q _ _ s65_23.eq_1
def r65_24 : List GO := [⟨none, some 4, .assign (.const (.bool false))⟩]
def r65_24_w {E fr h Q} := @opsW_unf E fr h Q _ _ r65_24.eq_1
def s65_25 : GC := .seq (.ops r65_24) s65_23
def s65_25_w {E nt rd fr h Q} := @wp_unf E nt rd fr h Q _ _ s65_25.eq_1
theorem c65 : Try.f65.body.bind (clean env 22) = some s65_25 := by kernel_rfl
theorem e65 : env.funs.get 65 = some Try.f65 := by kernel_rfl
theorem F65 {args : List Value} {h : Heap} {K : Value → Heap → Prop} (hl : args.length = 2) (w : s65_25.wp env 22 none (setAll args 0 .leaf) h (resK env [.tmp 4] K)) : Ret env (.func 65) args h K :=
  Ret.of_body' rfl e65 c65 rfl rfl (by rw [hl]; decide) w
/-! (*helmsman/helmsmanref09.Domains).Children -/
def r72_0 : List GO := [⟨none, some 40, .move (.tmp 5)⟩,
  ⟨none, some 4, .assign (.tmp 40)⟩]
def r72_0_w {E fr h Q} := @opsW_unf E fr h Q _ _ r72_0.eq_1
def s72_1 : GC := .seq (.ops r72_0) .ret
def s72_1_w {E nt rd fr h Q} := @wp_unf E nt rd fr h Q _ _ s72_1.eq_1
def r72_2 : List GO := [⟨none, some 14, .move (.tmp 6)⟩,
  ⟨none, some 15, .binOp .add 3 (.tmp 14) (.const (.int .i64 1)) 3⟩,
  ⟨none, some 6, .assign (.tmp 15)⟩]
def r72_2_w {E fr h Q} := @opsW_unf E fr h Q _ _ r72_2.eq_1
def s72_3 : GC := .ops r72_2
def s72_3_w {E nt rd fr h Q} := @wp_unf E nt rd fr h Q _ _ s72_3.eq_1
def r72_4 : List GO := [⟨none, some 36, .move (.tmp 5)⟩,
  ⟨none, some 37, .move (.tmp 6)⟩,
  ⟨none, some 38, .buildSlice 38 1 ⟨[(0, .tmp 37)]⟩⟩,
  ⟨none, some 39, .call ⟨.builtin .append, ⟨[.tmp 36, .tmp 38]⟩, ⟨[38, 38]⟩⟩⟩,
  ⟨none, some 5, .assign (.tmp 39)⟩]
def r72_4_w {E fr h Q} := @opsW_unf E fr h Q _ _ r72_4.eq_1
def s72_5 : GC := .ops r72_4
def s72_5_w {E nt rd fr h Q} := @wp_unf E nt rd fr h Q _ _ s72_5.eq_1
def s72_6 : GC := .cond (.tmp 35) s72_5 .skip
def s72_6_w {E nt rd fr h Q} := @wp_unf E nt rd fr h Q _ _ s72_6.eq_1
def p72_7 : List (GO × List GO) := [(⟨none, some 16, .move (.tmp 0)⟩, []),
  (⟨none, some 17, .nilCheck (.tmp 16)⟩, []),
  (⟨none, some 18, .fieldAddr 142 (.tmp 17) 0⟩, []),
  (⟨none, some 19, .load 140 (.tmp 18)⟩, []),
  (⟨none, some 20, .move (.tmp 6)⟩, []),
  (⟨none, some 21, .indexAddr 140 (.tmp 19) (.tmp 20)⟩, []),
  (⟨none, some 22, .fieldAddr 144 (.tmp 21) 1⟩, []),
  (⟨none, some 23, .load 4 (.tmp 22)⟩, []),
  (⟨none, some 24, .move (.tmp 23)⟩, []),
  (⟨some (24, true), some 25, .move (.tmp 0)⟩, []),
  (⟨some (24, true), some 26, .nilCheck (.tmp 25)⟩, []),
  (⟨some (24, true), some 27, .fieldAddr 142 (.tmp 26) 0⟩, []),
  (⟨some (24, true), some 28, .load 140 (.tmp 27)⟩, []),
  (⟨some (24, true), some 29, .move (.tmp 6)⟩, []),
  (⟨some (24, true), some 30, .indexAddr 140 (.tmp 28) (.tmp 29)⟩, []),
  (⟨some (24, true), some 31, .fieldAddr 144 (.tmp 30) 5⟩, []),
  (⟨some (24, true), some 32, .load 59 (.tmp 31)⟩, []),
  (⟨some (24, true), some 33, .load 59 (.tmp 3)⟩, []),
  (⟨some (24, true), some 34, .binOp .eql 59 (.tmp 32) (.tmp 33) 59⟩, []),
  (⟨none, some 35, .pick (.tmp 24) (.tmp 34) (.const (.bool false))⟩, [])]
def p72_7_w {E fr h Q} := @planW_unf E fr h Q _ _ p72_7.eq_1
def s72_8 : GC := .seq (.plan p72_7) s72_6
def s72_8_w {E nt rd fr h Q} := @wp_unf E nt rd fr h Q _ _ s72_8.eq_1
def s72_9 : GC := .seq (.block 1 s72_8) s72_3
def s72_9_w {E nt rd fr h Q} := @wp_unf E nt rd fr h Q _ _ s72_9.eq_1
def s72_10 : GC := .cond (.tmp 13) .skip (.exit 0)
def s72_10_w {E nt rd fr h Q} := @wp_unf E nt rd fr h Q _ _ s72_10.eq_1
def r72_11 : List GO := [⟨none, some 7, .move (.tmp 6)⟩,
  ⟨none, some 8, .move (.tmp 0)⟩,
  ⟨none, some 9, .nilCheck (.tmp 8)⟩,
  ⟨none, some 10, .fieldAddr 142 (.tmp 9) 0⟩,
  ⟨none, some 11, .load 140 (.tmp 10)⟩,
  ⟨none, some 12, .call ⟨.builtin .len, ⟨[.tmp 11]⟩, ⟨[140]⟩⟩⟩,
  ⟨none, some 13, .binOp .lss 3 (.tmp 7) (.tmp 12) 3⟩]
def r72_11_w {E fr h Q} := @opsW_unf E fr h Q _ _ r72_11.eq_1
def s72_12 : GC := .seq (.ops r72_11) s72_10
def s72_12_w {E nt rd fr h Q} := @wp_unf E nt rd fr h Q _ _ s72_12.eq_1
def s72_13 : GC := .seq (s72_12) s72_9
def s72_13_w {E nt rd fr h Q} := @wp_unf E nt rd fr h Q _ _ s72_13.eq_1
def s72_14 : GC := .loop s72_13
def s72_14_w {E nt rd fr h Q} := @wp_unf E nt rd fr h Q _ _ s72_14.eq_1
def s72_15 : GC := .block 0 s72_14
def s72_15_w {E nt rd fr h Q} := @wp_unf E nt rd fr h Q _ _ s72_15.eq_1
def r72_16 : List GO := [⟨none, some 6, .assign (.const (.int .i64 0))⟩]
def r72_16_w {E fr h Q} := @opsW_unf E fr h Q _ _ r72_16.eq_1
def s72_17 : GC := .seq (.ops r72_16) s72_15
def s72_17_w {E nt rd fr h Q} := @wp_unf E nt rd fr h Q _ _ s72_17.eq_1
def s72_18 : GC := .seq (s72_17) s72_1
def s72_18_w {E nt rd fr h Q} := @wp_unf E nt rd fr h Q _ _ s72_18.eq_1
def r72_19 : List GO := [⟨none, some 5, .assign (.const (.slice none 0 0))⟩]
def r72_19_w {E fr h Q} := @opsW_unf E fr h Q _ _ r72_19.eq_1
def s72_20 : GC := .seq (.ops r72_19) s72_18
def s72_20_w {E nt rd fr h Q} := @wp_unf E nt rd fr h Q _ _ s72_20.eq_1
def r72_21 : List GO := [⟨none, some 3, .box 59 (.tmp 1)⟩,
  ⟨none, some 4, .assign (.const (.slice none 0 0))⟩]
def r72_21_w {E fr h Q} := @opsW_unf E fr h Q _ _ r72_21.eq_1
def s72_22 : GC := .seq (.ops r72_21) s72_20
def s72_22_w {E nt rd fr h Q} := @wp_unf E nt rd fr h Q _ _ s72_22.eq_1
theorem c72 : Try.f72.body.bind (clean env 41) = some s72_22 := by kernel_rfl
theorem e72 : env.funs.get 72 = some Try.f72 := by kernel_rfl
theorem F72 {args : List Value} {h : Heap} {K : Value → Heap → Prop} (hl : args.length = 2) (w : s72_22.wp env 41 none (setAll args 0 .leaf) h (resK env [.tmp 4] K)) : Ret env (.func 72) args h K :=
  Ret.of_body' rfl e72 c72 rfl rfl (by rw [hl]; decide) w
/-! (*helmsman/helmsmanref09.Domains).in -/
def r73_0 : List GO := [⟨none, some 6, .assign (.const (.bool false))⟩]
def r73_0_w {E fr h Q} := @opsW_unf E fr h Q _ _ r73_0.eq_1
def s73_1 : GC := .seq (.ops r73_0) .ret
def s73_1_w {E nt rd fr h Q} := @wp_unf E nt rd fr h Q _ _ s73_1.eq_1
def r73_2 : List GO := [⟨none, some 25, .move (.tmp 8)⟩,
  ⟨none, some 26, .binOp .add 3 (.tmp 25) (.const (.int .i64 1)) 3⟩,
  ⟨none, some 8, .assign (.tmp 26)⟩]
def r73_2_w {E fr h Q} := @opsW_unf E fr h Q _ _ r73_2.eq_1
def s73_3 : GC := .ops r73_2
def s73_3_w {E nt rd fr h Q} := @wp_unf E nt rd fr h Q _ _ s73_3.eq_1
def r73_4 : List GO := [⟨none, some 6, .assign (.const (.bool true))⟩]
def r73_4_w {E fr h Q} := @opsW_unf E fr h Q _ _ r73_4.eq_1
def s73_5 : GC := .seq (.ops r73_4) .ret
def s73_5_w {E nt rd fr h Q} := @wp_unf E nt rd fr h Q _ _ s73_5.eq_1
def s73_6 : GC := .cond (.tmp 32) s73_5 .skip
def s73_6_w {E nt rd fr h Q} := @wp_unf E nt rd fr h Q _ _ s73_6.eq_1
def p73_7 : List (GO × List GO) := [(⟨none, some 27, .move (.tmp 7)⟩, []),
  (⟨none, some 28, .move (.tmp 8)⟩, []),
  (⟨none, some 29, .indexAddr 185 (.tmp 27) (.tmp 28)⟩, []),
  (⟨none, some 30, .load 59 (.tmp 29)⟩, []),
  (⟨none, some 31, .load 59 (.tmp 5)⟩, []),
  (⟨none, some 32, .binOp .eql 59 (.tmp 30) (.tmp 31) 59⟩, [])]
def p73_7_w {E fr h Q} := @planW_unf E fr h Q _ _ p73_7.eq_1
def s73_8 : GC := .seq (.plan p73_7) s73_6
def s73_8_w {E nt rd fr h Q} := @wp_unf E nt rd fr h Q _ _ s73_8.eq_1
def s73_9 : GC := .seq (.block 1 s73_8) s73_3
def s73_9_w {E nt rd fr h Q} := @wp_unf E nt rd fr h Q _ _ s73_9.eq_1
def s73_10 : GC := .cond (.tmp 24) .skip (.exit 0)
def s73_10_w {E nt rd fr h Q} := @wp_unf E nt rd fr h Q _ _ s73_10.eq_1
def r73_11 : List GO := [⟨none, some 21, .move (.tmp 8)⟩,
  ⟨none, some 22, .move (.tmp 7)⟩,
  ⟨none, some 23, .call ⟨.builtin .len, ⟨[.tmp 22]⟩, ⟨[185]⟩⟩⟩,
  ⟨none, some 24, .binOp .lss 3 (.tmp 21) (.tmp 23) 3⟩]
def r73_11_w {E fr h Q} := @opsW_unf E fr h Q _ _ r73_11.eq_1
def s73_12 : GC := .seq (.ops r73_11) s73_10
def s73_12_w {E nt rd fr h Q} := @wp_unf E nt rd fr h Q _ _ s73_12.eq_1
def s73_13 : GC := .seq (s73_12) s73_9
def s73_13_w {E nt rd fr h Q} := @wp_unf E nt rd fr h Q _ _ s73_13.eq_1
def s73_14 : GC := .loop s73_13
def s73_14_w {E nt rd fr h Q} := @wp_unf E nt rd fr h Q _ _ s73_14.eq_1
def s73_15 : GC := .block 0 s73_14
def s73_15_w {E nt rd fr h Q} := @wp_unf E nt rd fr h Q _ _ s73_15.eq_1
def r73_16 : List GO := [⟨none, some 8, .assign (.const (.int .i64 0))⟩]
def r73_16_w {E fr h Q} := @opsW_unf E fr h Q _ _ r73_16.eq_1
def s73_17 : GC := .seq (.ops r73_16) s73_15
def s73_17_w {E nt rd fr h Q} := @wp_unf E nt rd fr h Q _ _ s73_17.eq_1
def s73_18 : GC := .seq (s73_17) s73_1
def s73_18_w {E nt rd fr h Q} := @wp_unf E nt rd fr h Q _ _ s73_18.eq_1
def r73_19 : List GO := [⟨none, some 9, .move (.tmp 0)⟩,
  ⟨none, some 10, .move (.tmp 1)⟩,
  ⟨none, some 11, .move (.tmp 0)⟩,
  ⟨none, some 12, .nilCheck (.tmp 11)⟩,
  ⟨none, some 13, .fieldAddr 142 (.tmp 12) 0⟩,
  ⟨none, some 14, .load 140 (.tmp 13)⟩,
  ⟨none, some 15, .move (.tmp 1)⟩,
  ⟨none, some 16, .indexAddr 140 (.tmp 14) (.tmp 15)⟩,
  ⟨none, some 17, .fieldAddr 144 (.tmp 16) 0⟩,
  ⟨none, some 18, .load 22 (.tmp 17)⟩,
  ⟨none, some 19, .build 59 ⟨[(0, .tmp 10), (1, .tmp 18)]⟩⟩,
  ⟨none, some 20, .call ⟨.value (.func 80), ⟨[.tmp 9, .tmp 19]⟩, ⟨[84, 59]⟩⟩⟩,
  ⟨none, some 7, .assign (.tmp 20)⟩]
def r73_19_w {E fr h Q} := @opsW_unf E fr h Q _ _ r73_19.eq_1
def s73_20 : GC := .seq (.ops r73_19) s73_18
def s73_20_w {E nt rd fr h Q} := @wp_unf E nt rd fr h Q _ _ s73_20.eq_1
def r73_21 : List GO := [⟨none, some 5, .box 59 (.tmp 2)⟩,
  ⟨none, some 6, .assign (.const (.bool false))⟩]
def r73_21_w {E fr h Q} := @opsW_unf E fr h Q _ _ r73_21.eq_1
def s73_22 : GC := .seq (.ops r73_21) s73_20
def s73_22_w {E nt rd fr h Q} := @wp_unf E nt rd fr h Q _ _ s73_22.eq_1
theorem c73 : Try.f73.body.bind (clean env 33) = some s73_22 := by kernel_rfl
theorem e73 : env.funs.get 73 = some Try.f73 := by kernel_rfl
theorem F73 {args : List Value} {h : Heap} {K : Value → Heap → Prop} (hl : args.length = 3) (w : s73_22.wp env 33 none (setAll args 0 .leaf) h (resK env [.tmp 6] K)) : Ret env (.func 73) args h K :=
  Ret.of_body' rfl e73 c73 rfl rfl (by rw [hl]; decide) w
/-! (*helmsman/helmsmanref13.Space).there -/
def r74_0 : List GO := [⟨none, some 7, .move (.tmp 1)⟩,
  ⟨none, some 8, .binOp .geq 3 (.tmp 7) (.const (.int .i64 0)) 3⟩,
  ⟨none, some 9, .move (.tmp 8)⟩,
  ⟨some (9, true), some 10, .move (.tmp 1)⟩,
  ⟨some (9, true), some 11, .move (.tmp 0)⟩,
  ⟨some (9, true), some 12, .nilCheck (.tmp 11)⟩,
  ⟨some (9, true), some 13, .fieldAddr 148 (.tmp 12) 0⟩,
  ⟨some (9, true), some 14, .load 3 (.tmp 13)⟩,
  ⟨some (9, true), some 15, .binOp .lss 3 (.tmp 10) (.tmp 14) 3⟩,
  ⟨none, some 16, .pick (.tmp 9) (.tmp 15) (.const (.bool false))⟩,
  ⟨none, some 17, .move (.tmp 16)⟩,
  ⟨some (17, true), some 18, .move (.tmp 2)⟩,
  ⟨some (17, true), some 19, .binOp .geq 3 (.tmp 18) (.const (.int .i64 0)) 3⟩,
  ⟨none, some 20, .pick (.tmp 17) (.tmp 19) (.const (.bool false))⟩,
  ⟨none, some 21, .move (.tmp 20)⟩,
  ⟨some (21, true), some 22, .move (.tmp 2)⟩,
  ⟨some (21, true), some 23, .move (.tmp 0)⟩,
  ⟨some (21, true), some 24, .nilCheck (.tmp 23)⟩,
  ⟨some (21, true), some 25, .fieldAddr 148 (.tmp 24) 1⟩,
  ⟨some (21, true), some 26, .load 3 (.tmp 25)⟩,
  ⟨some (21, true), some 27, .binOp .lss 3 (.tmp 22) (.tmp 26) 3⟩,
  ⟨none, some 28, .pick (.tmp 21) (.tmp 27) (.const (.bool false))⟩,
  ⟨none, some 6, .assign (.tmp 28)⟩]
def r74_0_w {E fr h Q} := @opsW_unf E fr h Q _ _ r74_0.eq_1
def s74_1 : GC := .seq (.ops r74_0) .ret
def s74_1_w {E nt rd fr h Q} := @wp_unf E nt rd fr h Q _ _ s74_1.eq_1
def r74_2 : List GO := [⟨none, some 6, .assign (.const (.bool false))⟩]
def r74_2_w {E fr h Q} := @opsW_unf E fr h Q _ _ r74_2.eq_1
def s74_3 : GC := .seq (.ops r74_2) s74_1
def s74_3_w {E nt rd fr h Q} := @wp_unf E nt rd fr h Q _ _ s74_3.eq_1
theorem c74 : Try.f74.body.bind (clean env 29) = some s74_3 := by kernel_rfl
theorem e74 : env.funs.get 74 = some Try.f74 := by kernel_rfl
theorem F74 {args : List Value} {h : Heap} {K : Value → Heap → Prop} (hl : args.length = 3) (w : s74_3.wp env 29 none (setAll args 0 .leaf) h (resK env [.tmp 6] K)) : Ret env (.func 74) args h K :=
  Ret.of_body' rfl e74 c74 rfl rfl (by rw [hl]; decide) w
/-! (*helmsman/helmsmanref13.Space).Find -/
def r75_0 : List GO := [⟨none, some 6, .assign (.const (.int .i64 (-1)))⟩]
def r75_0_w {E fr h Q} := @opsW_unf E fr h Q _ _ r75_0.eq_1
def s75_1 : GC := .seq (.ops r75_0) .ret
def s75_1_w {E nt rd fr h Q} := @wp_unf E nt rd fr h Q _ _ s75_1.eq_1
def r75_2 : List GO := [⟨none, some 15, .move (.tmp 7)⟩,
  ⟨none, some 16, .binOp .add 3 (.tmp 15) (.const (.int .i64 1)) 3⟩,
  ⟨none, some 7, .assign (.tmp 16)⟩]
def r75_2_w {E fr h Q} := @opsW_unf E fr h Q _ _ r75_2.eq_1
def s75_3 : GC := .ops r75_2
def s75_3_w {E nt rd fr h Q} := @wp_unf E nt rd fr h Q _ _ s75_3.eq_1
def r75_4 : List GO := [⟨none, some 39, .move (.tmp 7)⟩,
  ⟨none, some 6, .assign (.tmp 39)⟩]
def r75_4_w {E fr h Q} := @opsW_unf E fr h Q _ _ r75_4.eq_1
def s75_5 : GC := .seq (.ops r75_4) .ret
def s75_5_w {E nt rd fr h Q} := @wp_unf E nt rd fr h Q _ _ s75_5.eq_1
def s75_6 : GC := .cond (.tmp 38) s75_5 .skip
def s75_6_w {E nt rd fr h Q} := @wp_unf E nt rd fr h Q _ _ s75_6.eq_1
def r75_7 : List GO := [⟨none, some 17, .move (.tmp 0)⟩,
  ⟨none, some 18, .nilCheck (.tmp 17)⟩,
  ⟨none, some 19, .fieldAddr 148 (.tmp 18) 3⟩,
  ⟨none, some 20, .load 146 (.tmp 19)⟩,
  ⟨none, some 21, .move (.tmp 7)⟩,
  ⟨none, some 22, .indexAddr 146 (.tmp 20) (.tmp 21)⟩,
  ⟨none, some 23, .fieldAddr 167 (.tmp 22) 2⟩,
  ⟨none, some 24, .load 3 (.tmp 23)⟩,
  ⟨none, some 25, .move (.tmp 1)⟩,
  ⟨none, some 26, .binOp .eql 3 (.tmp 24) (.tmp 25) 3⟩,
  ⟨none, some 27, .move (.tmp 26)⟩,
  ⟨some (27, true), some 28, .move (.tmp 0)⟩,
  ⟨some (27, true), some 29, .nilCheck (.tmp 28)⟩,
  ⟨some (27, true), some 30, .fieldAddr 148 (.tmp 29) 3⟩,
  ⟨some (27, true), some 31, .load 146 (.tmp 30)⟩,
  ⟨some (27, true), some 32, .move (.tmp 7)⟩,
  ⟨some (27, true), some 33, .indexAddr 146 (.tmp 31) (.tmp 32)⟩,
  ⟨some (27, true), some 34, .fieldAddr 167 (.tmp 33) 3⟩,
  ⟨some (27, true), some 35, .load 3 (.tmp 34)⟩,
  ⟨some (27, true), some 36, .move (.tmp 2)⟩,
  ⟨some (27, true), some 37, .binOp .eql 3 (.tmp 35) (.tmp 36) 3⟩,
  ⟨none, some 38, .pick (.tmp 27) (.tmp 37) (.const (.bool false))⟩]
def r75_7_w {E fr h Q} := @opsW_unf E fr h Q _ _ r75_7.eq_1
def s75_8 : GC := .seq (.ops r75_7) s75_6
def s75_8_w {E nt rd fr h Q} := @wp_unf E nt rd fr h Q _ _ s75_8.eq_1
def s75_9 : GC := .seq (.block 1 s75_8) s75_3
def s75_9_w {E nt rd fr h Q} := @wp_unf E nt rd fr h Q _ _ s75_9.eq_1
def s75_10 : GC := .cond (.tmp 14) .skip (.exit 0)
def s75_10_w {E nt rd fr h Q} := @wp_unf E nt rd fr h Q _ _ s75_10.eq_1
def r75_11 : List GO := [⟨none, some 8, .move (.tmp 7)⟩,
  ⟨none, some 9, .move (.tmp 0)⟩,
  ⟨none, some 10, .nilCheck (.tmp 9)⟩,
  ⟨none, some 11, .fieldAddr 148 (.tmp 10) 3⟩,
  ⟨none, some 12, .load 146 (.tmp 11)⟩,
  ⟨none, some 13, .call ⟨.builtin .len, ⟨[.tmp 12]⟩, ⟨[146]⟩⟩⟩,
  ⟨none, some 14, .binOp .lss 3 (.tmp 8) (.tmp 13) 3⟩]
def r75_11_w {E fr h Q} := @opsW_unf E fr h Q _ _ r75_11.eq_1
def s75_12 : GC := .seq (.ops r75_11) s75_10
def s75_12_w {E nt rd fr h Q} := @wp_unf E nt rd fr h Q _ _ s75_12.eq_1
def s75_13 : GC := .seq (s75_12) s75_9
def s75_13_w {E nt rd fr h Q} := @wp_unf E nt rd fr h Q _ _ s75_13.eq_1
def s75_14 : GC := .loop s75_13
def s75_14_w {E nt rd fr h Q} := @wp_unf E nt rd fr h Q _ _ s75_14.eq_1
def s75_15 : GC := .block 0 s75_14
def s75_15_w {E nt rd fr h Q} := @wp_unf E nt rd fr h Q _ _ s75_15.eq_1
def r75_16 : List GO := [⟨none, some 7, .assign (.const (.int .i64 0))⟩]
def r75_16_w {E fr h Q} := @opsW_unf E fr h Q _ _ r75_16.eq_1
def s75_17 : GC := .seq (.ops r75_16) s75_15
def s75_17_w {E nt rd fr h Q} := @wp_unf E nt rd fr h Q _ _ s75_17.eq_1
def s75_18 : GC := .seq (s75_17) s75_1
def s75_18_w {E nt rd fr h Q} := @wp_unf E nt rd fr h Q _ _ s75_18.eq_1
def r75_19 : List GO := [⟨none, some 6, .assign (.const (.int .i64 0))⟩]
def r75_19_w {E fr h Q} := @opsW_unf E fr h Q _ _ r75_19.eq_1
def s75_20 : GC := .seq (.ops r75_19) s75_18
def s75_20_w {E nt rd fr h Q} := @wp_unf E nt rd fr h Q _ _ s75_20.eq_1
theorem c75 : Try.f75.body.bind (clean env 40) = some s75_20 := by kernel_rfl
theorem e75 : env.funs.get 75 = some Try.f75 := by kernel_rfl
theorem F75 {args : List Value} {h : Heap} {K : Value → Heap → Prop} (hl : args.length = 3) (w : s75_20.wp env 40 none (setAll args 0 .leaf) h (resK env [.tmp 6] K)) : Ret env (.func 75) args h K :=
  Ret.of_body' rfl e75 c75 rfl rfl (by rw [hl]; decide) w
/-! (*helmsman/helmsmanref09.Domains).Chain -/
def r80_0 : List GO := [⟨none, some 22, .move (.tmp 5)⟩,
  ⟨none, some 4, .assign (.tmp 22)⟩]
def r80_0_w {E fr h Q} := @opsW_unf E fr h Q _ _ r80_0.eq_1
def s80_1 : GC := .seq (.ops r80_0) .ret
def s80_1_w {E nt rd fr h Q} := @wp_unf E nt rd fr h Q _ _ s80_1.eq_1
def p80_2 : List (GO × List GO) := [(⟨none, some 13, .move (.tmp 0)⟩, []),
  (⟨none, some 14, .nilCheck (.tmp 13)⟩, []),
  (⟨none, some 15, .fieldAddr 142 (.tmp 14) 0⟩, []),
  (⟨none, some 16, .load 140 (.tmp 15)⟩, []),
  (⟨none, some 17, .fieldAddr 59 (.tmp 3) 0⟩, []),
  (⟨none, some 18, .load 3 (.tmp 17)⟩, []),
  (⟨none, some 19, .indexAddr 140 (.tmp 16) (.tmp 18)⟩, []),
  (⟨none, some 20, .fieldAddr 144 (.tmp 19) 5⟩, []),
  (⟨none, some 21, .load 59 (.tmp 20)⟩, []),
  (⟨none, none, .store 59 (.tmp 3) (.tmp 21)⟩, [])]
def p80_2_w {E fr h Q} := @planW_unf E fr h Q _ _ p80_2.eq_1
def s80_3 : GC := .plan p80_2
def s80_3_w {E nt rd fr h Q} := @wp_unf E nt rd fr h Q _ _ s80_3.eq_1
def r80_4 : List GO := [⟨none, some 9, .move (.tmp 5)⟩,
  ⟨none, some 10, .load 59 (.tmp 3)⟩,
  ⟨none, some 11, .buildSlice 185 1 ⟨[(0, .tmp 10)]⟩⟩,
  ⟨none, some 12, .call ⟨.builtin .append, ⟨[.tmp 9, .tmp 11]⟩, ⟨[185, 185]⟩⟩⟩,
  ⟨none, some 5, .assign (.tmp 12)⟩]
def r80_4_w {E fr h Q} := @opsW_unf E fr h Q _ _ r80_4.eq_1
def s80_5 : GC := .seq (.ops r80_4) s80_3
def s80_5_w {E nt rd fr h Q} := @wp_unf E nt rd fr h Q _ _ s80_5.eq_1
def s80_6 : GC := .block 1 s80_5
def s80_6_w {E nt rd fr h Q} := @wp_unf E nt rd fr h Q _ _ s80_6.eq_1
def s80_7 : GC := .cond (.tmp 8) .skip (.exit 0)
def s80_7_w {E nt rd fr h Q} := @wp_unf E nt rd fr h Q _ _ s80_7.eq_1
def r80_8 : List GO := [⟨none, some 6, .move (.tmp 0)⟩,
  ⟨none, some 7, .load 59 (.tmp 3)⟩,
  ⟨none, some 8, .call ⟨.value (.func 58), ⟨[.tmp 6, .tmp 7]⟩, ⟨[84, 59]⟩⟩⟩]
def r80_8_w {E fr h Q} := @opsW_unf E fr h Q _ _ r80_8.eq_1
def s80_9 : GC := .seq (.ops r80_8) s80_7
def s80_9_w {E nt rd fr h Q} := @wp_unf E nt rd fr h Q _ _ s80_9.eq_1
def s80_10 : GC := .seq (s80_9) s80_6
def s80_10_w {E nt rd fr h Q} := @wp_unf E nt rd fr h Q _ _ s80_10.eq_1
def s80_11 : GC := .loop s80_10
def s80_11_w {E nt rd fr h Q} := @wp_unf E nt rd fr h Q _ _ s80_11.eq_1
def s80_12 : GC := .seq (.block 0 s80_11) s80_1
def s80_12_w {E nt rd fr h Q} := @wp_unf E nt rd fr h Q _ _ s80_12.eq_1
def r80_13 : List GO := [⟨none, some 5, .assign (.const (.slice none 0 0))⟩]
def r80_13_w {E fr h Q} := @opsW_unf E fr h Q _ _ r80_13.eq_1
def s80_14 : GC := .seq (.ops r80_13) s80_12
def s80_14_w {E nt rd fr h Q} := @wp_unf E nt rd fr h Q _ _ s80_14.eq_1
def r80_15 : List GO := [⟨none, some 3, .box 59 (.tmp 1)⟩,
  ⟨none, some 4, .assign (.const (.slice none 0 0))⟩]
def r80_15_w {E fr h Q} := @opsW_unf E fr h Q _ _ r80_15.eq_1
def s80_16 : GC := .seq (.ops r80_15) s80_14
def s80_16_w {E nt rd fr h Q} := @wp_unf E nt rd fr h Q _ _ s80_16.eq_1
theorem c80 : Try.f80.body.bind (clean env 23) = some s80_16 := by kernel_rfl
theorem e80 : env.funs.get 80 = some Try.f80 := by kernel_rfl
theorem F80 {args : List Value} {h : Heap} {K : Value → Heap → Prop} (hl : args.length = 2) (w : s80_16.wp env 23 none (setAll args 0 .leaf) h (resK env [.tmp 4] K)) : Ret env (.func 80) args h K :=
  Ret.of_body' rfl e80 c80 rfl rfl (by rw [hl]; decide) w

end Go.Proofs.Ytdjnedamphifcaa

