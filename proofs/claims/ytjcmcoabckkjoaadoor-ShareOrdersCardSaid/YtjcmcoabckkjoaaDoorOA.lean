/- The program's functions as plain code. -/
import Derived.Test.YtjcmcoabckkjoaaDoorZLib3
import Derived.Test.YtjcmcoabckkjoaaDoorChecked
import Derived.KernelRfl
set_option linter.unusedSimpArgs false
set_option linter.unusedVariables false
namespace Go.Proofs.YtjcmcoabckkjoaaDoor.Or
open Go.Ev
set_option maxRecDepth 100000
set_option linter.defProp false
/-- the table that 'known' looks at -/
def dbs : List Value := [.int .u8 0, .int .u8 1, .int .u8 56, .int .u8 2, .int .u8 57, .int .u8 49, .int .u8 28, .int .u8 3, .int .u8 61, .int .u8 58, .int .u8 42, .int .u8 50, .int .u8 38, .int .u8 29, .int .u8 17, .int .u8 4, .int .u8 62, .int .u8 47, .int .u8 59, .int .u8 36, .int .u8 45, .int .u8 43, .int .u8 51, .int .u8 22, .int .u8 53, .int .u8 39, .int .u8 33, .int .u8 30, .int .u8 24, .int .u8 18, .int .u8 12, .int .u8 5, .int .u8 63, .int .u8 55, .int .u8 48, .int .u8 27, .int .u8 60, .int .u8 41, .int .u8 37, .int .u8 16, .int .u8 46, .int .u8 35, .int .u8 44, .int .u8 21, .int .u8 52, .int .u8 32, .int .u8 23, .int .u8 11, .int .u8 54, .int .u8 26, .int .u8 40, .int .u8 15, .int .u8 34, .int .u8 20, .int .u8 31, .int .u8 10, .int .u8 25, .int .u8 14, .int .u8 19, .int .u8 9, .int .u8 13, .int .u8 8, .int .u8 7, .int .u8 6]
def tabs : List (Nat × List Value) := [(1, dbs)]
noncomputable def env : Env := envOf Tryd.prog 2 (extTab tabs (extNan 19 (extFl 18 10 fun _ _ _ => none)) 8)
section
variable {fr : Fr} {h : Heap} {K : Value → Heap → Prop} {x y z : Operand} {ps : List (Nat × Operand)}
theorem agl_27 : ∀ {v : Value} {K : Value → Prop}, agL env 27 v h K = ld1K h v K := agL_one (by kernel_rfl)
theorem agl_23 : ∀ {v : Value} {K : Value → Prop}, agL env 23 v h K = ld1K h v K := agL_one (by kernel_rfl)
theorem len_22 : opW env (.call ⟨.builtin .len, ⟨[x]⟩, ⟨[22]⟩⟩) fr h K = evK env fr x fun v => lenK v fun u => K u h := opW_lenS (by kernel_rfl)
theorem len_25 : opW env (.call ⟨.builtin .len, ⟨[x]⟩, ⟨[25]⟩⟩) fr h K = evK env fr x fun v => lenK v fun u => K u h := opW_lenS (by kernel_rfl)
theorem ia_25 : opW env (.indexAddr 25 x y) fr h K = evK env fr x fun v => evK env fr y fun i => idxSK 1 v i fun u => K u h := opW_indexAddrS (by kernel_rfl)
theorem ld_27 : opW env (.load 27 x) fr h K = evK env fr x fun v => ld1K h v fun u => K u h := opW_load1 (by kernel_rfl)
theorem st_27 : opW env (.store 27 x y) fr h K = evK env fr x fun p => evK env fr y fun v => stK 1 p v h K := opW_store (by kernel_rfl)
theorem ia_22 : opW env (.indexAddr 22 x y) fr h K = evK env fr x fun v => evK env fr y fun i => idxSK 1 v i fun u => K u h := opW_indexAddrS (by kernel_rfl)
theorem ld_23 : opW env (.load 23 x) fr h K = evK env fr x fun v => ld1K h v fun u => K u h := opW_load1 (by kernel_rfl)
theorem bsl_25_1 : opW env (.buildSlice 25 1 ⟨ps⟩) fr h K = evpK env fr ps fun l => bsK 27 1 [.float .f64 0] 1 l h K := opW_buildSlice (by kernel_rfl) (by decide)
theorem ap_25_25 : opW env (.call ⟨.builtin .append, ⟨[x, y]⟩, ⟨[25, 25]⟩⟩) fr h K = evK env fr x fun s => evK env fr y fun v => appK 27 1 s v h K := opW_append (zs := [.float .f64 0]) (by kernel_rfl) (by kernel_rfl)
theorem slz_25 : slzOf env 25 = some 1 := by kernel_rfl
theorem bsl_25_2 : opW env (.buildSlice 25 2 ⟨ps⟩) fr h K = evpK env fr ps fun l => bsK 27 1 [.float .f64 0] 2 l h K := opW_buildSlice (by kernel_rfl) (by decide)
theorem cv_23_3 : opW env (.convert 23 3 x) fr h K = evK env fr x fun v => cintK .i64 v fun u => K u h := opW_cint (k' := .u64) (by kernel_rfl) (by kernel_rfl)
theorem eqN_25 : ∀ {c : Bool} {a : Option Addr} {n m : Nat} {K : Value → Prop}, binK env .eql 25 c (.slice a n m) (.slice none 0 0) K = K (.bool a.isNone) := bin_eqlNil (by kernel_rfl)
theorem bsl_25_0 : opW env (.buildSlice 25 0 ⟨ps⟩) fr h K = evpK env fr ps fun l => bsK 27 1 [.float .f64 0] 0 l h K := opW_buildSlice (by kernel_rfl) (by decide)
theorem cv_3_69 : opW env (.convert 3 69 x) fr h K = evK env fr x fun v => cintK .u64 v fun u => K u h := opW_cint (k' := .i64) (by kernel_rfl) (by kernel_rfl)
theorem cv_69_3 : opW env (.convert 69 3 x) fr h K = evK env fr x fun v => cintK .i64 v fun u => K u h := opW_cint (k' := .u64) (by kernel_rfl) (by kernel_rfl)
end
/-! helmsman/helmsmanlaw31.ShareOrders -/
def r4_0 : List GO := [⟨none, some 222, .call ⟨.value (.func 8), ⟨[]⟩, ⟨[]⟩⟩⟩,
  ⟨none, some 2, .assign (.tmp 222)⟩]
def r4_0_w {E fr h Q} := @opsW_unf E fr h Q _ _ r4_0.eq_1
def s4_1 : GC := .seq (.ops r4_0) .ret
def s4_1_w {E nt rd fr h Q} := @wp_unf E nt rd fr h Q _ _ s4_1.eq_1
def r4_2 : List GO := [⟨none, some 202, .move (.tmp 13)⟩,
  ⟨none, some 203, .binOp .add 3 (.tmp 202) (.const (.int .i64 1)) 3⟩,
  ⟨none, some 13, .assign (.tmp 203)⟩]
def r4_2_w {E fr h Q} := @opsW_unf E fr h Q _ _ r4_2.eq_1
def s4_3 : GC := .ops r4_2
def s4_3_w {E nt rd fr h Q} := @wp_unf E nt rd fr h Q _ _ s4_3.eq_1
def r4_4 : List GO := [⟨none, some 2, .assign (.const (.bool false))⟩]
def r4_4_w {E fr h Q} := @opsW_unf E fr h Q _ _ r4_4.eq_1
def s4_5 : GC := .seq (.ops r4_4) .ret
def s4_5_w {E nt rd fr h Q} := @wp_unf E nt rd fr h Q _ _ s4_5.eq_1
def s4_6 : GC := .cond (.tmp 221) s4_5 .skip
def s4_6_w {E nt rd fr h Q} := @wp_unf E nt rd fr h Q _ _ s4_6.eq_1
def p4_7 : List (GO × List GO) := [(⟨none, some 204, .move (.tmp 3)⟩, []),
  (⟨none, some 205, .move (.tmp 13)⟩, []),
  (⟨none, some 206, .indexAddr 25 (.tmp 204) (.tmp 205)⟩, []),
  (⟨none, some 207, .load 27 (.tmp 206)⟩, []),
  (⟨none, some 209, .move (.tmp 0)⟩, []),
  (⟨none, some 210, .move (.tmp 13)⟩, []),
  (⟨none, some 211, .indexAddr 22 (.tmp 209) (.tmp 210)⟩, []),
  (⟨none, some 212, .load 23 (.tmp 211)⟩, []),
  (⟨none, some 208, .call ⟨.value (.func 18), ⟨[.tmp 207]⟩, ⟨[27]⟩⟩⟩, [⟨none, some 212, .load 23 (.tmp 211)⟩]),
  (⟨none, some 213, .binOp .neq 23 (.tmp 208) (.tmp 212) 23⟩, []),
  (⟨none, some 214, .move (.tmp 213)⟩, []),
  (⟨some (214, true), some 215, .move (.tmp 3)⟩, []),
  (⟨some (214, true), some 216, .move (.tmp 13)⟩, []),
  (⟨some (214, true), some 217, .indexAddr 25 (.tmp 215) (.tmp 216)⟩, []),
  (⟨some (214, true), some 218, .load 27 (.tmp 217)⟩, []),
  (⟨some (214, true), some 219, .call ⟨.value (.func 19), ⟨[.tmp 218]⟩, ⟨[27]⟩⟩⟩, []),
  (⟨some (214, true), some 220, .unOp .not 4 (.tmp 219)⟩, []),
  (⟨none, some 221, .pick (.tmp 214) (.tmp 220) (.const (.bool false))⟩, [])]
def p4_7_w {E fr h Q} := @planW_unf E fr h Q _ _ p4_7.eq_1
def s4_8 : GC := .seq (.plan p4_7) s4_6
def s4_8_w {E nt rd fr h Q} := @wp_unf E nt rd fr h Q _ _ s4_8.eq_1
def s4_9 : GC := .seq (.block 7 s4_8) s4_3
def s4_9_w {E nt rd fr h Q} := @wp_unf E nt rd fr h Q _ _ s4_9.eq_1
def s4_10 : GC := .cond (.tmp 201) .skip (.exit 6)
def s4_10_w {E nt rd fr h Q} := @wp_unf E nt rd fr h Q _ _ s4_10.eq_1
def r4_11 : List GO := [⟨none, some 198, .move (.tmp 13)⟩,
  ⟨none, some 199, .move (.tmp 0)⟩,
  ⟨none, some 200, .call ⟨.builtin .len, ⟨[.tmp 199]⟩, ⟨[22]⟩⟩⟩,
  ⟨none, some 201, .binOp .lss 3 (.tmp 198) (.tmp 200) 3⟩]
def r4_11_w {E fr h Q} := @opsW_unf E fr h Q _ _ r4_11.eq_1
def s4_12 : GC := .seq (.ops r4_11) s4_10
def s4_12_w {E nt rd fr h Q} := @wp_unf E nt rd fr h Q _ _ s4_12.eq_1
def s4_13 : GC := .seq (s4_12) s4_9
def s4_13_w {E nt rd fr h Q} := @wp_unf E nt rd fr h Q _ _ s4_13.eq_1
def s4_14 : GC := .loop s4_13
def s4_14_w {E nt rd fr h Q} := @wp_unf E nt rd fr h Q _ _ s4_14.eq_1
def s4_15 : GC := .block 6 s4_14
def s4_15_w {E nt rd fr h Q} := @wp_unf E nt rd fr h Q _ _ s4_15.eq_1
def r4_16 : List GO := [⟨none, some 13, .assign (.const (.int .i64 0))⟩]
def r4_16_w {E fr h Q} := @opsW_unf E fr h Q _ _ r4_16.eq_1
def s4_17 : GC := .seq (.ops r4_16) s4_15
def s4_17_w {E nt rd fr h Q} := @wp_unf E nt rd fr h Q _ _ s4_17.eq_1
def s4_18 : GC := .seq (s4_17) s4_1
def s4_18_w {E nt rd fr h Q} := @wp_unf E nt rd fr h Q _ _ s4_18.eq_1
def r4_19 : List GO := [⟨none, some 193, .move (.tmp 12)⟩,
  ⟨none, some 194, .binOp .add 3 (.tmp 193) (.const (.int .i64 1)) 3⟩,
  ⟨none, some 12, .assign (.tmp 194)⟩]
def r4_19_w {E fr h Q} := @opsW_unf E fr h Q _ _ r4_19.eq_1
def s4_20 : GC := .ops r4_19
def s4_20_w {E nt rd fr h Q} := @wp_unf E nt rd fr h Q _ _ s4_20.eq_1
def r4_21 : List GO := [⟨none, some 195, .move (.tmp 11)⟩,
  ⟨none, some 196, .move (.tmp 12)⟩,
  ⟨none, some 197, .indexAddr 25 (.tmp 195) (.tmp 196)⟩,
  ⟨none, none, .store 27 (.tmp 197) (.const (.float .f64 4617315517961601024))⟩]
def r4_21_w {E fr h Q} := @opsW_unf E fr h Q _ _ r4_21.eq_1
def s4_22 : GC := .ops r4_21
def s4_22_w {E nt rd fr h Q} := @wp_unf E nt rd fr h Q _ _ s4_22.eq_1
def s4_23 : GC := .seq (.block 5 s4_22) s4_20
def s4_23_w {E nt rd fr h Q} := @wp_unf E nt rd fr h Q _ _ s4_23.eq_1
def s4_24 : GC := .cond (.tmp 192) .skip (.exit 4)
def s4_24_w {E nt rd fr h Q} := @wp_unf E nt rd fr h Q _ _ s4_24.eq_1
def r4_25 : List GO := [⟨none, some 189, .move (.tmp 12)⟩,
  ⟨none, some 190, .move (.tmp 11)⟩,
  ⟨none, some 191, .call ⟨.builtin .len, ⟨[.tmp 190]⟩, ⟨[25]⟩⟩⟩,
  ⟨none, some 192, .binOp .lss 3 (.tmp 189) (.tmp 191) 3⟩]
def r4_25_w {E fr h Q} := @opsW_unf E fr h Q _ _ r4_25.eq_1
def s4_26 : GC := .seq (.ops r4_25) s4_24
def s4_26_w {E nt rd fr h Q} := @wp_unf E nt rd fr h Q _ _ s4_26.eq_1
def s4_27 : GC := .seq (s4_26) s4_23
def s4_27_w {E nt rd fr h Q} := @wp_unf E nt rd fr h Q _ _ s4_27.eq_1
def s4_28 : GC := .loop s4_27
def s4_28_w {E nt rd fr h Q} := @wp_unf E nt rd fr h Q _ _ s4_28.eq_1
def s4_29 : GC := .block 4 s4_28
def s4_29_w {E nt rd fr h Q} := @wp_unf E nt rd fr h Q _ _ s4_29.eq_1
def r4_30 : List GO := [⟨none, some 12, .assign (.const (.int .i64 0))⟩]
def r4_30_w {E fr h Q} := @opsW_unf E fr h Q _ _ r4_30.eq_1
def s4_31 : GC := .seq (.ops r4_30) s4_29
def s4_31_w {E nt rd fr h Q} := @wp_unf E nt rd fr h Q _ _ s4_31.eq_1
def s4_32 : GC := .seq (s4_31) s4_18
def s4_32_w {E nt rd fr h Q} := @wp_unf E nt rd fr h Q _ _ s4_32.eq_1
def r4_33 : List GO := [⟨none, some 187, .move (.tmp 3)⟩,
  ⟨none, some 188, .call ⟨.value (.func 24), ⟨[.tmp 187]⟩, ⟨[25]⟩⟩⟩,
  ⟨none, some 11, .assign (.tmp 188)⟩]
def r4_33_w {E fr h Q} := @opsW_unf E fr h Q _ _ r4_33.eq_1
def s4_34 : GC := .seq (.ops r4_33) s4_32
def s4_34_w {E nt rd fr h Q} := @wp_unf E nt rd fr h Q _ _ s4_34.eq_1
def r4_35 : List GO := [⟨none, some 96, .move (.tmp 9)⟩,
  ⟨none, some 97, .binOp .add 3 (.tmp 96) (.const (.int .i64 1)) 3⟩,
  ⟨none, some 9, .assign (.tmp 97)⟩]
def r4_35_w {E fr h Q} := @opsW_unf E fr h Q _ _ r4_35.eq_1
def s4_36 : GC := .ops r4_35
def s4_36_w {E nt rd fr h Q} := @wp_unf E nt rd fr h Q _ _ s4_36.eq_1
def r4_37 : List GO := [⟨none, some 2, .assign (.const (.bool false))⟩]
def r4_37_w {E fr h Q} := @opsW_unf E fr h Q _ _ r4_37.eq_1
def s4_38 : GC := .seq (.ops r4_37) .ret
def s4_38_w {E nt rd fr h Q} := @wp_unf E nt rd fr h Q _ _ s4_38.eq_1
def s4_39 : GC := .cond (.tmp 186) s4_38 .skip
def s4_39_w {E nt rd fr h Q} := @wp_unf E nt rd fr h Q _ _ s4_39.eq_1
def p4_40 : List (GO × List GO) := [(⟨none, some 166, .move (.tmp 3)⟩, []),
  (⟨none, some 167, .move (.tmp 9)⟩, []),
  (⟨none, some 168, .indexAddr 25 (.tmp 166) (.tmp 167)⟩, []),
  (⟨none, some 169, .load 27 (.tmp 168)⟩, []),
  (⟨none, some 170, .move (.tmp 3)⟩, []),
  (⟨none, some 171, .move (.tmp 9)⟩, []),
  (⟨none, some 172, .indexAddr 25 (.tmp 170) (.tmp 171)⟩, []),
  (⟨none, some 173, .load 27 (.tmp 172)⟩, []),
  (⟨none, some 174, .call ⟨.value (.func 28), ⟨[.tmp 169, .tmp 173]⟩, ⟨[27, 27]⟩⟩⟩, []),
  (⟨none, some 175, .move (.tmp 174)⟩, []),
  (⟨some (175, false), some 176, .move (.tmp 3)⟩, []),
  (⟨some (175, false), some 177, .move (.tmp 9)⟩, []),
  (⟨some (175, false), some 178, .indexAddr 25 (.tmp 176) (.tmp 177)⟩, []),
  (⟨some (175, false), some 179, .load 27 (.tmp 178)⟩, []),
  (⟨some (175, false), some 180, .move (.tmp 3)⟩, []),
  (⟨some (175, false), some 181, .move (.tmp 9)⟩, []),
  (⟨some (175, false), some 182, .indexAddr 25 (.tmp 180) (.tmp 181)⟩, []),
  (⟨some (175, false), some 183, .load 27 (.tmp 182)⟩, []),
  (⟨some (175, false), some 184, .call ⟨.value (.func 30), ⟨[.tmp 179, .tmp 183]⟩, ⟨[27, 27]⟩⟩⟩, []),
  (⟨some (175, false), some 185, .unOp .not 4 (.tmp 184)⟩, []),
  (⟨none, some 186, .pick (.tmp 175) (.const (.bool true)) (.tmp 185)⟩, [])]
def p4_40_w {E fr h Q} := @planW_unf E fr h Q _ _ p4_40.eq_1
def s4_41 : GC := .seq (.plan p4_40) s4_39
def s4_41_w {E nt rd fr h Q} := @wp_unf E nt rd fr h Q _ _ s4_41.eq_1
def r4_42 : List GO := [⟨none, some 102, .move (.tmp 10)⟩,
  ⟨none, some 103, .binOp .add 3 (.tmp 102) (.const (.int .i64 1)) 3⟩,
  ⟨none, some 10, .assign (.tmp 103)⟩]
def r4_42_w {E fr h Q} := @opsW_unf E fr h Q _ _ r4_42.eq_1
def s4_43 : GC := .ops r4_42
def s4_43_w {E nt rd fr h Q} := @wp_unf E nt rd fr h Q _ _ s4_43.eq_1
def r4_44 : List GO := [⟨none, some 2, .assign (.const (.bool false))⟩]
def r4_44_w {E fr h Q} := @opsW_unf E fr h Q _ _ r4_44.eq_1
def s4_45 : GC := .seq (.ops r4_44) .ret
def s4_45_w {E nt rd fr h Q} := @wp_unf E nt rd fr h Q _ _ s4_45.eq_1
def s4_46 : GC := .cond (.tmp 165) s4_45 .skip
def s4_46_w {E nt rd fr h Q} := @wp_unf E nt rd fr h Q _ _ s4_46.eq_1
def p4_47 : List (GO × List GO) := [(⟨none, some 104, .move (.tmp 3)⟩, []),
  (⟨none, some 105, .move (.tmp 9)⟩, []),
  (⟨none, some 106, .indexAddr 25 (.tmp 104) (.tmp 105)⟩, []),
  (⟨none, some 107, .load 27 (.tmp 106)⟩, []),
  (⟨none, some 108, .move (.tmp 3)⟩, []),
  (⟨none, some 109, .move (.tmp 10)⟩, []),
  (⟨none, some 110, .indexAddr 25 (.tmp 108) (.tmp 109)⟩, []),
  (⟨none, some 111, .load 27 (.tmp 110)⟩, []),
  (⟨none, some 113, .move (.tmp 3)⟩, []),
  (⟨none, some 114, .move (.tmp 9)⟩, []),
  (⟨none, some 115, .indexAddr 25 (.tmp 113) (.tmp 114)⟩, []),
  (⟨none, some 116, .load 27 (.tmp 115)⟩, []),
  (⟨none, some 117, .move (.tmp 3)⟩, []),
  (⟨none, some 118, .move (.tmp 10)⟩, []),
  (⟨none, some 119, .indexAddr 25 (.tmp 117) (.tmp 118)⟩, []),
  (⟨none, some 120, .load 27 (.tmp 119)⟩, []),
  (⟨none, some 112, .call ⟨.value (.func 28), ⟨[.tmp 107, .tmp 111]⟩, ⟨[27, 27]⟩⟩⟩, [⟨none, some 116, .load 27 (.tmp 115)⟩, ⟨none, some 120, .load 27 (.tmp 119)⟩]),
  (⟨none, some 121, .call ⟨.value (.func 29), ⟨[.tmp 116, .tmp 120]⟩, ⟨[27, 27]⟩⟩⟩, []),
  (⟨none, some 122, .binOp .neq 4 (.tmp 112) (.tmp 121) 4⟩, []),
  (⟨none, some 123, .move (.tmp 122)⟩, []),
  (⟨some (123, false), some 124, .move (.tmp 3)⟩, []),
  (⟨some (123, false), some 125, .move (.tmp 9)⟩, []),
  (⟨some (123, false), some 126, .indexAddr 25 (.tmp 124) (.tmp 125)⟩, []),
  (⟨some (123, false), some 127, .load 27 (.tmp 126)⟩, []),
  (⟨some (123, false), some 128, .move (.tmp 3)⟩, []),
  (⟨some (123, false), some 129, .move (.tmp 10)⟩, []),
  (⟨some (123, false), some 130, .indexAddr 25 (.tmp 128) (.tmp 129)⟩, []),
  (⟨some (123, false), some 131, .load 27 (.tmp 130)⟩, []),
  (⟨some (123, false), some 133, .move (.tmp 3)⟩, []),
  (⟨some (123, false), some 134, .move (.tmp 9)⟩, []),
  (⟨some (123, false), some 135, .indexAddr 25 (.tmp 133) (.tmp 134)⟩, []),
  (⟨some (123, false), some 136, .load 27 (.tmp 135)⟩, []),
  (⟨some (123, false), some 137, .move (.tmp 3)⟩, []),
  (⟨some (123, false), some 138, .move (.tmp 10)⟩, []),
  (⟨some (123, false), some 139, .indexAddr 25 (.tmp 137) (.tmp 138)⟩, []),
  (⟨some (123, false), some 140, .load 27 (.tmp 139)⟩, []),
  (⟨some (123, false), some 132, .call ⟨.value (.func 30), ⟨[.tmp 127, .tmp 131]⟩, ⟨[27, 27]⟩⟩⟩, [⟨some (123, false), some 136, .load 27 (.tmp 135)⟩, ⟨some (123, false), some 140, .load 27 (.tmp 139)⟩]),
  (⟨some (123, false), some 141, .call ⟨.value (.func 12), ⟨[.tmp 136, .tmp 140]⟩, ⟨[27, 27]⟩⟩⟩, []),
  (⟨some (123, false), some 142, .binOp .neq 4 (.tmp 132) (.tmp 141) 4⟩, []),
  (⟨none, some 143, .pick (.tmp 123) (.const (.bool true)) (.tmp 142)⟩, []),
  (⟨none, some 144, .move (.tmp 143)⟩, []),
  (⟨some (144, false), some 145, .move (.tmp 3)⟩, []),
  (⟨some (144, false), some 146, .move (.tmp 9)⟩, []),
  (⟨some (144, false), some 147, .indexAddr 25 (.tmp 145) (.tmp 146)⟩, []),
  (⟨some (144, false), some 148, .load 27 (.tmp 147)⟩, []),
  (⟨some (144, false), some 149, .move (.tmp 3)⟩, []),
  (⟨some (144, false), some 150, .move (.tmp 10)⟩, []),
  (⟨some (144, false), some 151, .indexAddr 25 (.tmp 149) (.tmp 150)⟩, []),
  (⟨some (144, false), some 152, .load 27 (.tmp 151)⟩, []),
  (⟨some (144, false), some 153, .call ⟨.value (.func 28), ⟨[.tmp 148, .tmp 152]⟩, ⟨[27, 27]⟩⟩⟩, []),
  (⟨some (144, false), some 154, .move (.tmp 153)⟩, []),
  (⟨some (154, true), some 155, .move (.tmp 3)⟩, []),
  (⟨some (154, true), some 156, .move (.tmp 10)⟩, []),
  (⟨some (154, true), some 157, .indexAddr 25 (.tmp 155) (.tmp 156)⟩, []),
  (⟨some (154, true), some 158, .load 27 (.tmp 157)⟩, []),
  (⟨some (154, true), some 159, .move (.tmp 3)⟩, []),
  (⟨some (154, true), some 160, .move (.tmp 9)⟩, []),
  (⟨some (154, true), some 161, .indexAddr 25 (.tmp 159) (.tmp 160)⟩, []),
  (⟨some (154, true), some 162, .load 27 (.tmp 161)⟩, []),
  (⟨some (154, true), some 163, .call ⟨.value (.func 28), ⟨[.tmp 158, .tmp 162]⟩, ⟨[27, 27]⟩⟩⟩, []),
  (⟨some (144, false), some 164, .pick (.tmp 154) (.tmp 163) (.const (.bool false))⟩, []),
  (⟨none, some 165, .pick (.tmp 144) (.const (.bool true)) (.tmp 164)⟩, [])]
def p4_47_w {E fr h Q} := @planW_unf E fr h Q _ _ p4_47.eq_1
def s4_48 : GC := .seq (.plan p4_47) s4_46
def s4_48_w {E nt rd fr h Q} := @wp_unf E nt rd fr h Q _ _ s4_48.eq_1
def s4_49 : GC := .seq (.block 3 s4_48) s4_43
def s4_49_w {E nt rd fr h Q} := @wp_unf E nt rd fr h Q _ _ s4_49.eq_1
def s4_50 : GC := .cond (.tmp 101) .skip (.exit 2)
def s4_50_w {E nt rd fr h Q} := @wp_unf E nt rd fr h Q _ _ s4_50.eq_1
def r4_51 : List GO := [⟨none, some 98, .move (.tmp 10)⟩,
  ⟨none, some 99, .move (.tmp 3)⟩,
  ⟨none, some 100, .call ⟨.builtin .len, ⟨[.tmp 99]⟩, ⟨[25]⟩⟩⟩,
  ⟨none, some 101, .binOp .lss 3 (.tmp 98) (.tmp 100) 3⟩]
def r4_51_w {E fr h Q} := @opsW_unf E fr h Q _ _ r4_51.eq_1
def s4_52 : GC := .seq (.ops r4_51) s4_50
def s4_52_w {E nt rd fr h Q} := @wp_unf E nt rd fr h Q _ _ s4_52.eq_1
def s4_53 : GC := .seq (s4_52) s4_49
def s4_53_w {E nt rd fr h Q} := @wp_unf E nt rd fr h Q _ _ s4_53.eq_1
def s4_54 : GC := .loop s4_53
def s4_54_w {E nt rd fr h Q} := @wp_unf E nt rd fr h Q _ _ s4_54.eq_1
def s4_55 : GC := .block 2 s4_54
def s4_55_w {E nt rd fr h Q} := @wp_unf E nt rd fr h Q _ _ s4_55.eq_1
def r4_56 : List GO := [⟨none, some 10, .assign (.const (.int .i64 0))⟩]
def r4_56_w {E fr h Q} := @opsW_unf E fr h Q _ _ r4_56.eq_1
def s4_57 : GC := .seq (.ops r4_56) s4_55
def s4_57_w {E nt rd fr h Q} := @wp_unf E nt rd fr h Q _ _ s4_57.eq_1
def s4_58 : GC := .seq (s4_57) s4_41
def s4_58_w {E nt rd fr h Q} := @wp_unf E nt rd fr h Q _ _ s4_58.eq_1
def s4_59 : GC := .seq (.block 1 s4_58) s4_36
def s4_59_w {E nt rd fr h Q} := @wp_unf E nt rd fr h Q _ _ s4_59.eq_1
def s4_60 : GC := .cond (.tmp 95) .skip (.exit 0)
def s4_60_w {E nt rd fr h Q} := @wp_unf E nt rd fr h Q _ _ s4_60.eq_1
def r4_61 : List GO := [⟨none, some 92, .move (.tmp 9)⟩,
  ⟨none, some 93, .move (.tmp 3)⟩,
  ⟨none, some 94, .call ⟨.builtin .len, ⟨[.tmp 93]⟩, ⟨[25]⟩⟩⟩,
  ⟨none, some 95, .binOp .lss 3 (.tmp 92) (.tmp 94) 3⟩]
def r4_61_w {E fr h Q} := @opsW_unf E fr h Q _ _ r4_61.eq_1
def s4_62 : GC := .seq (.ops r4_61) s4_60
def s4_62_w {E nt rd fr h Q} := @wp_unf E nt rd fr h Q _ _ s4_62.eq_1
def s4_63 : GC := .seq (s4_62) s4_59
def s4_63_w {E nt rd fr h Q} := @wp_unf E nt rd fr h Q _ _ s4_63.eq_1
def s4_64 : GC := .loop s4_63
def s4_64_w {E nt rd fr h Q} := @wp_unf E nt rd fr h Q _ _ s4_64.eq_1
def s4_65 : GC := .block 0 s4_64
def s4_65_w {E nt rd fr h Q} := @wp_unf E nt rd fr h Q _ _ s4_65.eq_1
def r4_66 : List GO := [⟨none, some 9, .assign (.const (.int .i64 0))⟩]
def r4_66_w {E fr h Q} := @opsW_unf E fr h Q _ _ r4_66.eq_1
def s4_67 : GC := .seq (.ops r4_66) s4_65
def s4_67_w {E nt rd fr h Q} := @wp_unf E nt rd fr h Q _ _ s4_67.eq_1
def s4_68 : GC := .seq (s4_67) s4_34
def s4_68_w {E nt rd fr h Q} := @wp_unf E nt rd fr h Q _ _ s4_68.eq_1
def r4_69 : List GO := [⟨none, some 2, .assign (.const (.bool false))⟩]
def r4_69_w {E fr h Q} := @opsW_unf E fr h Q _ _ r4_69.eq_1
def s4_70 : GC := .seq (.ops r4_69) .ret
def s4_70_w {E nt rd fr h Q} := @wp_unf E nt rd fr h Q _ _ s4_70.eq_1
def s4_71 : GC := .cond (.tmp 91) s4_70 .skip
def s4_71_w {E nt rd fr h Q} := @wp_unf E nt rd fr h Q _ _ s4_71.eq_1
def r4_72 : List GO := [⟨none, some 58, .move (.tmp 6)⟩,
  ⟨none, some 59, .move (.tmp 58)⟩,
  ⟨some (59, true), some 60, .move (.tmp 5)⟩,
  ⟨some (59, true), some 61, .move (.tmp 4)⟩,
  ⟨some (59, true), some 62, .indexAddr 25 (.tmp 61) (.const (.int .i64 0))⟩,
  ⟨some (59, true), some 63, .load 27 (.tmp 62)⟩,
  ⟨some (59, true), some 64, .call ⟨.value (.func 12), ⟨[.tmp 60, .tmp 63]⟩, ⟨[27, 27]⟩⟩⟩,
  ⟨some (59, true), some 65, .unOp .not 4 (.tmp 64)⟩,
  ⟨some (59, true), some 66, .move (.tmp 65)⟩,
  ⟨some (66, false), some 67, .move (.tmp 7)⟩,
  ⟨some (66, false), some 68, .move (.tmp 4)⟩,
  ⟨some (66, false), some 69, .move (.tmp 4)⟩,
  ⟨some (66, false), some 70, .call ⟨.builtin .len, ⟨[.tmp 69]⟩, ⟨[25]⟩⟩⟩,
  ⟨some (66, false), some 71, .binOp .sub 3 (.tmp 70) (.const (.int .i64 1)) 3⟩,
  ⟨some (66, false), some 72, .indexAddr 25 (.tmp 68) (.tmp 71)⟩,
  ⟨some (66, false), some 73, .load 27 (.tmp 72)⟩,
  ⟨some (66, false), some 74, .call ⟨.value (.func 12), ⟨[.tmp 67, .tmp 73]⟩, ⟨[27, 27]⟩⟩⟩,
  ⟨some (66, false), some 75, .unOp .not 4 (.tmp 74)⟩,
  ⟨some (59, true), some 76, .pick (.tmp 66) (.const (.bool true)) (.tmp 75)⟩,
  ⟨none, some 77, .pick (.tmp 59) (.tmp 76) (.const (.bool false))⟩,
  ⟨none, some 78, .move (.tmp 77)⟩,
  ⟨some (78, false), some 79, .move (.tmp 6)⟩,
  ⟨some (78, false), some 80, .unOp .not 4 (.tmp 79)⟩,
  ⟨some (78, false), some 81, .move (.tmp 80)⟩,
  ⟨some (81, true), some 82, .move (.tmp 5)⟩,
  ⟨some (81, true), some 83, .call ⟨.value (.func 18), ⟨[.tmp 82]⟩, ⟨[27]⟩⟩⟩,
  ⟨some (81, true), some 84, .binOp .neq 23 (.tmp 83) (.const (.int .u64 0)) 23⟩,
  ⟨some (81, true), some 85, .move (.tmp 84)⟩,
  ⟨some (85, false), some 86, .move (.tmp 7)⟩,
  ⟨some (85, false), some 87, .call ⟨.value (.func 18), ⟨[.tmp 86]⟩, ⟨[27]⟩⟩⟩,
  ⟨some (85, false), some 88, .binOp .neq 23 (.tmp 87) (.const (.int .u64 0)) 23⟩,
  ⟨some (81, true), some 89, .pick (.tmp 85) (.const (.bool true)) (.tmp 88)⟩,
  ⟨some (78, false), some 90, .pick (.tmp 81) (.tmp 89) (.const (.bool false))⟩,
  ⟨none, some 91, .pick (.tmp 78) (.const (.bool true)) (.tmp 90)⟩]
def r4_72_w {E fr h Q} := @opsW_unf E fr h Q _ _ r4_72.eq_1
def s4_73 : GC := .seq (.ops r4_72) s4_71
def s4_73_w {E nt rd fr h Q} := @wp_unf E nt rd fr h Q _ _ s4_73.eq_1
def s4_74 : GC := .seq (s4_73) s4_68
def s4_74_w {E nt rd fr h Q} := @wp_unf E nt rd fr h Q _ _ s4_74.eq_1
def r4_75 : List GO := [⟨none, some 2, .assign (.const (.bool false))⟩]
def r4_75_w {E fr h Q} := @opsW_unf E fr h Q _ _ r4_75.eq_1
def s4_76 : GC := .seq (.ops r4_75) .ret
def s4_76_w {E nt rd fr h Q} := @wp_unf E nt rd fr h Q _ _ s4_76.eq_1
def s4_77 : GC := .cond (.tmp 57) s4_76 .skip
def s4_77_w {E nt rd fr h Q} := @wp_unf E nt rd fr h Q _ _ s4_77.eq_1
def r4_78 : List GO := [⟨none, some 32, .move (.tmp 6)⟩,
  ⟨none, some 33, .move (.tmp 4)⟩,
  ⟨none, some 34, .call ⟨.builtin .len, ⟨[.tmp 33]⟩, ⟨[25]⟩⟩⟩,
  ⟨none, some 35, .binOp .gtr 3 (.tmp 34) (.const (.int .i64 0)) 3⟩,
  ⟨none, some 36, .binOp .neq 4 (.tmp 32) (.tmp 35) 4⟩,
  ⟨none, some 37, .move (.tmp 36)⟩,
  ⟨some (37, false), some 38, .move (.tmp 8)⟩,
  ⟨some (37, false), some 39, .move (.tmp 6)⟩,
  ⟨some (37, false), some 40, .binOp .neq 4 (.tmp 38) (.tmp 39) 4⟩,
  ⟨none, some 41, .pick (.tmp 37) (.const (.bool true)) (.tmp 40)⟩,
  ⟨none, some 42, .move (.tmp 41)⟩,
  ⟨some (42, false), some 43, .move (.tmp 3)⟩,
  ⟨some (42, false), some 44, .call ⟨.value (.func 24), ⟨[.tmp 43]⟩, ⟨[25]⟩⟩⟩,
  ⟨some (42, false), some 45, .move (.tmp 3)⟩,
  ⟨some (42, false), some 46, .call ⟨.value (.func 25), ⟨[.tmp 45]⟩, ⟨[25]⟩⟩⟩,
  ⟨some (42, false), some 47, .call ⟨.value (.func 23), ⟨[.tmp 44, .tmp 46]⟩, ⟨[25, 25]⟩⟩⟩,
  ⟨some (42, false), some 48, .unOp .not 4 (.tmp 47)⟩,
  ⟨none, some 49, .pick (.tmp 42) (.const (.bool true)) (.tmp 48)⟩,
  ⟨none, some 50, .move (.tmp 49)⟩,
  ⟨some (50, false), some 51, .move (.tmp 3)⟩,
  ⟨some (50, false), some 52, .call ⟨.value (.func 26), ⟨[.tmp 51]⟩, ⟨[25]⟩⟩⟩,
  ⟨some (50, false), some 53, .move (.tmp 3)⟩,
  ⟨some (50, false), some 54, .call ⟨.value (.func 27), ⟨[.tmp 53]⟩, ⟨[25]⟩⟩⟩,
  ⟨some (50, false), some 55, .call ⟨.value (.func 12), ⟨[.tmp 52, .tmp 54]⟩, ⟨[27, 27]⟩⟩⟩,
  ⟨some (50, false), some 56, .unOp .not 4 (.tmp 55)⟩,
  ⟨none, some 57, .pick (.tmp 50) (.const (.bool true)) (.tmp 56)⟩]
def r4_78_w {E fr h Q} := @opsW_unf E fr h Q _ _ r4_78.eq_1
def s4_79 : GC := .seq (.ops r4_78) s4_77
def s4_79_w {E nt rd fr h Q} := @wp_unf E nt rd fr h Q _ _ s4_79.eq_1
def s4_80 : GC := .seq (s4_79) s4_74
def s4_80_w {E nt rd fr h Q} := @wp_unf E nt rd fr h Q _ _ s4_80.eq_1
def r4_81 : List GO := [⟨none, some 28, .move (.tmp 3)⟩,
  ⟨none, some 29, .call ⟨.value (.func 22), ⟨[.tmp 28]⟩, ⟨[25]⟩⟩⟩,
  ⟨none, some 27, .move (.tmp 29)⟩,
  ⟨none, some 30, .extract (.tmp 27) 0⟩,
  ⟨none, some 31, .extract (.tmp 27) 1⟩,
  ⟨none, some 7, .assign (.tmp 30)⟩,
  ⟨none, some 8, .assign (.tmp 31)⟩]
def r4_81_w {E fr h Q} := @opsW_unf E fr h Q _ _ r4_81.eq_1
def s4_82 : GC := .seq (.ops r4_81) s4_80
def s4_82_w {E nt rd fr h Q} := @wp_unf E nt rd fr h Q _ _ s4_82.eq_1
def r4_83 : List GO := [⟨none, some 23, .move (.tmp 3)⟩,
  ⟨none, some 24, .call ⟨.value (.func 21), ⟨[.tmp 23]⟩, ⟨[25]⟩⟩⟩,
  ⟨none, some 22, .move (.tmp 24)⟩,
  ⟨none, some 25, .extract (.tmp 22) 0⟩,
  ⟨none, some 26, .extract (.tmp 22) 1⟩,
  ⟨none, some 5, .assign (.tmp 25)⟩,
  ⟨none, some 6, .assign (.tmp 26)⟩]
def r4_83_w {E fr h Q} := @opsW_unf E fr h Q _ _ r4_83.eq_1
def s4_84 : GC := .seq (.ops r4_83) s4_82
def s4_84_w {E nt rd fr h Q} := @wp_unf E nt rd fr h Q _ _ s4_84.eq_1
def r4_85 : List GO := [⟨none, some 20, .move (.tmp 3)⟩,
  ⟨none, some 21, .call ⟨.value (.func 20), ⟨[.tmp 20]⟩, ⟨[25]⟩⟩⟩,
  ⟨none, some 4, .assign (.tmp 21)⟩]
def r4_85_w {E fr h Q} := @opsW_unf E fr h Q _ _ r4_85.eq_1
def s4_86 : GC := .seq (.ops r4_85) s4_84
def s4_86_w {E nt rd fr h Q} := @wp_unf E nt rd fr h Q _ _ s4_86.eq_1
def r4_87 : List GO := [⟨none, some 18, .move (.tmp 0)⟩,
  ⟨none, some 19, .call ⟨.value (.func 9), ⟨[.tmp 18]⟩, ⟨[22]⟩⟩⟩,
  ⟨none, some 3, .assign (.tmp 19)⟩]
def r4_87_w {E fr h Q} := @opsW_unf E fr h Q _ _ r4_87.eq_1
def s4_88 : GC := .seq (.ops r4_87) s4_86
def s4_88_w {E nt rd fr h Q} := @wp_unf E nt rd fr h Q _ _ s4_88.eq_1
def r4_89 : List GO := [⟨none, some 17, .call ⟨.value (.func 8), ⟨[]⟩, ⟨[]⟩⟩⟩,
  ⟨none, some 2, .assign (.tmp 17)⟩]
def r4_89_w {E fr h Q} := @opsW_unf E fr h Q _ _ r4_89.eq_1
def s4_90 : GC := .seq (.ops r4_89) .ret
def s4_90_w {E nt rd fr h Q} := @wp_unf E nt rd fr h Q _ _ s4_90.eq_1
def s4_91 : GC := .cond (.tmp 16) s4_90 .skip
def s4_91_w {E nt rd fr h Q} := @wp_unf E nt rd fr h Q _ _ s4_91.eq_1
def r4_92 : List GO := [⟨none, some 14, .move (.tmp 0)⟩,
  ⟨none, some 15, .call ⟨.builtin .len, ⟨[.tmp 14]⟩, ⟨[22]⟩⟩⟩,
  ⟨none, some 16, .binOp .gtr 3 (.tmp 15) (.const (.int .i64 60)) 3⟩]
def r4_92_w {E fr h Q} := @opsW_unf E fr h Q _ _ r4_92.eq_1
def s4_93 : GC := .seq (.ops r4_92) s4_91
def s4_93_w {E nt rd fr h Q} := @wp_unf E nt rd fr h Q _ _ s4_93.eq_1
def s4_94 : GC := .seq (s4_93) s4_88
def s4_94_w {E nt rd fr h Q} := @wp_unf E nt rd fr h Q _ _ s4_94.eq_1
def r4_95 : List GO := [⟨none, some 2, .assign (.const (.bool false))⟩]
def r4_95_w {E fr h Q} := @opsW_unf E fr h Q _ _ r4_95.eq_1
def s4_96 : GC := .seq (.ops r4_95) s4_94
def s4_96_w {E nt rd fr h Q} := @wp_unf E nt rd fr h Q _ _ s4_96.eq_1
theorem c4 : Tryd.f4.body.bind (clean env 223) = some s4_96 := by kernel_rfl
theorem e4 : env.funs.get 4 = some Tryd.f4 := by kernel_rfl
theorem F4 {args : List Value} {h : Heap} {K : Value → Heap → Prop} (hl : args.length = 1) (w : s4_96.wp env 223 none (setAll args 0 .leaf) h (resK env [.tmp 2] K)) : Ret env (.func 4) args h K :=
  Ret.of_body' rfl e4 c4 rfl rfl (by rw [hl]; decide) w
/-! helmsman/helmsmanlaw31.numbers -/
def r9_0 : List GO := [⟨none, some 19, .move (.tmp 3)⟩,
  ⟨none, some 2, .assign (.tmp 19)⟩]
def r9_0_w {E fr h Q} := @opsW_unf E fr h Q _ _ r9_0.eq_1
def s9_1 : GC := .seq (.ops r9_0) .ret
def s9_1_w {E nt rd fr h Q} := @wp_unf E nt rd fr h Q _ _ s9_1.eq_1
def r9_2 : List GO := [⟨none, some 9, .move (.tmp 4)⟩,
  ⟨none, some 10, .binOp .add 3 (.tmp 9) (.const (.int .i64 1)) 3⟩,
  ⟨none, some 4, .assign (.tmp 10)⟩]
def r9_2_w {E fr h Q} := @opsW_unf E fr h Q _ _ r9_2.eq_1
def s9_3 : GC := .ops r9_2
def s9_3_w {E nt rd fr h Q} := @wp_unf E nt rd fr h Q _ _ s9_3.eq_1
def r9_4 : List GO := [⟨none, some 11, .move (.tmp 3)⟩,
  ⟨none, some 12, .move (.tmp 0)⟩,
  ⟨none, some 13, .move (.tmp 4)⟩,
  ⟨none, some 14, .indexAddr 22 (.tmp 12) (.tmp 13)⟩,
  ⟨none, some 15, .load 23 (.tmp 14)⟩,
  ⟨none, some 16, .call ⟨.value (.func 10), ⟨[.tmp 15]⟩, ⟨[23]⟩⟩⟩,
  ⟨none, some 17, .buildSlice 25 1 ⟨[(0, .tmp 16)]⟩⟩,
  ⟨none, some 18, .call ⟨.builtin .append, ⟨[.tmp 11, .tmp 17]⟩, ⟨[25, 25]⟩⟩⟩,
  ⟨none, some 3, .assign (.tmp 18)⟩]
def r9_4_w {E fr h Q} := @opsW_unf E fr h Q _ _ r9_4.eq_1
def s9_5 : GC := .ops r9_4
def s9_5_w {E nt rd fr h Q} := @wp_unf E nt rd fr h Q _ _ s9_5.eq_1
def s9_6 : GC := .seq (.block 1 s9_5) s9_3
def s9_6_w {E nt rd fr h Q} := @wp_unf E nt rd fr h Q _ _ s9_6.eq_1
def s9_7 : GC := .cond (.tmp 8) .skip (.exit 0)
def s9_7_w {E nt rd fr h Q} := @wp_unf E nt rd fr h Q _ _ s9_7.eq_1
def r9_8 : List GO := [⟨none, some 5, .move (.tmp 4)⟩,
  ⟨none, some 6, .move (.tmp 0)⟩,
  ⟨none, some 7, .call ⟨.builtin .len, ⟨[.tmp 6]⟩, ⟨[22]⟩⟩⟩,
  ⟨none, some 8, .binOp .lss 3 (.tmp 5) (.tmp 7) 3⟩]
def r9_8_w {E fr h Q} := @opsW_unf E fr h Q _ _ r9_8.eq_1
def s9_9 : GC := .seq (.ops r9_8) s9_7
def s9_9_w {E nt rd fr h Q} := @wp_unf E nt rd fr h Q _ _ s9_9.eq_1
def s9_10 : GC := .seq (s9_9) s9_6
def s9_10_w {E nt rd fr h Q} := @wp_unf E nt rd fr h Q _ _ s9_10.eq_1
def s9_11 : GC := .loop s9_10
def s9_11_w {E nt rd fr h Q} := @wp_unf E nt rd fr h Q _ _ s9_11.eq_1
def s9_12 : GC := .block 0 s9_11
def s9_12_w {E nt rd fr h Q} := @wp_unf E nt rd fr h Q _ _ s9_12.eq_1
def r9_13 : List GO := [⟨none, some 4, .assign (.const (.int .i64 0))⟩]
def r9_13_w {E fr h Q} := @opsW_unf E fr h Q _ _ r9_13.eq_1
def s9_14 : GC := .seq (.ops r9_13) s9_12
def s9_14_w {E nt rd fr h Q} := @wp_unf E nt rd fr h Q _ _ s9_14.eq_1
def s9_15 : GC := .seq (s9_14) s9_1
def s9_15_w {E nt rd fr h Q} := @wp_unf E nt rd fr h Q _ _ s9_15.eq_1
def r9_16 : List GO := [⟨none, some 3, .assign (.const (.slice none 0 0))⟩]
def r9_16_w {E fr h Q} := @opsW_unf E fr h Q _ _ r9_16.eq_1
def s9_17 : GC := .seq (.ops r9_16) s9_15
def s9_17_w {E nt rd fr h Q} := @wp_unf E nt rd fr h Q _ _ s9_17.eq_1
def r9_18 : List GO := [⟨none, some 2, .assign (.const (.slice none 0 0))⟩]
def r9_18_w {E fr h Q} := @opsW_unf E fr h Q _ _ r9_18.eq_1
def s9_19 : GC := .seq (.ops r9_18) s9_17
def s9_19_w {E nt rd fr h Q} := @wp_unf E nt rd fr h Q _ _ s9_19.eq_1
theorem c9 : Tryd.f9.body.bind (clean env 20) = some s9_19 := by kernel_rfl
theorem e9 : env.funs.get 9 = some Tryd.f9 := by kernel_rfl
theorem F9 {args : List Value} {h : Heap} {K : Value → Heap → Prop} (hl : args.length = 1) (w : s9_19.wp env 20 none (setAll args 0 .leaf) h (resK env [.tmp 2] K)) : Ret env (.func 9) args h K :=
  Ret.of_body' rfl e9 c9 rfl rfl (by rw [hl]; decide) w
/-! helmsman/helmsmanref31.Same -/
def r12_0 : List GO := [⟨none, some 5, .move (.tmp 0)⟩,
  ⟨none, some 6, .call ⟨.value (.func 19), ⟨[.tmp 5]⟩, ⟨[27]⟩⟩⟩,
  ⟨none, some 7, .move (.tmp 6)⟩,
  ⟨some (7, true), some 8, .move (.tmp 1)⟩,
  ⟨some (7, true), some 9, .call ⟨.value (.func 19), ⟨[.tmp 8]⟩, ⟨[27]⟩⟩⟩,
  ⟨none, some 10, .pick (.tmp 7) (.tmp 9) (.const (.bool false))⟩,
  ⟨none, some 11, .move (.tmp 10)⟩,
  ⟨some (11, false), some 12, .move (.tmp 0)⟩,
  ⟨some (11, false), some 13, .call ⟨.value (.func 18), ⟨[.tmp 12]⟩, ⟨[27]⟩⟩⟩,
  ⟨some (11, false), some 14, .move (.tmp 1)⟩,
  ⟨some (11, false), some 15, .call ⟨.value (.func 18), ⟨[.tmp 14]⟩, ⟨[27]⟩⟩⟩,
  ⟨some (11, false), some 16, .binOp .eql 23 (.tmp 13) (.tmp 15) 23⟩,
  ⟨none, some 17, .pick (.tmp 11) (.const (.bool true)) (.tmp 16)⟩,
  ⟨none, some 4, .assign (.tmp 17)⟩]
def r12_0_w {E fr h Q} := @opsW_unf E fr h Q _ _ r12_0.eq_1
def s12_1 : GC := .seq (.ops r12_0) .ret
def s12_1_w {E nt rd fr h Q} := @wp_unf E nt rd fr h Q _ _ s12_1.eq_1
def r12_2 : List GO := [⟨none, some 4, .assign (.const (.bool false))⟩]
def r12_2_w {E fr h Q} := @opsW_unf E fr h Q _ _ r12_2.eq_1
def s12_3 : GC := .seq (.ops r12_2) s12_1
def s12_3_w {E nt rd fr h Q} := @wp_unf E nt rd fr h Q _ _ s12_3.eq_1
theorem c12 : Tryd.f12.body.bind (clean env 18) = some s12_3 := by kernel_rfl
theorem e12 : env.funs.get 12 = some Tryd.f12 := by kernel_rfl
theorem F12 {args : List Value} {h : Heap} {K : Value → Heap → Prop} (hl : args.length = 2) (w : s12_3.wp env 18 none (setAll args 0 .leaf) h (resK env [.tmp 4] K)) : Ret env (.func 12) args h K :=
  Ret.of_body' rfl e12 c12 rfl rfl (by rw [hl]; decide) w
/-! helmsman/share.Sum -/
def r13_0 : List GO := [⟨none, some 23, .move (.tmp 3)⟩,
  ⟨none, some 2, .assign (.tmp 23)⟩]
def r13_0_w {E fr h Q} := @opsW_unf E fr h Q _ _ r13_0.eq_1
def s13_1 : GC := .seq (.ops r13_0) .ret
def s13_1_w {E nt rd fr h Q} := @wp_unf E nt rd fr h Q _ _ s13_1.eq_1
def r13_2 : List GO := [⟨none, some 22, .binOp .add 3 (.tmp 15) (.const (.int .i64 1)) 3⟩,
  ⟨none, some 15, .move (.tmp 22)⟩]
def r13_2_w {E fr h Q} := @opsW_unf E fr h Q _ _ r13_2.eq_1
def s13_3 : GC := .ops r13_2
def s13_3_w {E nt rd fr h Q} := @wp_unf E nt rd fr h Q _ _ s13_3.eq_1
def r13_4 : List GO := [⟨none, some 19, .move (.tmp 3)⟩,
  ⟨none, some 20, .move (.tmp 5)⟩,
  ⟨none, some 21, .binOp .add 27 (.tmp 19) (.tmp 20) 27⟩,
  ⟨none, some 3, .assign (.tmp 21)⟩]
def r13_4_w {E fr h Q} := @opsW_unf E fr h Q _ _ r13_4.eq_1
def s13_5 : GC := .ops r13_4
def s13_5_w {E nt rd fr h Q} := @wp_unf E nt rd fr h Q _ _ s13_5.eq_1
def r13_6 : List GO := [⟨none, some 17, .indexAddr 25 (.tmp 13) (.tmp 15)⟩,
  ⟨none, some 18, .load 27 (.tmp 17)⟩,
  ⟨none, some 5, .assign (.tmp 18)⟩]
def r13_6_w {E fr h Q} := @opsW_unf E fr h Q _ _ r13_6.eq_1
def s13_7 : GC := .seq (.ops r13_6) s13_5
def s13_7_w {E nt rd fr h Q} := @wp_unf E nt rd fr h Q _ _ s13_7.eq_1
def s13_8 : GC := .seq (.block 1 s13_7) s13_3
def s13_8_w {E nt rd fr h Q} := @wp_unf E nt rd fr h Q _ _ s13_8.eq_1
def s13_9 : GC := .cond (.tmp 16) .skip (.exit 0)
def s13_9_w {E nt rd fr h Q} := @wp_unf E nt rd fr h Q _ _ s13_9.eq_1
def s13_10 : GC := .seq (s13_9) s13_8
def s13_10_w {E nt rd fr h Q} := @wp_unf E nt rd fr h Q _ _ s13_10.eq_1
def r13_11 : List GO := [⟨none, some 16, .binOp .lss 3 (.tmp 15) (.tmp 14) 3⟩]
def r13_11_w {E fr h Q} := @opsW_unf E fr h Q _ _ r13_11.eq_1
def s13_12 : GC := .seq (.ops r13_11) s13_10
def s13_12_w {E nt rd fr h Q} := @wp_unf E nt rd fr h Q _ _ s13_12.eq_1
def s13_13 : GC := .loop s13_12
def s13_13_w {E nt rd fr h Q} := @wp_unf E nt rd fr h Q _ _ s13_13.eq_1
def s13_14 : GC := .block 0 s13_13
def s13_14_w {E nt rd fr h Q} := @wp_unf E nt rd fr h Q _ _ s13_14.eq_1
def r13_15 : List GO := [⟨none, some 12, .move (.tmp 0)⟩,
  ⟨none, some 13, .slice 25 (.tmp 12) (some (.const (.int .i64 1))) none none⟩,
  ⟨none, some 14, .call ⟨.builtin .len, ⟨[.tmp 13]⟩, ⟨[25]⟩⟩⟩,
  ⟨none, some 15, .move (.const (.int .i64 0))⟩]
def r13_15_w {E fr h Q} := @opsW_unf E fr h Q _ _ r13_15.eq_1
def s13_16 : GC := .seq (.ops r13_15) s13_14
def s13_16_w {E nt rd fr h Q} := @wp_unf E nt rd fr h Q _ _ s13_16.eq_1
def s13_17 : GC := .seq (s13_16) s13_1
def s13_17_w {E nt rd fr h Q} := @wp_unf E nt rd fr h Q _ _ s13_17.eq_1
def r13_18 : List GO := [⟨none, some 9, .move (.tmp 0)⟩,
  ⟨none, some 10, .indexAddr 25 (.tmp 9) (.const (.int .i64 0))⟩,
  ⟨none, some 11, .load 27 (.tmp 10)⟩,
  ⟨none, some 3, .assign (.tmp 11)⟩]
def r13_18_w {E fr h Q} := @opsW_unf E fr h Q _ _ r13_18.eq_1
def s13_19 : GC := .seq (.ops r13_18) s13_17
def s13_19_w {E nt rd fr h Q} := @wp_unf E nt rd fr h Q _ _ s13_19.eq_1
def r13_20 : List GO := [⟨none, some 2, .assign (.const (.float .f64 0))⟩]
def r13_20_w {E fr h Q} := @opsW_unf E fr h Q _ _ r13_20.eq_1
def s13_21 : GC := .seq (.ops r13_20) .ret
def s13_21_w {E nt rd fr h Q} := @wp_unf E nt rd fr h Q _ _ s13_21.eq_1
def s13_22 : GC := .cond (.tmp 8) s13_21 .skip
def s13_22_w {E nt rd fr h Q} := @wp_unf E nt rd fr h Q _ _ s13_22.eq_1
def r13_23 : List GO := [⟨none, some 6, .move (.tmp 0)⟩,
  ⟨none, some 7, .call ⟨.builtin .len, ⟨[.tmp 6]⟩, ⟨[25]⟩⟩⟩,
  ⟨none, some 8, .binOp .eql 3 (.tmp 7) (.const (.int .i64 0)) 3⟩]
def r13_23_w {E fr h Q} := @opsW_unf E fr h Q _ _ r13_23.eq_1
def s13_24 : GC := .seq (.ops r13_23) s13_22
def s13_24_w {E nt rd fr h Q} := @wp_unf E nt rd fr h Q _ _ s13_24.eq_1
def s13_25 : GC := .seq (s13_24) s13_19
def s13_25_w {E nt rd fr h Q} := @wp_unf E nt rd fr h Q _ _ s13_25.eq_1
def r13_26 : List GO := [⟨none, some 2, .assign (.const (.float .f64 0))⟩]
def r13_26_w {E fr h Q} := @opsW_unf E fr h Q _ _ r13_26.eq_1
def s13_27 : GC := .seq (.ops r13_26) s13_25
def s13_27_w {E nt rd fr h Q} := @wp_unf E nt rd fr h Q _ _ s13_27.eq_1
theorem c13 : Tryd.f13.body.bind (clean env 24) = some s13_27 := by kernel_rfl
theorem e13 : env.funs.get 13 = some Tryd.f13 := by kernel_rfl
theorem F13 {args : List Value} {h : Heap} {K : Value → Heap → Prop} (hl : args.length = 1) (w : s13_27.wp env 24 none (setAll args 0 .leaf) h (resK env [.tmp 2] K)) : Ret env (.func 13) args h K :=
  Ret.of_body' rfl e13 c13 rfl rfl (by rw [hl]; decide) w
/-! helmsman/share.Ratio -/
def r17_0 : List GO := [⟨none, some 5, .move (.tmp 0)⟩,
  ⟨none, some 6, .move (.tmp 1)⟩,
  ⟨none, some 7, .binOp .quo 27 (.tmp 5) (.tmp 6) 27⟩,
  ⟨none, some 4, .assign (.tmp 7)⟩]
def r17_0_w {E fr h Q} := @opsW_unf E fr h Q _ _ r17_0.eq_1
def s17_1 : GC := .seq (.ops r17_0) .ret
def s17_1_w {E nt rd fr h Q} := @wp_unf E nt rd fr h Q _ _ s17_1.eq_1
def r17_2 : List GO := [⟨none, some 4, .assign (.const (.float .f64 0))⟩]
def r17_2_w {E fr h Q} := @opsW_unf E fr h Q _ _ r17_2.eq_1
def s17_3 : GC := .seq (.ops r17_2) s17_1
def s17_3_w {E nt rd fr h Q} := @wp_unf E nt rd fr h Q _ _ s17_3.eq_1
theorem c17 : Tryd.f17.body.bind (clean env 8) = some s17_3 := by kernel_rfl
theorem e17 : env.funs.get 17 = some Tryd.f17 := by kernel_rfl
theorem F17 {args : List Value} {h : Heap} {K : Value → Heap → Prop} (hl : args.length = 2) (w : s17_3.wp env 8 none (setAll args 0 .leaf) h (resK env [.tmp 4] K)) : Ret env (.func 17) args h K :=
  Ret.of_body' rfl e17 c17 rfl rfl (by rw [hl]; decide) w
/-! helmsman/helmsmanref31.Numbers -/
def r20_0 : List GO := [⟨none, some 27, .move (.tmp 3)⟩,
  ⟨none, some 2, .assign (.tmp 27)⟩]
def r20_0_w {E fr h Q} := @opsW_unf E fr h Q _ _ r20_0.eq_1
def s20_1 : GC := .seq (.ops r20_0) .ret
def s20_1_w {E nt rd fr h Q} := @wp_unf E nt rd fr h Q _ _ s20_1.eq_1
def r20_2 : List GO := [⟨none, some 12, .move (.tmp 5)⟩,
  ⟨none, some 13, .binOp .add 3 (.tmp 12) (.const (.int .i64 1)) 3⟩,
  ⟨none, some 5, .assign (.tmp 13)⟩]
def r20_2_w {E fr h Q} := @opsW_unf E fr h Q _ _ r20_2.eq_1
def s20_3 : GC := .ops r20_2
def s20_3_w {E nt rd fr h Q} := @wp_unf E nt rd fr h Q _ _ s20_3.eq_1
def r20_4 : List GO := [⟨none, some 20, .move (.tmp 3)⟩,
  ⟨none, some 21, .move (.tmp 4)⟩,
  ⟨none, some 22, .move (.tmp 5)⟩,
  ⟨none, some 23, .indexAddr 25 (.tmp 21) (.tmp 22)⟩,
  ⟨none, some 24, .load 27 (.tmp 23)⟩,
  ⟨none, some 25, .buildSlice 25 1 ⟨[(0, .tmp 24)]⟩⟩,
  ⟨none, some 26, .call ⟨.builtin .append, ⟨[.tmp 20, .tmp 25]⟩, ⟨[25, 25]⟩⟩⟩,
  ⟨none, some 3, .assign (.tmp 26)⟩]
def r20_4_w {E fr h Q} := @opsW_unf E fr h Q _ _ r20_4.eq_1
def s20_5 : GC := .ops r20_4
def s20_5_w {E nt rd fr h Q} := @wp_unf E nt rd fr h Q _ _ s20_5.eq_1
def s20_6 : GC := .cond (.tmp 19) s20_5 .skip
def s20_6_w {E nt rd fr h Q} := @wp_unf E nt rd fr h Q _ _ s20_6.eq_1
def r20_7 : List GO := [⟨none, some 14, .move (.tmp 4)⟩,
  ⟨none, some 15, .move (.tmp 5)⟩,
  ⟨none, some 16, .indexAddr 25 (.tmp 14) (.tmp 15)⟩,
  ⟨none, some 17, .load 27 (.tmp 16)⟩,
  ⟨none, some 18, .call ⟨.value (.func 19), ⟨[.tmp 17]⟩, ⟨[27]⟩⟩⟩,
  ⟨none, some 19, .unOp .not 4 (.tmp 18)⟩]
def r20_7_w {E fr h Q} := @opsW_unf E fr h Q _ _ r20_7.eq_1
def s20_8 : GC := .seq (.ops r20_7) s20_6
def s20_8_w {E nt rd fr h Q} := @wp_unf E nt rd fr h Q _ _ s20_8.eq_1
def s20_9 : GC := .seq (.block 1 s20_8) s20_3
def s20_9_w {E nt rd fr h Q} := @wp_unf E nt rd fr h Q _ _ s20_9.eq_1
def s20_10 : GC := .cond (.tmp 11) .skip (.exit 0)
def s20_10_w {E nt rd fr h Q} := @wp_unf E nt rd fr h Q _ _ s20_10.eq_1
def r20_11 : List GO := [⟨none, some 8, .move (.tmp 5)⟩,
  ⟨none, some 9, .move (.tmp 4)⟩,
  ⟨none, some 10, .call ⟨.builtin .len, ⟨[.tmp 9]⟩, ⟨[25]⟩⟩⟩,
  ⟨none, some 11, .binOp .lss 3 (.tmp 8) (.tmp 10) 3⟩]
def r20_11_w {E fr h Q} := @opsW_unf E fr h Q _ _ r20_11.eq_1
def s20_12 : GC := .seq (.ops r20_11) s20_10
def s20_12_w {E nt rd fr h Q} := @wp_unf E nt rd fr h Q _ _ s20_12.eq_1
def s20_13 : GC := .seq (s20_12) s20_9
def s20_13_w {E nt rd fr h Q} := @wp_unf E nt rd fr h Q _ _ s20_13.eq_1
def s20_14 : GC := .loop s20_13
def s20_14_w {E nt rd fr h Q} := @wp_unf E nt rd fr h Q _ _ s20_14.eq_1
def s20_15 : GC := .block 0 s20_14
def s20_15_w {E nt rd fr h Q} := @wp_unf E nt rd fr h Q _ _ s20_15.eq_1
def r20_16 : List GO := [⟨none, some 5, .assign (.const (.int .i64 0))⟩]
def r20_16_w {E fr h Q} := @opsW_unf E fr h Q _ _ r20_16.eq_1
def s20_17 : GC := .seq (.ops r20_16) s20_15
def s20_17_w {E nt rd fr h Q} := @wp_unf E nt rd fr h Q _ _ s20_17.eq_1
def s20_18 : GC := .seq (s20_17) s20_1
def s20_18_w {E nt rd fr h Q} := @wp_unf E nt rd fr h Q _ _ s20_18.eq_1
def r20_19 : List GO := [⟨none, some 6, .move (.tmp 0)⟩,
  ⟨none, some 7, .call ⟨.value (.func 25), ⟨[.tmp 6]⟩, ⟨[25]⟩⟩⟩,
  ⟨none, some 4, .assign (.tmp 7)⟩]
def r20_19_w {E fr h Q} := @opsW_unf E fr h Q _ _ r20_19.eq_1
def s20_20 : GC := .seq (.ops r20_19) s20_18
def s20_20_w {E nt rd fr h Q} := @wp_unf E nt rd fr h Q _ _ s20_20.eq_1
def r20_21 : List GO := [⟨none, some 3, .assign (.const (.slice none 0 0))⟩]
def r20_21_w {E fr h Q} := @opsW_unf E fr h Q _ _ r20_21.eq_1
def s20_22 : GC := .seq (.ops r20_21) s20_20
def s20_22_w {E nt rd fr h Q} := @wp_unf E nt rd fr h Q _ _ s20_22.eq_1
def r20_23 : List GO := [⟨none, some 2, .assign (.const (.slice none 0 0))⟩]
def r20_23_w {E fr h Q} := @opsW_unf E fr h Q _ _ r20_23.eq_1
def s20_24 : GC := .seq (.ops r20_23) s20_22
def s20_24_w {E nt rd fr h Q} := @wp_unf E nt rd fr h Q _ _ s20_24.eq_1
theorem c20 : Tryd.f20.body.bind (clean env 28) = some s20_24 := by kernel_rfl
theorem e20 : env.funs.get 20 = some Tryd.f20 := by kernel_rfl
theorem F20 {args : List Value} {h : Heap} {K : Value → Heap → Prop} (hl : args.length = 1) (w : s20_24.wp env 28 none (setAll args 0 .leaf) h (resK env [.tmp 2] K)) : Ret env (.func 20) args h K :=
  Ret.of_body' rfl e20 c20 rfl rfl (by rw [hl]; decide) w
/-! helmsman/share.Least -/
def r21_0 : List GO := [⟨none, some 4, .move (.tmp 0)⟩,
  ⟨none, some 5, .call ⟨.value (.func 42), ⟨[.tmp 4]⟩, ⟨[25]⟩⟩⟩,
  ⟨none, some 6, .call ⟨.value (.func 41), ⟨[.tmp 5, .const (.int .i64 0)]⟩, ⟨[25, 3]⟩⟩⟩,
  ⟨none, some 7, .extract (.tmp 6) 0⟩,
  ⟨none, some 8, .extract (.tmp 6) 1⟩,
  ⟨none, some 2, .assign (.tmp 7)⟩,
  ⟨none, some 3, .assign (.tmp 8)⟩]
def r21_0_w {E fr h Q} := @opsW_unf E fr h Q _ _ r21_0.eq_1
def s21_1 : GC := .seq (.ops r21_0) .ret
def s21_1_w {E nt rd fr h Q} := @wp_unf E nt rd fr h Q _ _ s21_1.eq_1
def r21_2 : List GO := [⟨none, some 2, .assign (.const (.float .f64 0))⟩,
  ⟨none, some 3, .assign (.const (.bool false))⟩]
def r21_2_w {E fr h Q} := @opsW_unf E fr h Q _ _ r21_2.eq_1
def s21_3 : GC := .seq (.ops r21_2) s21_1
def s21_3_w {E nt rd fr h Q} := @wp_unf E nt rd fr h Q _ _ s21_3.eq_1
theorem c21 : Tryd.f21.body.bind (clean env 9) = some s21_3 := by kernel_rfl
theorem e21 : env.funs.get 21 = some Tryd.f21 := by kernel_rfl
theorem F21 {args : List Value} {h : Heap} {K : Value → Heap → Prop} (hl : args.length = 1) (w : s21_3.wp env 9 none (setAll args 0 .leaf) h (resK env [.tmp 2, .tmp 3] K)) : Ret env (.func 21) args h K :=
  Ret.of_body' rfl e21 c21 rfl rfl (by rw [hl]; decide) w
/-! helmsman/share.Most -/
def r22_0 : List GO := [⟨none, some 7, .move (.tmp 4)⟩,
  ⟨none, some 8, .move (.tmp 4)⟩,
  ⟨none, some 9, .call ⟨.builtin .len, ⟨[.tmp 8]⟩, ⟨[25]⟩⟩⟩,
  ⟨none, some 10, .binOp .sub 3 (.tmp 9) (.const (.int .i64 1)) 3⟩,
  ⟨none, some 11, .call ⟨.value (.func 41), ⟨[.tmp 7, .tmp 10]⟩, ⟨[25, 3]⟩⟩⟩,
  ⟨none, some 12, .extract (.tmp 11) 0⟩,
  ⟨none, some 13, .extract (.tmp 11) 1⟩,
  ⟨none, some 2, .assign (.tmp 12)⟩,
  ⟨none, some 3, .assign (.tmp 13)⟩]
def r22_0_w {E fr h Q} := @opsW_unf E fr h Q _ _ r22_0.eq_1
def s22_1 : GC := .seq (.ops r22_0) .ret
def s22_1_w {E nt rd fr h Q} := @wp_unf E nt rd fr h Q _ _ s22_1.eq_1
def r22_2 : List GO := [⟨none, some 5, .move (.tmp 0)⟩,
  ⟨none, some 6, .call ⟨.value (.func 42), ⟨[.tmp 5]⟩, ⟨[25]⟩⟩⟩,
  ⟨none, some 4, .assign (.tmp 6)⟩]
def r22_2_w {E fr h Q} := @opsW_unf E fr h Q _ _ r22_2.eq_1
def s22_3 : GC := .seq (.ops r22_2) s22_1
def s22_3_w {E nt rd fr h Q} := @wp_unf E nt rd fr h Q _ _ s22_3.eq_1
def r22_4 : List GO := [⟨none, some 2, .assign (.const (.float .f64 0))⟩,
  ⟨none, some 3, .assign (.const (.bool false))⟩]
def r22_4_w {E fr h Q} := @opsW_unf E fr h Q _ _ r22_4.eq_1
def s22_5 : GC := .seq (.ops r22_4) s22_3
def s22_5_w {E nt rd fr h Q} := @wp_unf E nt rd fr h Q _ _ s22_5.eq_1
theorem c22 : Tryd.f22.body.bind (clean env 14) = some s22_5 := by kernel_rfl
theorem e22 : env.funs.get 22 = some Tryd.f22 := by kernel_rfl
theorem F22 {args : List Value} {h : Heap} {K : Value → Heap → Prop} (hl : args.length = 1) (w : s22_5.wp env 14 none (setAll args 0 .leaf) h (resK env [.tmp 2, .tmp 3] K)) : Ret env (.func 22) args h K :=
  Ret.of_body' rfl e22 c22 rfl rfl (by rw [hl]; decide) w
/-! helmsman/helmsmanref31.SameAll -/
def r23_0 : List GO := [⟨none, some 4, .assign (.const (.bool true))⟩]
def r23_0_w {E fr h Q} := @opsW_unf E fr h Q _ _ r23_0.eq_1
def s23_1 : GC := .seq (.ops r23_0) .ret
def s23_1_w {E nt rd fr h Q} := @wp_unf E nt rd fr h Q _ _ s23_1.eq_1
def r23_2 : List GO := [⟨none, some 15, .move (.tmp 5)⟩,
  ⟨none, some 16, .binOp .add 3 (.tmp 15) (.const (.int .i64 1)) 3⟩,
  ⟨none, some 5, .assign (.tmp 16)⟩]
def r23_2_w {E fr h Q} := @opsW_unf E fr h Q _ _ r23_2.eq_1
def s23_3 : GC := .ops r23_2
def s23_3_w {E nt rd fr h Q} := @wp_unf E nt rd fr h Q _ _ s23_3.eq_1
def r23_4 : List GO := [⟨none, some 4, .assign (.const (.bool false))⟩]
def r23_4_w {E fr h Q} := @opsW_unf E fr h Q _ _ r23_4.eq_1
def s23_5 : GC := .seq (.ops r23_4) .ret
def s23_5_w {E nt rd fr h Q} := @wp_unf E nt rd fr h Q _ _ s23_5.eq_1
def s23_6 : GC := .cond (.tmp 26) s23_5 .skip
def s23_6_w {E nt rd fr h Q} := @wp_unf E nt rd fr h Q _ _ s23_6.eq_1
def p23_7 : List (GO × List GO) := [(⟨none, some 17, .move (.tmp 0)⟩, []),
  (⟨none, some 18, .move (.tmp 5)⟩, []),
  (⟨none, some 19, .indexAddr 25 (.tmp 17) (.tmp 18)⟩, []),
  (⟨none, some 20, .load 27 (.tmp 19)⟩, []),
  (⟨none, some 21, .move (.tmp 1)⟩, []),
  (⟨none, some 22, .move (.tmp 5)⟩, []),
  (⟨none, some 23, .indexAddr 25 (.tmp 21) (.tmp 22)⟩, []),
  (⟨none, some 24, .load 27 (.tmp 23)⟩, []),
  (⟨none, some 25, .call ⟨.value (.func 12), ⟨[.tmp 20, .tmp 24]⟩, ⟨[27, 27]⟩⟩⟩, []),
  (⟨none, some 26, .unOp .not 4 (.tmp 25)⟩, [])]
def p23_7_w {E fr h Q} := @planW_unf E fr h Q _ _ p23_7.eq_1
def s23_8 : GC := .seq (.plan p23_7) s23_6
def s23_8_w {E nt rd fr h Q} := @wp_unf E nt rd fr h Q _ _ s23_8.eq_1
def s23_9 : GC := .seq (.block 1 s23_8) s23_3
def s23_9_w {E nt rd fr h Q} := @wp_unf E nt rd fr h Q _ _ s23_9.eq_1
def s23_10 : GC := .cond (.tmp 14) .skip (.exit 0)
def s23_10_w {E nt rd fr h Q} := @wp_unf E nt rd fr h Q _ _ s23_10.eq_1
def r23_11 : List GO := [⟨none, some 11, .move (.tmp 5)⟩,
  ⟨none, some 12, .move (.tmp 0)⟩,
  ⟨none, some 13, .call ⟨.builtin .len, ⟨[.tmp 12]⟩, ⟨[25]⟩⟩⟩,
  ⟨none, some 14, .binOp .lss 3 (.tmp 11) (.tmp 13) 3⟩]
def r23_11_w {E fr h Q} := @opsW_unf E fr h Q _ _ r23_11.eq_1
def s23_12 : GC := .seq (.ops r23_11) s23_10
def s23_12_w {E nt rd fr h Q} := @wp_unf E nt rd fr h Q _ _ s23_12.eq_1
def s23_13 : GC := .seq (s23_12) s23_9
def s23_13_w {E nt rd fr h Q} := @wp_unf E nt rd fr h Q _ _ s23_13.eq_1
def s23_14 : GC := .loop s23_13
def s23_14_w {E nt rd fr h Q} := @wp_unf E nt rd fr h Q _ _ s23_14.eq_1
def s23_15 : GC := .block 0 s23_14
def s23_15_w {E nt rd fr h Q} := @wp_unf E nt rd fr h Q _ _ s23_15.eq_1
def r23_16 : List GO := [⟨none, some 5, .assign (.const (.int .i64 0))⟩]
def r23_16_w {E fr h Q} := @opsW_unf E fr h Q _ _ r23_16.eq_1
def s23_17 : GC := .seq (.ops r23_16) s23_15
def s23_17_w {E nt rd fr h Q} := @wp_unf E nt rd fr h Q _ _ s23_17.eq_1
def s23_18 : GC := .seq (s23_17) s23_1
def s23_18_w {E nt rd fr h Q} := @wp_unf E nt rd fr h Q _ _ s23_18.eq_1
def r23_19 : List GO := [⟨none, some 4, .assign (.const (.bool false))⟩]
def r23_19_w {E fr h Q} := @opsW_unf E fr h Q _ _ r23_19.eq_1
def s23_20 : GC := .seq (.ops r23_19) .ret
def s23_20_w {E nt rd fr h Q} := @wp_unf E nt rd fr h Q _ _ s23_20.eq_1
def s23_21 : GC := .cond (.tmp 10) s23_20 .skip
def s23_21_w {E nt rd fr h Q} := @wp_unf E nt rd fr h Q _ _ s23_21.eq_1
def r23_22 : List GO := [⟨none, some 6, .move (.tmp 0)⟩,
  ⟨none, some 7, .call ⟨.builtin .len, ⟨[.tmp 6]⟩, ⟨[25]⟩⟩⟩,
  ⟨none, some 8, .move (.tmp 1)⟩,
  ⟨none, some 9, .call ⟨.builtin .len, ⟨[.tmp 8]⟩, ⟨[25]⟩⟩⟩,
  ⟨none, some 10, .binOp .neq 3 (.tmp 7) (.tmp 9) 3⟩]
def r23_22_w {E fr h Q} := @opsW_unf E fr h Q _ _ r23_22.eq_1
def s23_23 : GC := .seq (.ops r23_22) s23_21
def s23_23_w {E nt rd fr h Q} := @wp_unf E nt rd fr h Q _ _ s23_23.eq_1
def s23_24 : GC := .seq (s23_23) s23_18
def s23_24_w {E nt rd fr h Q} := @wp_unf E nt rd fr h Q _ _ s23_24.eq_1
def r23_25 : List GO := [⟨none, some 4, .assign (.const (.bool false))⟩]
def r23_25_w {E fr h Q} := @opsW_unf E fr h Q _ _ r23_25.eq_1
def s23_26 : GC := .seq (.ops r23_25) s23_24
def s23_26_w {E nt rd fr h Q} := @wp_unf E nt rd fr h Q _ _ s23_26.eq_1
theorem c23 : Tryd.f23.body.bind (clean env 27) = some s23_26 := by kernel_rfl
theorem e23 : env.funs.get 23 = some Tryd.f23 := by kernel_rfl
theorem F23 {args : List Value} {h : Heap} {K : Value → Heap → Prop} (hl : args.length = 2) (w : s23_26.wp env 27 none (setAll args 0 .leaf) h (resK env [.tmp 4] K)) : Ret env (.func 23) args h K :=
  Ret.of_body' rfl e23 c23 rfl rfl (by rw [hl]; decide) w
/-! helmsman/share.Sort -/
def r24_0 : List GO := [⟨none, some 8, .move (.tmp 3)⟩,
  ⟨none, some 2, .assign (.tmp 8)⟩]
def r24_0_w {E fr h Q} := @opsW_unf E fr h Q _ _ r24_0.eq_1
def s24_1 : GC := .seq (.ops r24_0) .ret
def s24_1_w {E nt rd fr h Q} := @wp_unf E nt rd fr h Q _ _ s24_1.eq_1
def r24_2 : List GO := [⟨none, some 6, .move (.tmp 3)⟩,
  ⟨none, some 7, .call ⟨.value (.func 44), ⟨[.tmp 6, .func 45]⟩, ⟨[25, 63]⟩⟩⟩]
def r24_2_w {E fr h Q} := @opsW_unf E fr h Q _ _ r24_2.eq_1
def s24_3 : GC := .seq (.ops r24_2) s24_1
def s24_3_w {E nt rd fr h Q} := @wp_unf E nt rd fr h Q _ _ s24_3.eq_1
def r24_4 : List GO := [⟨none, some 4, .move (.tmp 0)⟩,
  ⟨none, some 5, .call ⟨.value (.func 43), ⟨[.tmp 4]⟩, ⟨[25]⟩⟩⟩,
  ⟨none, some 3, .assign (.tmp 5)⟩]
def r24_4_w {E fr h Q} := @opsW_unf E fr h Q _ _ r24_4.eq_1
def s24_5 : GC := .seq (.ops r24_4) s24_3
def s24_5_w {E nt rd fr h Q} := @wp_unf E nt rd fr h Q _ _ s24_5.eq_1
def r24_6 : List GO := [⟨none, some 2, .assign (.const (.slice none 0 0))⟩]
def r24_6_w {E fr h Q} := @opsW_unf E fr h Q _ _ r24_6.eq_1
def s24_7 : GC := .seq (.ops r24_6) s24_5
def s24_7_w {E nt rd fr h Q} := @wp_unf E nt rd fr h Q _ _ s24_7.eq_1
theorem c24 : Tryd.f24.body.bind (clean env 9) = some s24_7 := by kernel_rfl
theorem e24 : env.funs.get 24 = some Tryd.f24 := by kernel_rfl
theorem F24 {args : List Value} {h : Heap} {K : Value → Heap → Prop} (hl : args.length = 1) (w : s24_7.wp env 9 none (setAll args 0 .leaf) h (resK env [.tmp 2] K)) : Ret env (.func 24) args h K :=
  Ret.of_body' rfl e24 c24 rfl rfl (by rw [hl]; decide) w
/-! helmsman/helmsmanref31.Sort -/
def r25_0 : List GO := [⟨none, some 44, .move (.tmp 3)⟩,
  ⟨none, some 2, .assign (.tmp 44)⟩]
def r25_0_w {E fr h Q} := @opsW_unf E fr h Q _ _ r25_0.eq_1
def s25_1 : GC := .seq (.ops r25_0) .ret
def s25_1_w {E nt rd fr h Q} := @wp_unf E nt rd fr h Q _ _ s25_1.eq_1
def r25_2 : List GO := [⟨none, some 10, .move (.tmp 4)⟩,
  ⟨none, some 11, .binOp .add 3 (.tmp 10) (.const (.int .i64 1)) 3⟩,
  ⟨none, some 4, .assign (.tmp 11)⟩]
def r25_2_w {E fr h Q} := @opsW_unf E fr h Q _ _ r25_2.eq_1
def s25_3 : GC := .ops r25_2
def s25_3_w {E nt rd fr h Q} := @wp_unf E nt rd fr h Q _ _ s25_3.eq_1
def p25_4 : List (GO × List GO) := [(⟨none, some 30, .move (.tmp 3)⟩, []),
  (⟨none, some 31, .move (.tmp 5)⟩, []),
  (⟨none, some 32, .slice 25 (.tmp 30) none (some (.tmp 31)) none⟩, []),
  (⟨none, some 34, .move (.tmp 0)⟩, []),
  (⟨none, some 35, .move (.tmp 4)⟩, []),
  (⟨none, some 36, .indexAddr 25 (.tmp 34) (.tmp 35)⟩, []),
  (⟨none, some 37, .load 27 (.tmp 36)⟩, []),
  (⟨none, some 38, .buildSlice 25 1 ⟨[(0, .tmp 37)]⟩⟩, []),
  (⟨none, some 40, .move (.tmp 3)⟩, []),
  (⟨none, some 41, .move (.tmp 5)⟩, []),
  (⟨none, some 42, .slice 25 (.tmp 40) (some (.tmp 41)) none none⟩, []),
  (⟨none, some 33, .call ⟨.builtin .append, ⟨[.const (.slice none 0 0), .tmp 32]⟩, ⟨[25, 25]⟩⟩⟩, [⟨none, some 37, .load 27 (.tmp 36)⟩]),
  (⟨none, some 39, .call ⟨.builtin .append, ⟨[.tmp 33, .tmp 38]⟩, ⟨[25, 25]⟩⟩⟩, []),
  (⟨none, some 43, .call ⟨.builtin .append, ⟨[.tmp 39, .tmp 42]⟩, ⟨[25, 25]⟩⟩⟩, []),
  (⟨none, some 3, .assign (.tmp 43)⟩, [])]
def p25_4_w {E fr h Q} := @planW_unf E fr h Q _ _ p25_4.eq_1
def s25_5 : GC := .plan p25_4
def s25_5_w {E nt rd fr h Q} := @wp_unf E nt rd fr h Q _ _ s25_5.eq_1
def r25_6 : List GO := [⟨none, some 28, .move (.tmp 5)⟩,
  ⟨none, some 29, .binOp .add 3 (.tmp 28) (.const (.int .i64 1)) 3⟩,
  ⟨none, some 5, .assign (.tmp 29)⟩]
def r25_6_w {E fr h Q} := @opsW_unf E fr h Q _ _ r25_6.eq_1
def s25_7 : GC := .ops r25_6
def s25_7_w {E nt rd fr h Q} := @wp_unf E nt rd fr h Q _ _ s25_7.eq_1
def s25_8 : GC := .block 3 s25_7
def s25_8_w {E nt rd fr h Q} := @wp_unf E nt rd fr h Q _ _ s25_8.eq_1
def s25_9 : GC := .cond (.tmp 27) .skip (.exit 2)
def s25_9_w {E nt rd fr h Q} := @wp_unf E nt rd fr h Q _ _ s25_9.eq_1
def p25_10 : List (GO × List GO) := [(⟨none, some 12, .move (.tmp 5)⟩, []),
  (⟨none, some 13, .move (.tmp 3)⟩, []),
  (⟨none, some 14, .call ⟨.builtin .len, ⟨[.tmp 13]⟩, ⟨[25]⟩⟩⟩, []),
  (⟨none, some 15, .binOp .lss 3 (.tmp 12) (.tmp 14) 3⟩, []),
  (⟨none, some 16, .move (.tmp 15)⟩, []),
  (⟨some (16, true), some 17, .move (.tmp 0)⟩, []),
  (⟨some (16, true), some 18, .move (.tmp 4)⟩, []),
  (⟨some (16, true), some 19, .indexAddr 25 (.tmp 17) (.tmp 18)⟩, []),
  (⟨some (16, true), some 20, .load 27 (.tmp 19)⟩, []),
  (⟨some (16, true), some 21, .move (.tmp 3)⟩, []),
  (⟨some (16, true), some 22, .move (.tmp 5)⟩, []),
  (⟨some (16, true), some 23, .indexAddr 25 (.tmp 21) (.tmp 22)⟩, []),
  (⟨some (16, true), some 24, .load 27 (.tmp 23)⟩, []),
  (⟨some (16, true), some 25, .call ⟨.value (.func 29), ⟨[.tmp 20, .tmp 24]⟩, ⟨[27, 27]⟩⟩⟩, []),
  (⟨some (16, true), some 26, .unOp .not 4 (.tmp 25)⟩, []),
  (⟨none, some 27, .pick (.tmp 16) (.tmp 26) (.const (.bool false))⟩, [])]
def p25_10_w {E fr h Q} := @planW_unf E fr h Q _ _ p25_10.eq_1
def s25_11 : GC := .seq (.plan p25_10) s25_9
def s25_11_w {E nt rd fr h Q} := @wp_unf E nt rd fr h Q _ _ s25_11.eq_1
def s25_12 : GC := .seq (s25_11) s25_8
def s25_12_w {E nt rd fr h Q} := @wp_unf E nt rd fr h Q _ _ s25_12.eq_1
def s25_13 : GC := .loop s25_12
def s25_13_w {E nt rd fr h Q} := @wp_unf E nt rd fr h Q _ _ s25_13.eq_1
def s25_14 : GC := .seq (.block 2 s25_13) s25_5
def s25_14_w {E nt rd fr h Q} := @wp_unf E nt rd fr h Q _ _ s25_14.eq_1
def r25_15 : List GO := [⟨none, some 5, .assign (.const (.int .i64 0))⟩]
def r25_15_w {E fr h Q} := @opsW_unf E fr h Q _ _ r25_15.eq_1
def s25_16 : GC := .seq (.ops r25_15) s25_14
def s25_16_w {E nt rd fr h Q} := @wp_unf E nt rd fr h Q _ _ s25_16.eq_1
def s25_17 : GC := .seq (.block 1 s25_16) s25_3
def s25_17_w {E nt rd fr h Q} := @wp_unf E nt rd fr h Q _ _ s25_17.eq_1
def s25_18 : GC := .cond (.tmp 9) .skip (.exit 0)
def s25_18_w {E nt rd fr h Q} := @wp_unf E nt rd fr h Q _ _ s25_18.eq_1
def r25_19 : List GO := [⟨none, some 6, .move (.tmp 4)⟩,
  ⟨none, some 7, .move (.tmp 0)⟩,
  ⟨none, some 8, .call ⟨.builtin .len, ⟨[.tmp 7]⟩, ⟨[25]⟩⟩⟩,
  ⟨none, some 9, .binOp .lss 3 (.tmp 6) (.tmp 8) 3⟩]
def r25_19_w {E fr h Q} := @opsW_unf E fr h Q _ _ r25_19.eq_1
def s25_20 : GC := .seq (.ops r25_19) s25_18
def s25_20_w {E nt rd fr h Q} := @wp_unf E nt rd fr h Q _ _ s25_20.eq_1
def s25_21 : GC := .seq (s25_20) s25_17
def s25_21_w {E nt rd fr h Q} := @wp_unf E nt rd fr h Q _ _ s25_21.eq_1
def s25_22 : GC := .loop s25_21
def s25_22_w {E nt rd fr h Q} := @wp_unf E nt rd fr h Q _ _ s25_22.eq_1
def s25_23 : GC := .block 0 s25_22
def s25_23_w {E nt rd fr h Q} := @wp_unf E nt rd fr h Q _ _ s25_23.eq_1
def r25_24 : List GO := [⟨none, some 4, .assign (.const (.int .i64 0))⟩]
def r25_24_w {E fr h Q} := @opsW_unf E fr h Q _ _ r25_24.eq_1
def s25_25 : GC := .seq (.ops r25_24) s25_23
def s25_25_w {E nt rd fr h Q} := @wp_unf E nt rd fr h Q _ _ s25_25.eq_1
def s25_26 : GC := .seq (s25_25) s25_1
def s25_26_w {E nt rd fr h Q} := @wp_unf E nt rd fr h Q _ _ s25_26.eq_1
def r25_27 : List GO := [⟨none, some 3, .assign (.const (.slice none 0 0))⟩]
def r25_27_w {E fr h Q} := @opsW_unf E fr h Q _ _ r25_27.eq_1
def s25_28 : GC := .seq (.ops r25_27) s25_26
def s25_28_w {E nt rd fr h Q} := @wp_unf E nt rd fr h Q _ _ s25_28.eq_1
def r25_29 : List GO := [⟨none, some 2, .assign (.const (.slice none 0 0))⟩]
def r25_29_w {E fr h Q} := @opsW_unf E fr h Q _ _ r25_29.eq_1
def s25_30 : GC := .seq (.ops r25_29) s25_28
def s25_30_w {E nt rd fr h Q} := @wp_unf E nt rd fr h Q _ _ s25_30.eq_1
theorem c25 : Tryd.f25.body.bind (clean env 45) = some s25_30 := by kernel_rfl
theorem e25 : env.funs.get 25 = some Tryd.f25 := by kernel_rfl
theorem F25 {args : List Value} {h : Heap} {K : Value → Heap → Prop} (hl : args.length = 1) (w : s25_30.wp env 45 none (setAll args 0 .leaf) h (resK env [.tmp 2] K)) : Ret env (.func 25) args h K :=
  Ret.of_body' rfl e25 c25 rfl rfl (by rw [hl]; decide) w
/-! helmsman/share.Median -/
def r26_0 : List GO := [⟨none, some 26, .move (.tmp 3)⟩,
  ⟨none, some 27, .move (.tmp 3)⟩,
  ⟨none, some 28, .call ⟨.builtin .len, ⟨[.tmp 27]⟩, ⟨[25]⟩⟩⟩,
  ⟨none, some 29, .binOp .quo 3 (.tmp 28) (.const (.int .i64 2)) 3⟩,
  ⟨none, some 30, .binOp .sub 3 (.tmp 29) (.const (.int .i64 1)) 3⟩,
  ⟨none, some 31, .indexAddr 25 (.tmp 26) (.tmp 30)⟩,
  ⟨none, some 32, .load 27 (.tmp 31)⟩,
  ⟨none, some 33, .move (.tmp 4)⟩,
  ⟨none, some 34, .buildSlice 25 2 ⟨[(0, .tmp 32), (1, .tmp 33)]⟩⟩,
  ⟨none, some 35, .call ⟨.value (.func 13), ⟨[.tmp 34]⟩, ⟨[25]⟩⟩⟩,
  ⟨none, some 36, .call ⟨.value (.func 17), ⟨[.tmp 35, .const (.float .f64 4611686018427387904)]⟩, ⟨[27, 27]⟩⟩⟩,
  ⟨none, some 2, .assign (.tmp 36)⟩]
def r26_0_w {E fr h Q} := @opsW_unf E fr h Q _ _ r26_0.eq_1
def s26_1 : GC := .seq (.ops r26_0) .ret
def s26_1_w {E nt rd fr h Q} := @wp_unf E nt rd fr h Q _ _ s26_1.eq_1
def r26_2 : List GO := [⟨none, some 19, .call ⟨.value (.func 48), ⟨[]⟩, ⟨[]⟩⟩⟩,
  ⟨none, some 2, .assign (.tmp 19)⟩]
def r26_2_w {E fr h Q} := @opsW_unf E fr h Q _ _ r26_2.eq_1
def s26_3 : GC := .seq (.ops r26_2) .ret
def s26_3_w {E nt rd fr h Q} := @wp_unf E nt rd fr h Q _ _ s26_3.eq_1
def r26_4 : List GO := [⟨none, some 25, .move (.tmp 4)⟩,
  ⟨none, some 2, .assign (.tmp 25)⟩]
def r26_4_w {E fr h Q} := @opsW_unf E fr h Q _ _ r26_4.eq_1
def s26_5 : GC := .seq (.ops r26_4) .ret
def s26_5_w {E nt rd fr h Q} := @wp_unf E nt rd fr h Q _ _ s26_5.eq_1
def s26_6 : GC := .cond (.tmp 20) s26_5 .skip
def s26_6_w {E nt rd fr h Q} := @wp_unf E nt rd fr h Q _ _ s26_6.eq_1
def r26_7 : List GO := [⟨none, some 21, .move (.tmp 3)⟩,
  ⟨none, some 22, .call ⟨.builtin .len, ⟨[.tmp 21]⟩, ⟨[25]⟩⟩⟩,
  ⟨none, some 23, .binOp .rem 3 (.tmp 22) (.const (.int .i64 2)) 3⟩,
  ⟨none, some 24, .binOp .eql 3 (.tmp 23) (.const (.int .i64 1)) 3⟩,
  ⟨none, some 20, .assign (.tmp 24)⟩]
def r26_7_w {E fr h Q} := @opsW_unf E fr h Q _ _ r26_7.eq_1
def s26_8 : GC := .seq (.ops r26_7) s26_6
def s26_8_w {E nt rd fr h Q} := @wp_unf E nt rd fr h Q _ _ s26_8.eq_1
def s26_9 : GC := .cond (.tmp 16) s26_3 s26_8
def s26_9_w {E nt rd fr h Q} := @wp_unf E nt rd fr h Q _ _ s26_9.eq_1
def r26_10 : List GO := [⟨none, some 17, .move (.tmp 5)⟩,
  ⟨none, some 18, .unOp .not 4 (.tmp 17)⟩,
  ⟨none, some 16, .assign (.tmp 18)⟩]
def r26_10_w {E fr h Q} := @opsW_unf E fr h Q _ _ r26_10.eq_1
def s26_11 : GC := .seq (.ops r26_10) s26_9
def s26_11_w {E nt rd fr h Q} := @wp_unf E nt rd fr h Q _ _ s26_11.eq_1
def s26_12 : GC := .seq (.block 0 s26_11) s26_1
def s26_12_w {E nt rd fr h Q} := @wp_unf E nt rd fr h Q _ _ s26_12.eq_1
def r26_13 : List GO := [⟨none, some 9, .move (.tmp 3)⟩,
  ⟨none, some 10, .move (.tmp 3)⟩,
  ⟨none, some 11, .call ⟨.builtin .len, ⟨[.tmp 10]⟩, ⟨[25]⟩⟩⟩,
  ⟨none, some 12, .binOp .quo 3 (.tmp 11) (.const (.int .i64 2)) 3⟩,
  ⟨none, some 13, .call ⟨.value (.func 41), ⟨[.tmp 9, .tmp 12]⟩, ⟨[25, 3]⟩⟩⟩,
  ⟨none, some 8, .move (.tmp 13)⟩,
  ⟨none, some 14, .extract (.tmp 8) 0⟩,
  ⟨none, some 15, .extract (.tmp 8) 1⟩,
  ⟨none, some 4, .assign (.tmp 14)⟩,
  ⟨none, some 5, .assign (.tmp 15)⟩]
def r26_13_w {E fr h Q} := @opsW_unf E fr h Q _ _ r26_13.eq_1
def s26_14 : GC := .seq (.ops r26_13) s26_12
def s26_14_w {E nt rd fr h Q} := @wp_unf E nt rd fr h Q _ _ s26_14.eq_1
def r26_15 : List GO := [⟨none, some 6, .move (.tmp 0)⟩,
  ⟨none, some 7, .call ⟨.value (.func 42), ⟨[.tmp 6]⟩, ⟨[25]⟩⟩⟩,
  ⟨none, some 3, .assign (.tmp 7)⟩]
def r26_15_w {E fr h Q} := @opsW_unf E fr h Q _ _ r26_15.eq_1
def s26_16 : GC := .seq (.ops r26_15) s26_14
def s26_16_w {E nt rd fr h Q} := @wp_unf E nt rd fr h Q _ _ s26_16.eq_1
def r26_17 : List GO := [⟨none, some 2, .assign (.const (.float .f64 0))⟩]
def r26_17_w {E fr h Q} := @opsW_unf E fr h Q _ _ r26_17.eq_1
def s26_18 : GC := .seq (.ops r26_17) s26_16
def s26_18_w {E nt rd fr h Q} := @wp_unf E nt rd fr h Q _ _ s26_18.eq_1
theorem c26 : Tryd.f26.body.bind (clean env 37) = some s26_18 := by kernel_rfl
theorem e26 : env.funs.get 26 = some Tryd.f26 := by kernel_rfl
theorem F26 {args : List Value} {h : Heap} {K : Value → Heap → Prop} (hl : args.length = 1) (w : s26_18.wp env 37 none (setAll args 0 .leaf) h (resK env [.tmp 2] K)) : Ret env (.func 26) args h K :=
  Ret.of_body' rfl e26 c26 rfl rfl (by rw [hl]; decide) w
/-! helmsman/helmsmanref31.Median -/
def p27_0 : List (GO × List GO) := [(⟨none, some 20, .move (.tmp 3)⟩, []),
  (⟨none, some 21, .move (.tmp 3)⟩, []),
  (⟨none, some 22, .call ⟨.builtin .len, ⟨[.tmp 21]⟩, ⟨[25]⟩⟩⟩, []),
  (⟨none, some 23, .binOp .quo 3 (.tmp 22) (.const (.int .i64 2)) 3⟩, []),
  (⟨none, some 24, .binOp .sub 3 (.tmp 23) (.const (.int .i64 1)) 3⟩, []),
  (⟨none, some 25, .indexAddr 25 (.tmp 20) (.tmp 24)⟩, []),
  (⟨none, some 26, .load 27 (.tmp 25)⟩, []),
  (⟨none, some 27, .move (.tmp 3)⟩, []),
  (⟨none, some 28, .move (.tmp 3)⟩, []),
  (⟨none, some 29, .call ⟨.builtin .len, ⟨[.tmp 28]⟩, ⟨[25]⟩⟩⟩, []),
  (⟨none, some 30, .binOp .quo 3 (.tmp 29) (.const (.int .i64 2)) 3⟩, []),
  (⟨none, some 31, .indexAddr 25 (.tmp 27) (.tmp 30)⟩, []),
  (⟨none, some 32, .load 27 (.tmp 31)⟩, []),
  (⟨none, some 33, .binOp .add 27 (.tmp 26) (.tmp 32) 27⟩, []),
  (⟨none, some 34, .binOp .quo 27 (.tmp 33) (.const (.float .f64 4611686018427387904)) 27⟩, []),
  (⟨none, some 2, .assign (.tmp 34)⟩, [])]
def p27_0_w {E fr h Q} := @planW_unf E fr h Q _ _ p27_0.eq_1
def s27_1 : GC := .seq (.plan p27_0) .ret
def s27_1_w {E nt rd fr h Q} := @wp_unf E nt rd fr h Q _ _ s27_1.eq_1
def r27_2 : List GO := [⟨none, some 14, .move (.tmp 3)⟩,
  ⟨none, some 15, .move (.tmp 3)⟩,
  ⟨none, some 16, .call ⟨.builtin .len, ⟨[.tmp 15]⟩, ⟨[25]⟩⟩⟩,
  ⟨none, some 17, .binOp .quo 3 (.tmp 16) (.const (.int .i64 2)) 3⟩,
  ⟨none, some 18, .indexAddr 25 (.tmp 14) (.tmp 17)⟩,
  ⟨none, some 19, .load 27 (.tmp 18)⟩,
  ⟨none, some 2, .assign (.tmp 19)⟩]
def r27_2_w {E fr h Q} := @opsW_unf E fr h Q _ _ r27_2.eq_1
def s27_3 : GC := .seq (.ops r27_2) .ret
def s27_3_w {E nt rd fr h Q} := @wp_unf E nt rd fr h Q _ _ s27_3.eq_1
def s27_4 : GC := .cond (.tmp 13) s27_3 .skip
def s27_4_w {E nt rd fr h Q} := @wp_unf E nt rd fr h Q _ _ s27_4.eq_1
def r27_5 : List GO := [⟨none, some 10, .move (.tmp 3)⟩,
  ⟨none, some 11, .call ⟨.builtin .len, ⟨[.tmp 10]⟩, ⟨[25]⟩⟩⟩,
  ⟨none, some 12, .binOp .rem 3 (.tmp 11) (.const (.int .i64 2)) 3⟩,
  ⟨none, some 13, .binOp .eql 3 (.tmp 12) (.const (.int .i64 1)) 3⟩]
def r27_5_w {E fr h Q} := @opsW_unf E fr h Q _ _ r27_5.eq_1
def s27_6 : GC := .seq (.ops r27_5) s27_4
def s27_6_w {E nt rd fr h Q} := @wp_unf E nt rd fr h Q _ _ s27_6.eq_1
def s27_7 : GC := .seq (s27_6) s27_1
def s27_7_w {E nt rd fr h Q} := @wp_unf E nt rd fr h Q _ _ s27_7.eq_1
def r27_8 : List GO := [⟨none, some 9, .call ⟨.value (.func 10), ⟨[.const (.int .u64 9221120237041090561)]⟩, ⟨[23]⟩⟩⟩,
  ⟨none, some 2, .assign (.tmp 9)⟩]
def r27_8_w {E fr h Q} := @opsW_unf E fr h Q _ _ r27_8.eq_1
def s27_9 : GC := .seq (.ops r27_8) .ret
def s27_9_w {E nt rd fr h Q} := @wp_unf E nt rd fr h Q _ _ s27_9.eq_1
def s27_10 : GC := .cond (.tmp 8) s27_9 .skip
def s27_10_w {E nt rd fr h Q} := @wp_unf E nt rd fr h Q _ _ s27_10.eq_1
def r27_11 : List GO := [⟨none, some 6, .move (.tmp 3)⟩,
  ⟨none, some 7, .call ⟨.builtin .len, ⟨[.tmp 6]⟩, ⟨[25]⟩⟩⟩,
  ⟨none, some 8, .binOp .eql 3 (.tmp 7) (.const (.int .i64 0)) 3⟩]
def r27_11_w {E fr h Q} := @opsW_unf E fr h Q _ _ r27_11.eq_1
def s27_12 : GC := .seq (.ops r27_11) s27_10
def s27_12_w {E nt rd fr h Q} := @wp_unf E nt rd fr h Q _ _ s27_12.eq_1
def s27_13 : GC := .seq (s27_12) s27_7
def s27_13_w {E nt rd fr h Q} := @wp_unf E nt rd fr h Q _ _ s27_13.eq_1
def r27_14 : List GO := [⟨none, some 4, .move (.tmp 0)⟩,
  ⟨none, some 5, .call ⟨.value (.func 20), ⟨[.tmp 4]⟩, ⟨[25]⟩⟩⟩,
  ⟨none, some 3, .assign (.tmp 5)⟩]
def r27_14_w {E fr h Q} := @opsW_unf E fr h Q _ _ r27_14.eq_1
def s27_15 : GC := .seq (.ops r27_14) s27_13
def s27_15_w {E nt rd fr h Q} := @wp_unf E nt rd fr h Q _ _ s27_15.eq_1
def r27_16 : List GO := [⟨none, some 2, .assign (.const (.float .f64 0))⟩]
def r27_16_w {E fr h Q} := @opsW_unf E fr h Q _ _ r27_16.eq_1
def s27_17 : GC := .seq (.ops r27_16) s27_15
def s27_17_w {E nt rd fr h Q} := @wp_unf E nt rd fr h Q _ _ s27_17.eq_1
theorem c27 : Tryd.f27.body.bind (clean env 35) = some s27_17 := by kernel_rfl
theorem e27 : env.funs.get 27 = some Tryd.f27 := by kernel_rfl
theorem F27 {args : List Value} {h : Heap} {K : Value → Heap → Prop} (hl : args.length = 1) (w : s27_17.wp env 35 none (setAll args 0 .leaf) h (resK env [.tmp 2] K)) : Ret env (.func 27) args h K :=
  Ret.of_body' rfl e27 c27 rfl rfl (by rw [hl]; decide) w
/-! helmsman/share.Less -/
def r28_0 : List GO := [⟨none, some 5, .move (.tmp 0)⟩,
  ⟨none, some 6, .call ⟨.value (.func 47), ⟨[.tmp 5]⟩, ⟨[27]⟩⟩⟩,
  ⟨none, some 7, .move (.tmp 1)⟩,
  ⟨none, some 8, .call ⟨.value (.func 47), ⟨[.tmp 7]⟩, ⟨[27]⟩⟩⟩,
  ⟨none, some 9, .binOp .lss 23 (.tmp 6) (.tmp 8) 23⟩,
  ⟨none, some 4, .assign (.tmp 9)⟩]
def r28_0_w {E fr h Q} := @opsW_unf E fr h Q _ _ r28_0.eq_1
def s28_1 : GC := .seq (.ops r28_0) .ret
def s28_1_w {E nt rd fr h Q} := @wp_unf E nt rd fr h Q _ _ s28_1.eq_1
def r28_2 : List GO := [⟨none, some 4, .assign (.const (.bool false))⟩]
def r28_2_w {E fr h Q} := @opsW_unf E fr h Q _ _ r28_2.eq_1
def s28_3 : GC := .seq (.ops r28_2) s28_1
def s28_3_w {E nt rd fr h Q} := @wp_unf E nt rd fr h Q _ _ s28_3.eq_1
theorem c28 : Tryd.f28.body.bind (clean env 10) = some s28_3 := by kernel_rfl
theorem e28 : env.funs.get 28 = some Tryd.f28 := by kernel_rfl
theorem F28 {args : List Value} {h : Heap} {K : Value → Heap → Prop} (hl : args.length = 2) (w : s28_3.wp env 10 none (setAll args 0 .leaf) h (resK env [.tmp 4] K)) : Ret env (.func 28) args h K :=
  Ret.of_body' rfl e28 c28 rfl rfl (by rw [hl]; decide) w
/-! helmsman/helmsmanref31.Less -/
def r29_0 : List GO := [⟨none, some 58, .move (.tmp 11)⟩,
  ⟨none, some 59, .move (.tmp 5)⟩,
  ⟨none, some 60, .binOp .neq 4 (.tmp 58) (.tmp 59) 4⟩,
  ⟨none, some 4, .assign (.tmp 60)⟩]
def r29_0_w {E fr h Q} := @opsW_unf E fr h Q _ _ r29_0.eq_1
def s29_1 : GC := .seq (.ops r29_0) .ret
def s29_1_w {E nt rd fr h Q} := @wp_unf E nt rd fr h Q _ _ s29_1.eq_1
def r29_2 : List GO := [⟨none, some 45, .move (.tmp 6)⟩,
  ⟨none, some 46, .move (.tmp 9)⟩,
  ⟨none, some 47, .binOp .lss 3 (.tmp 45) (.tmp 46) 3⟩,
  ⟨none, some 48, .move (.tmp 47)⟩,
  ⟨some (48, false), some 49, .move (.tmp 6)⟩,
  ⟨some (48, false), some 50, .move (.tmp 9)⟩,
  ⟨some (48, false), some 51, .binOp .eql 3 (.tmp 49) (.tmp 50) 3⟩,
  ⟨some (48, false), some 52, .move (.tmp 51)⟩,
  ⟨some (52, true), some 53, .move (.tmp 7)⟩,
  ⟨some (52, true), some 54, .move (.tmp 10)⟩,
  ⟨some (52, true), some 55, .binOp .lss 23 (.tmp 53) (.tmp 54) 23⟩,
  ⟨some (48, false), some 56, .pick (.tmp 52) (.tmp 55) (.const (.bool false))⟩,
  ⟨none, some 57, .pick (.tmp 48) (.const (.bool true)) (.tmp 56)⟩,
  ⟨none, some 11, .assign (.tmp 57)⟩]
def r29_2_w {E fr h Q} := @opsW_unf E fr h Q _ _ r29_2.eq_1
def s29_3 : GC := .seq (.ops r29_2) s29_1
def s29_3_w {E nt rd fr h Q} := @wp_unf E nt rd fr h Q _ _ s29_3.eq_1
def r29_4 : List GO := [⟨none, some 4, .assign (.const (.bool false))⟩]
def r29_4_w {E fr h Q} := @opsW_unf E fr h Q _ _ r29_4.eq_1
def s29_5 : GC := .seq (.ops r29_4) .ret
def s29_5_w {E nt rd fr h Q} := @wp_unf E nt rd fr h Q _ _ s29_5.eq_1
def s29_6 : GC := .cond (.tmp 44) s29_5 .skip
def s29_6_w {E nt rd fr h Q} := @wp_unf E nt rd fr h Q _ _ s29_6.eq_1
def r29_7 : List GO := [⟨none, some 37, .move (.tmp 6)⟩,
  ⟨none, some 38, .move (.tmp 9)⟩,
  ⟨none, some 39, .binOp .eql 3 (.tmp 37) (.tmp 38) 3⟩,
  ⟨none, some 40, .move (.tmp 39)⟩,
  ⟨some (40, true), some 41, .move (.tmp 7)⟩,
  ⟨some (40, true), some 42, .move (.tmp 10)⟩,
  ⟨some (40, true), some 43, .binOp .eql 23 (.tmp 41) (.tmp 42) 23⟩,
  ⟨none, some 44, .pick (.tmp 40) (.tmp 43) (.const (.bool false))⟩]
def r29_7_w {E fr h Q} := @opsW_unf E fr h Q _ _ r29_7.eq_1
def s29_8 : GC := .seq (.ops r29_7) s29_6
def s29_8_w {E nt rd fr h Q} := @wp_unf E nt rd fr h Q _ _ s29_8.eq_1
def s29_9 : GC := .seq (s29_8) s29_3
def s29_9_w {E nt rd fr h Q} := @wp_unf E nt rd fr h Q _ _ s29_9.eq_1
def r29_10 : List GO := [⟨none, some 36, .move (.tmp 5)⟩,
  ⟨none, some 4, .assign (.tmp 36)⟩]
def r29_10_w {E fr h Q} := @opsW_unf E fr h Q _ _ r29_10.eq_1
def s29_11 : GC := .seq (.ops r29_10) .ret
def s29_11_w {E nt rd fr h Q} := @wp_unf E nt rd fr h Q _ _ s29_11.eq_1
def s29_12 : GC := .cond (.tmp 35) s29_11 .skip
def s29_12_w {E nt rd fr h Q} := @wp_unf E nt rd fr h Q _ _ s29_12.eq_1
def r29_13 : List GO := [⟨none, some 33, .move (.tmp 5)⟩,
  ⟨none, some 34, .move (.tmp 8)⟩,
  ⟨none, some 35, .binOp .neq 4 (.tmp 33) (.tmp 34) 4⟩]
def r29_13_w {E fr h Q} := @opsW_unf E fr h Q _ _ r29_13.eq_1
def s29_14 : GC := .seq (.ops r29_13) s29_12
def s29_14_w {E nt rd fr h Q} := @wp_unf E nt rd fr h Q _ _ s29_14.eq_1
def s29_15 : GC := .seq (s29_14) s29_9
def s29_15_w {E nt rd fr h Q} := @wp_unf E nt rd fr h Q _ _ s29_15.eq_1
def r29_16 : List GO := [⟨none, some 28, .move (.tmp 1)⟩,
  ⟨none, some 29, .call ⟨.value (.func 40), ⟨[.tmp 28]⟩, ⟨[27]⟩⟩⟩,
  ⟨none, some 27, .move (.tmp 29)⟩,
  ⟨none, some 30, .extract (.tmp 27) 0⟩,
  ⟨none, some 31, .extract (.tmp 27) 1⟩,
  ⟨none, some 32, .extract (.tmp 27) 2⟩,
  ⟨none, some 8, .assign (.tmp 30)⟩,
  ⟨none, some 9, .assign (.tmp 31)⟩,
  ⟨none, some 10, .assign (.tmp 32)⟩]
def r29_16_w {E fr h Q} := @opsW_unf E fr h Q _ _ r29_16.eq_1
def s29_17 : GC := .seq (.ops r29_16) s29_15
def s29_17_w {E nt rd fr h Q} := @wp_unf E nt rd fr h Q _ _ s29_17.eq_1
def r29_18 : List GO := [⟨none, some 22, .move (.tmp 0)⟩,
  ⟨none, some 23, .call ⟨.value (.func 40), ⟨[.tmp 22]⟩, ⟨[27]⟩⟩⟩,
  ⟨none, some 21, .move (.tmp 23)⟩,
  ⟨none, some 24, .extract (.tmp 21) 0⟩,
  ⟨none, some 25, .extract (.tmp 21) 1⟩,
  ⟨none, some 26, .extract (.tmp 21) 2⟩,
  ⟨none, some 5, .assign (.tmp 24)⟩,
  ⟨none, some 6, .assign (.tmp 25)⟩,
  ⟨none, some 7, .assign (.tmp 26)⟩]
def r29_18_w {E fr h Q} := @opsW_unf E fr h Q _ _ r29_18.eq_1
def s29_19 : GC := .seq (.ops r29_18) s29_17
def s29_19_w {E nt rd fr h Q} := @wp_unf E nt rd fr h Q _ _ s29_19.eq_1
def r29_20 : List GO := [⟨none, some 18, .move (.tmp 0)⟩,
  ⟨none, some 19, .call ⟨.value (.func 19), ⟨[.tmp 18]⟩, ⟨[27]⟩⟩⟩,
  ⟨none, some 20, .unOp .not 4 (.tmp 19)⟩,
  ⟨none, some 4, .assign (.tmp 20)⟩]
def r29_20_w {E fr h Q} := @opsW_unf E fr h Q _ _ r29_20.eq_1
def s29_21 : GC := .seq (.ops r29_20) .ret
def s29_21_w {E nt rd fr h Q} := @wp_unf E nt rd fr h Q _ _ s29_21.eq_1
def s29_22 : GC := .cond (.tmp 17) s29_21 .skip
def s29_22_w {E nt rd fr h Q} := @wp_unf E nt rd fr h Q _ _ s29_22.eq_1
def r29_23 : List GO := [⟨none, some 12, .move (.tmp 0)⟩,
  ⟨none, some 13, .call ⟨.value (.func 19), ⟨[.tmp 12]⟩, ⟨[27]⟩⟩⟩,
  ⟨none, some 14, .move (.tmp 13)⟩,
  ⟨some (14, false), some 15, .move (.tmp 1)⟩,
  ⟨some (14, false), some 16, .call ⟨.value (.func 19), ⟨[.tmp 15]⟩, ⟨[27]⟩⟩⟩,
  ⟨none, some 17, .pick (.tmp 14) (.const (.bool true)) (.tmp 16)⟩]
def r29_23_w {E fr h Q} := @opsW_unf E fr h Q _ _ r29_23.eq_1
def s29_24 : GC := .seq (.ops r29_23) s29_22
def s29_24_w {E nt rd fr h Q} := @wp_unf E nt rd fr h Q _ _ s29_24.eq_1
def s29_25 : GC := .seq (s29_24) s29_19
def s29_25_w {E nt rd fr h Q} := @wp_unf E nt rd fr h Q _ _ s29_25.eq_1
def r29_26 : List GO := [⟨none, some 4, .assign (.const (.bool false))⟩]
def r29_26_w {E fr h Q} := @opsW_unf E fr h Q _ _ r29_26.eq_1
def s29_27 : GC := .seq (.ops r29_26) s29_25
def s29_27_w {E nt rd fr h Q} := @wp_unf E nt rd fr h Q _ _ s29_27.eq_1
theorem c29 : Tryd.f29.body.bind (clean env 61) = some s29_27 := by kernel_rfl
theorem e29 : env.funs.get 29 = some Tryd.f29 := by kernel_rfl
theorem F29 {args : List Value} {h : Heap} {K : Value → Heap → Prop} (hl : args.length = 2) (w : s29_27.wp env 61 none (setAll args 0 .leaf) h (resK env [.tmp 4] K)) : Ret env (.func 29) args h K :=
  Ret.of_body' rfl e29 c29 rfl rfl (by rw [hl]; decide) w
/-! helmsman/share.Same -/
def r30_0 : List GO := [⟨none, some 5, .move (.tmp 0)⟩,
  ⟨none, some 6, .call ⟨.value (.func 47), ⟨[.tmp 5]⟩, ⟨[27]⟩⟩⟩,
  ⟨none, some 7, .move (.tmp 1)⟩,
  ⟨none, some 8, .call ⟨.value (.func 47), ⟨[.tmp 7]⟩, ⟨[27]⟩⟩⟩,
  ⟨none, some 9, .binOp .eql 23 (.tmp 6) (.tmp 8) 23⟩,
  ⟨none, some 4, .assign (.tmp 9)⟩]
def r30_0_w {E fr h Q} := @opsW_unf E fr h Q _ _ r30_0.eq_1
def s30_1 : GC := .seq (.ops r30_0) .ret
def s30_1_w {E nt rd fr h Q} := @wp_unf E nt rd fr h Q _ _ s30_1.eq_1
def r30_2 : List GO := [⟨none, some 4, .assign (.const (.bool false))⟩]
def r30_2_w {E fr h Q} := @opsW_unf E fr h Q _ _ r30_2.eq_1
def s30_3 : GC := .seq (.ops r30_2) s30_1
def s30_3_w {E nt rd fr h Q} := @wp_unf E nt rd fr h Q _ _ s30_3.eq_1
theorem c30 : Tryd.f30.body.bind (clean env 10) = some s30_3 := by kernel_rfl
theorem e30 : env.funs.get 30 = some Tryd.f30 := by kernel_rfl
theorem F30 {args : List Value} {h : Heap} {K : Value → Heap → Prop} (hl : args.length = 2) (w : s30_3.wp env 10 none (setAll args 0 .leaf) h (resK env [.tmp 4] K)) : Ret env (.func 30) args h K :=
  Ret.of_body' rfl e30 c30 rfl rfl (by rw [hl]; decide) w
/-! helmsman/helmsmanref31.parts -/
def r40_0 : List GO := [⟨none, some 8, .move (.tmp 5)⟩,
  ⟨none, some 9, .binOp .gtr 23 (.tmp 8) (.const (.int .u64 9223372036854775807)) 23⟩,
  ⟨none, some 10, .move (.tmp 5)⟩,
  ⟨none, some 11, .binOp .quo 23 (.tmp 10) (.const (.int .u64 4503599627370496)) 23⟩,
  ⟨none, some 12, .binOp .rem 23 (.tmp 11) (.const (.int .u64 2048)) 23⟩,
  ⟨none, some 13, .convert 23 3 (.tmp 12)⟩,
  ⟨none, some 14, .move (.tmp 5)⟩,
  ⟨none, some 15, .binOp .rem 23 (.tmp 14) (.const (.int .u64 4503599627370496)) 23⟩,
  ⟨none, some 2, .assign (.tmp 9)⟩,
  ⟨none, some 3, .assign (.tmp 13)⟩,
  ⟨none, some 4, .assign (.tmp 15)⟩]
def r40_0_w {E fr h Q} := @opsW_unf E fr h Q _ _ r40_0.eq_1
def s40_1 : GC := .seq (.ops r40_0) .ret
def s40_1_w {E nt rd fr h Q} := @wp_unf E nt rd fr h Q _ _ s40_1.eq_1
def r40_2 : List GO := [⟨none, some 6, .move (.tmp 0)⟩,
  ⟨none, some 7, .call ⟨.value (.func 18), ⟨[.tmp 6]⟩, ⟨[27]⟩⟩⟩,
  ⟨none, some 5, .assign (.tmp 7)⟩]
def r40_2_w {E fr h Q} := @opsW_unf E fr h Q _ _ r40_2.eq_1
def s40_3 : GC := .seq (.ops r40_2) s40_1
def s40_3_w {E nt rd fr h Q} := @wp_unf E nt rd fr h Q _ _ s40_3.eq_1
def r40_4 : List GO := [⟨none, some 2, .assign (.const (.bool false))⟩,
  ⟨none, some 3, .assign (.const (.int .i64 0))⟩,
  ⟨none, some 4, .assign (.const (.int .u64 0))⟩]
def r40_4_w {E fr h Q} := @opsW_unf E fr h Q _ _ r40_4.eq_1
def s40_5 : GC := .seq (.ops r40_4) s40_3
def s40_5_w {E nt rd fr h Q} := @wp_unf E nt rd fr h Q _ _ s40_5.eq_1
theorem c40 : Tryd.f40.body.bind (clean env 16) = some s40_5 := by kernel_rfl
theorem e40 : env.funs.get 40 = some Tryd.f40 := by kernel_rfl
theorem F40 {args : List Value} {h : Heap} {K : Value → Heap → Prop} (hl : args.length = 1) (w : s40_5.wp env 16 none (setAll args 0 .leaf) h (resK env [.tmp 2, .tmp 3, .tmp 4] K)) : Ret env (.func 40) args h K :=
  Ret.of_body' rfl e40 c40 rfl rfl (by rw [hl]; decide) w
/-! helmsman/share.at -/
def r41_0 : List GO := [⟨none, some 14, .move (.tmp 0)⟩,
  ⟨none, some 15, .move (.tmp 1)⟩,
  ⟨none, some 16, .indexAddr 25 (.tmp 14) (.tmp 15)⟩,
  ⟨none, some 17, .load 27 (.tmp 16)⟩,
  ⟨none, some 4, .assign (.tmp 17)⟩,
  ⟨none, some 5, .assign (.const (.bool true))⟩]
def r41_0_w {E fr h Q} := @opsW_unf E fr h Q _ _ r41_0.eq_1
def s41_1 : GC := .seq (.ops r41_0) .ret
def s41_1_w {E nt rd fr h Q} := @wp_unf E nt rd fr h Q _ _ s41_1.eq_1
def r41_2 : List GO := [⟨none, some 4, .assign (.const (.float .f64 0))⟩,
  ⟨none, some 5, .assign (.const (.bool false))⟩]
def r41_2_w {E fr h Q} := @opsW_unf E fr h Q _ _ r41_2.eq_1
def s41_3 : GC := .seq (.ops r41_2) .ret
def s41_3_w {E nt rd fr h Q} := @wp_unf E nt rd fr h Q _ _ s41_3.eq_1
def s41_4 : GC := .cond (.tmp 13) s41_3 .skip
def s41_4_w {E nt rd fr h Q} := @wp_unf E nt rd fr h Q _ _ s41_4.eq_1
def r41_5 : List GO := [⟨none, some 6, .move (.tmp 1)⟩,
  ⟨none, some 7, .binOp .lss 3 (.tmp 6) (.const (.int .i64 0)) 3⟩,
  ⟨none, some 8, .move (.tmp 7)⟩,
  ⟨some (8, false), some 9, .move (.tmp 1)⟩,
  ⟨some (8, false), some 10, .move (.tmp 0)⟩,
  ⟨some (8, false), some 11, .call ⟨.builtin .len, ⟨[.tmp 10]⟩, ⟨[25]⟩⟩⟩,
  ⟨some (8, false), some 12, .binOp .geq 3 (.tmp 9) (.tmp 11) 3⟩,
  ⟨none, some 13, .pick (.tmp 8) (.const (.bool true)) (.tmp 12)⟩]
def r41_5_w {E fr h Q} := @opsW_unf E fr h Q _ _ r41_5.eq_1
def s41_6 : GC := .seq (.ops r41_5) s41_4
def s41_6_w {E nt rd fr h Q} := @wp_unf E nt rd fr h Q _ _ s41_6.eq_1
def s41_7 : GC := .seq (s41_6) s41_1
def s41_7_w {E nt rd fr h Q} := @wp_unf E nt rd fr h Q _ _ s41_7.eq_1
def r41_8 : List GO := [⟨none, some 4, .assign (.const (.float .f64 0))⟩,
  ⟨none, some 5, .assign (.const (.bool false))⟩]
def r41_8_w {E fr h Q} := @opsW_unf E fr h Q _ _ r41_8.eq_1
def s41_9 : GC := .seq (.ops r41_8) s41_7
def s41_9_w {E nt rd fr h Q} := @wp_unf E nt rd fr h Q _ _ s41_9.eq_1
theorem c41 : Tryd.f41.body.bind (clean env 18) = some s41_9 := by kernel_rfl
theorem e41 : env.funs.get 41 = some Tryd.f41 := by kernel_rfl
theorem F41 {args : List Value} {h : Heap} {K : Value → Heap → Prop} (hl : args.length = 2) (w : s41_9.wp env 18 none (setAll args 0 .leaf) h (resK env [.tmp 4, .tmp 5] K)) : Ret env (.func 41) args h K :=
  Ret.of_body' rfl e41 c41 rfl rfl (by rw [hl]; decide) w
/-! helmsman/share.numbers -/
def r42_0 : List GO := [⟨none, some 3, .move (.tmp 0)⟩,
  ⟨none, some 4, .call ⟨.value (.func 24), ⟨[.tmp 3]⟩, ⟨[25]⟩⟩⟩,
  ⟨none, some 5, .call ⟨.value (.func 62), ⟨[.tmp 4, .func 63]⟩, ⟨[25, 33]⟩⟩⟩,
  ⟨none, some 2, .assign (.tmp 5)⟩]
def r42_0_w {E fr h Q} := @opsW_unf E fr h Q _ _ r42_0.eq_1
def s42_1 : GC := .seq (.ops r42_0) .ret
def s42_1_w {E nt rd fr h Q} := @wp_unf E nt rd fr h Q _ _ s42_1.eq_1
def r42_2 : List GO := [⟨none, some 2, .assign (.const (.slice none 0 0))⟩]
def r42_2_w {E fr h Q} := @opsW_unf E fr h Q _ _ r42_2.eq_1
def s42_3 : GC := .seq (.ops r42_2) s42_1
def s42_3_w {E nt rd fr h Q} := @wp_unf E nt rd fr h Q _ _ s42_3.eq_1
theorem c42 : Tryd.f42.body.bind (clean env 6) = some s42_3 := by kernel_rfl
theorem e42 : env.funs.get 42 = some Tryd.f42 := by kernel_rfl
theorem F42 {args : List Value} {h : Heap} {K : Value → Heap → Prop} (hl : args.length = 1) (w : s42_3.wp env 6 none (setAll args 0 .leaf) h (resK env [.tmp 2] K)) : Ret env (.func 42) args h K :=
  Ret.of_body' rfl e42 c42 rfl rfl (by rw [hl]; decide) w
/-! slices.Clone[[]float64,float64] -/
def r43_0 : List GO := [⟨none, some 5, .buildSlice 25 0 ⟨[]⟩⟩,
  ⟨none, some 6, .move (.tmp 0)⟩,
  ⟨none, some 7, .call ⟨.builtin .append, ⟨[.tmp 5, .tmp 6]⟩, ⟨[25, 25]⟩⟩⟩,
  ⟨none, some 2, .assign (.tmp 7)⟩]
def r43_0_w {E fr h Q} := @opsW_unf E fr h Q _ _ r43_0.eq_1
def s43_1 : GC := .seq (.ops r43_0) .ret
def s43_1_w {E nt rd fr h Q} := @wp_unf E nt rd fr h Q _ _ s43_1.eq_1
def r43_2 : List GO := [⟨none, some 2, .assign (.const (.slice none 0 0))⟩]
def r43_2_w {E fr h Q} := @opsW_unf E fr h Q _ _ r43_2.eq_1
def s43_3 : GC := .seq (.ops r43_2) .ret
def s43_3_w {E nt rd fr h Q} := @wp_unf E nt rd fr h Q _ _ s43_3.eq_1
def s43_4 : GC := .cond (.tmp 4) s43_3 .skip
def s43_4_w {E nt rd fr h Q} := @wp_unf E nt rd fr h Q _ _ s43_4.eq_1
def r43_5 : List GO := [⟨none, some 3, .move (.tmp 0)⟩,
  ⟨none, some 4, .binOp .eql 25 (.tmp 3) (.const (.slice none 0 0)) 25⟩]
def r43_5_w {E fr h Q} := @opsW_unf E fr h Q _ _ r43_5.eq_1
def s43_6 : GC := .seq (.ops r43_5) s43_4
def s43_6_w {E nt rd fr h Q} := @wp_unf E nt rd fr h Q _ _ s43_6.eq_1
def s43_7 : GC := .seq (s43_6) s43_1
def s43_7_w {E nt rd fr h Q} := @wp_unf E nt rd fr h Q _ _ s43_7.eq_1
def r43_8 : List GO := [⟨none, some 2, .assign (.const (.slice none 0 0))⟩]
def r43_8_w {E fr h Q} := @opsW_unf E fr h Q _ _ r43_8.eq_1
def s43_9 : GC := .seq (.ops r43_8) s43_7
def s43_9_w {E nt rd fr h Q} := @wp_unf E nt rd fr h Q _ _ s43_9.eq_1
theorem c43 : Tryd.f43.body.bind (clean env 8) = some s43_9 := by kernel_rfl
theorem e43 : env.funs.get 43 = some Tryd.f43 := by kernel_rfl
theorem F43 {args : List Value} {h : Heap} {K : Value → Heap → Prop} (hl : args.length = 1) (w : s43_9.wp env 8 none (setAll args 0 .leaf) h (resK env [.tmp 2] K)) : Ret env (.func 43) args h K :=
  Ret.of_body' rfl e43 c43 rfl rfl (by rw [hl]; decide) w
/-! slices.SortStableFunc[[]float64,float64] -/
def r44_0 : List GO := [⟨none, some 4, .move (.tmp 0)⟩,
  ⟨none, some 5, .move (.tmp 0)⟩,
  ⟨none, some 6, .call ⟨.builtin .len, ⟨[.tmp 5]⟩, ⟨[25]⟩⟩⟩,
  ⟨none, some 7, .move (.tmp 1)⟩,
  ⟨none, some 8, .call ⟨.value (.func 64), ⟨[.tmp 4, .tmp 6, .tmp 7]⟩, ⟨[25, 3, 63]⟩⟩⟩]
def r44_0_w {E fr h Q} := @opsW_unf E fr h Q _ _ r44_0.eq_1
def s44_1 : GC := .ops r44_0
def s44_1_w {E nt rd fr h Q} := @wp_unf E nt rd fr h Q _ _ s44_1.eq_1
theorem c44 : Tryd.f44.body.bind (clean env 9) = some s44_1 := by kernel_rfl
theorem e44 : env.funs.get 44 = some Tryd.f44 := by kernel_rfl
theorem F44 {args : List Value} {h : Heap} {K : Value → Heap → Prop} (hl : args.length = 2) (w : s44_1.wp env 9 none (setAll args 0 .leaf) h (resK env [] K)) : Ret env (.func 44) args h K :=
  Ret.of_body' rfl e44 c44 rfl rfl (by rw [hl]; decide) w
/-! helmsman/share.Sort$1 -/
def r45_0 : List GO := [⟨none, some 5, .move (.tmp 0)⟩,
  ⟨none, some 6, .call ⟨.value (.func 47), ⟨[.tmp 5]⟩, ⟨[27]⟩⟩⟩,
  ⟨none, some 7, .move (.tmp 1)⟩,
  ⟨none, some 8, .call ⟨.value (.func 47), ⟨[.tmp 7]⟩, ⟨[27]⟩⟩⟩,
  ⟨none, some 9, .call ⟨.value (.func 46), ⟨[.tmp 6, .tmp 8]⟩, ⟨[23, 23]⟩⟩⟩,
  ⟨none, some 4, .assign (.tmp 9)⟩]
def r45_0_w {E fr h Q} := @opsW_unf E fr h Q _ _ r45_0.eq_1
def s45_1 : GC := .seq (.ops r45_0) .ret
def s45_1_w {E nt rd fr h Q} := @wp_unf E nt rd fr h Q _ _ s45_1.eq_1
def r45_2 : List GO := [⟨none, some 4, .assign (.const (.int .i64 0))⟩]
def r45_2_w {E fr h Q} := @opsW_unf E fr h Q _ _ r45_2.eq_1
def s45_3 : GC := .seq (.ops r45_2) s45_1
def s45_3_w {E nt rd fr h Q} := @wp_unf E nt rd fr h Q _ _ s45_3.eq_1
theorem c45 : Tryd.f45.body.bind (clean env 10) = some s45_3 := by kernel_rfl
theorem e45 : env.funs.get 45 = some Tryd.f45 := by kernel_rfl
theorem F45 {args : List Value} {h : Heap} {K : Value → Heap → Prop} (hl : args.length = 2) (w : s45_3.wp env 10 none (setAll args 0 .leaf) h (resK env [.tmp 4] K)) : Ret env (.func 45) args h K :=
  Ret.of_body' rfl e45 c45 rfl rfl (by rw [hl]; decide) w
/-! cmp.Compare[uint64] -/
def r46_0 : List GO := [⟨none, some 4, .assign (.const (.int .i64 0))⟩]
def r46_0_w {E fr h Q} := @opsW_unf E fr h Q _ _ r46_0.eq_1
def s46_1 : GC := .seq (.ops r46_0) .ret
def s46_1_w {E nt rd fr h Q} := @wp_unf E nt rd fr h Q _ _ s46_1.eq_1
def r46_2 : List GO := [⟨none, some 4, .assign (.const (.int .i64 1))⟩]
def r46_2_w {E fr h Q} := @opsW_unf E fr h Q _ _ r46_2.eq_1
def s46_3 : GC := .seq (.ops r46_2) .ret
def s46_3_w {E nt rd fr h Q} := @wp_unf E nt rd fr h Q _ _ s46_3.eq_1
def s46_4 : GC := .cond (.tmp 19) s46_3 .skip
def s46_4_w {E nt rd fr h Q} := @wp_unf E nt rd fr h Q _ _ s46_4.eq_1
def r46_5 : List GO := [⟨none, some 17, .move (.tmp 0)⟩,
  ⟨none, some 18, .move (.tmp 1)⟩,
  ⟨none, some 19, .binOp .gtr 23 (.tmp 17) (.tmp 18) 23⟩]
def r46_5_w {E fr h Q} := @opsW_unf E fr h Q _ _ r46_5.eq_1
def s46_6 : GC := .seq (.ops r46_5) s46_4
def s46_6_w {E nt rd fr h Q} := @wp_unf E nt rd fr h Q _ _ s46_6.eq_1
def s46_7 : GC := .seq (s46_6) s46_1
def s46_7_w {E nt rd fr h Q} := @wp_unf E nt rd fr h Q _ _ s46_7.eq_1
def r46_8 : List GO := [⟨none, some 4, .assign (.const (.int .i64 (-1)))⟩]
def r46_8_w {E fr h Q} := @opsW_unf E fr h Q _ _ r46_8.eq_1
def s46_9 : GC := .seq (.ops r46_8) .ret
def s46_9_w {E nt rd fr h Q} := @wp_unf E nt rd fr h Q _ _ s46_9.eq_1
def s46_10 : GC := .cond (.tmp 16) s46_9 .skip
def s46_10_w {E nt rd fr h Q} := @wp_unf E nt rd fr h Q _ _ s46_10.eq_1
def r46_11 : List GO := [⟨none, some 14, .move (.tmp 0)⟩,
  ⟨none, some 15, .move (.tmp 1)⟩,
  ⟨none, some 16, .binOp .lss 23 (.tmp 14) (.tmp 15) 23⟩]
def r46_11_w {E fr h Q} := @opsW_unf E fr h Q _ _ r46_11.eq_1
def s46_12 : GC := .seq (.ops r46_11) s46_10
def s46_12_w {E nt rd fr h Q} := @wp_unf E nt rd fr h Q _ _ s46_12.eq_1
def s46_13 : GC := .seq (s46_12) s46_7
def s46_13_w {E nt rd fr h Q} := @wp_unf E nt rd fr h Q _ _ s46_13.eq_1
def r46_14 : List GO := [⟨none, some 4, .assign (.const (.int .i64 1))⟩]
def r46_14_w {E fr h Q} := @opsW_unf E fr h Q _ _ r46_14.eq_1
def s46_15 : GC := .seq (.ops r46_14) .ret
def s46_15_w {E nt rd fr h Q} := @wp_unf E nt rd fr h Q _ _ s46_15.eq_1
def s46_16 : GC := .cond (.tmp 13) s46_15 .skip
def s46_16_w {E nt rd fr h Q} := @wp_unf E nt rd fr h Q _ _ s46_16.eq_1
def r46_17 : List GO := [⟨none, some 13, .move (.tmp 6)⟩]
def r46_17_w {E fr h Q} := @opsW_unf E fr h Q _ _ r46_17.eq_1
def s46_18 : GC := .seq (.ops r46_17) s46_16
def s46_18_w {E nt rd fr h Q} := @wp_unf E nt rd fr h Q _ _ s46_18.eq_1
def s46_19 : GC := .seq (s46_18) s46_13
def s46_19_w {E nt rd fr h Q} := @wp_unf E nt rd fr h Q _ _ s46_19.eq_1
def r46_20 : List GO := [⟨none, some 4, .assign (.const (.int .i64 (-1)))⟩]
def r46_20_w {E fr h Q} := @opsW_unf E fr h Q _ _ r46_20.eq_1
def s46_21 : GC := .seq (.ops r46_20) .ret
def s46_21_w {E nt rd fr h Q} := @wp_unf E nt rd fr h Q _ _ s46_21.eq_1
def r46_22 : List GO := [⟨none, some 4, .assign (.const (.int .i64 0))⟩]
def r46_22_w {E fr h Q} := @opsW_unf E fr h Q _ _ r46_22.eq_1
def s46_23 : GC := .seq (.ops r46_22) .ret
def s46_23_w {E nt rd fr h Q} := @wp_unf E nt rd fr h Q _ _ s46_23.eq_1
def s46_24 : GC := .cond (.tmp 12) s46_23 .skip
def s46_24_w {E nt rd fr h Q} := @wp_unf E nt rd fr h Q _ _ s46_24.eq_1
def r46_25 : List GO := [⟨none, some 12, .move (.tmp 6)⟩]
def r46_25_w {E fr h Q} := @opsW_unf E fr h Q _ _ r46_25.eq_1
def s46_26 : GC := .seq (.ops r46_25) s46_24
def s46_26_w {E nt rd fr h Q} := @wp_unf E nt rd fr h Q _ _ s46_26.eq_1
def s46_27 : GC := .seq (s46_26) s46_21
def s46_27_w {E nt rd fr h Q} := @wp_unf E nt rd fr h Q _ _ s46_27.eq_1
def s46_28 : GC := .cond (.tmp 11) s46_27 .skip
def s46_28_w {E nt rd fr h Q} := @wp_unf E nt rd fr h Q _ _ s46_28.eq_1
def r46_29 : List GO := [⟨none, some 11, .move (.tmp 5)⟩]
def r46_29_w {E fr h Q} := @opsW_unf E fr h Q _ _ r46_29.eq_1
def s46_30 : GC := .seq (.ops r46_29) s46_28
def s46_30_w {E nt rd fr h Q} := @wp_unf E nt rd fr h Q _ _ s46_30.eq_1
def s46_31 : GC := .seq (s46_30) s46_19
def s46_31_w {E nt rd fr h Q} := @wp_unf E nt rd fr h Q _ _ s46_31.eq_1
def r46_32 : List GO := [⟨none, some 9, .move (.tmp 1)⟩,
  ⟨none, some 10, .call ⟨.value (.func 65), ⟨[.tmp 9]⟩, ⟨[23]⟩⟩⟩,
  ⟨none, some 6, .assign (.tmp 10)⟩]
def r46_32_w {E fr h Q} := @opsW_unf E fr h Q _ _ r46_32.eq_1
def s46_33 : GC := .seq (.ops r46_32) s46_31
def s46_33_w {E nt rd fr h Q} := @wp_unf E nt rd fr h Q _ _ s46_33.eq_1
def r46_34 : List GO := [⟨none, some 7, .move (.tmp 0)⟩,
  ⟨none, some 8, .call ⟨.value (.func 65), ⟨[.tmp 7]⟩, ⟨[23]⟩⟩⟩,
  ⟨none, some 5, .assign (.tmp 8)⟩]
def r46_34_w {E fr h Q} := @opsW_unf E fr h Q _ _ r46_34.eq_1
def s46_35 : GC := .seq (.ops r46_34) s46_33
def s46_35_w {E nt rd fr h Q} := @wp_unf E nt rd fr h Q _ _ s46_35.eq_1
def r46_36 : List GO := [⟨none, some 4, .assign (.const (.int .i64 0))⟩]
def r46_36_w {E fr h Q} := @opsW_unf E fr h Q _ _ r46_36.eq_1
def s46_37 : GC := .seq (.ops r46_36) s46_35
def s46_37_w {E nt rd fr h Q} := @wp_unf E nt rd fr h Q _ _ s46_37.eq_1
theorem c46 : Tryd.f46.body.bind (clean env 20) = some s46_37 := by kernel_rfl
theorem e46 : env.funs.get 46 = some Tryd.f46 := by kernel_rfl
theorem F46 {args : List Value} {h : Heap} {K : Value → Heap → Prop} (hl : args.length = 2) (w : s46_37.wp env 20 none (setAll args 0 .leaf) h (resK env [.tmp 4] K)) : Ret env (.func 46) args h K :=
  Ret.of_body' rfl e46 c46 rfl rfl (by rw [hl]; decide) w
/-! helmsman/share.key -/
def r47_0 : List GO := [⟨none, some 15, .move (.tmp 3)⟩,
  ⟨none, some 16, .binOp .or 23 (.tmp 15) (.const (.int .u64 9223372036854775808)) 23⟩,
  ⟨none, some 2, .assign (.tmp 16)⟩]
def r47_0_w {E fr h Q} := @opsW_unf E fr h Q _ _ r47_0.eq_1
def s47_1 : GC := .seq (.ops r47_0) .ret
def s47_1_w {E nt rd fr h Q} := @wp_unf E nt rd fr h Q _ _ s47_1.eq_1
def r47_2 : List GO := [⟨none, some 2, .assign (.const (.int .u64 18446744073709551615))⟩]
def r47_2_w {E fr h Q} := @opsW_unf E fr h Q _ _ r47_2.eq_1
def s47_3 : GC := .seq (.ops r47_2) .ret
def s47_3_w {E nt rd fr h Q} := @wp_unf E nt rd fr h Q _ _ s47_3.eq_1
def r47_4 : List GO := [⟨none, some 13, .move (.tmp 3)⟩,
  ⟨none, some 14, .unOp .xor 23 (.tmp 13)⟩,
  ⟨none, some 2, .assign (.tmp 14)⟩]
def r47_4_w {E fr h Q} := @opsW_unf E fr h Q _ _ r47_4.eq_1
def s47_5 : GC := .seq (.ops r47_4) .ret
def s47_5_w {E nt rd fr h Q} := @wp_unf E nt rd fr h Q _ _ s47_5.eq_1
def s47_6 : GC := .cond (.tmp 9) s47_5 .skip
def s47_6_w {E nt rd fr h Q} := @wp_unf E nt rd fr h Q _ _ s47_6.eq_1
def r47_7 : List GO := [⟨none, some 10, .move (.tmp 3)⟩,
  ⟨none, some 11, .binOp .shr 23 (.tmp 10) (.const (.int .u64 63)) 69⟩,
  ⟨none, some 12, .binOp .eql 23 (.tmp 11) (.const (.int .u64 1)) 23⟩,
  ⟨none, some 9, .assign (.tmp 12)⟩]
def r47_7_w {E fr h Q} := @opsW_unf E fr h Q _ _ r47_7.eq_1
def s47_8 : GC := .seq (.ops r47_7) s47_6
def s47_8_w {E nt rd fr h Q} := @wp_unf E nt rd fr h Q _ _ s47_8.eq_1
def s47_9 : GC := .cond (.tmp 6) s47_3 s47_8
def s47_9_w {E nt rd fr h Q} := @wp_unf E nt rd fr h Q _ _ s47_9.eq_1
def r47_10 : List GO := [⟨none, some 7, .move (.tmp 0)⟩,
  ⟨none, some 8, .call ⟨.value (.func 63), ⟨[.tmp 7]⟩, ⟨[27]⟩⟩⟩,
  ⟨none, some 6, .assign (.tmp 8)⟩]
def r47_10_w {E fr h Q} := @opsW_unf E fr h Q _ _ r47_10.eq_1
def s47_11 : GC := .seq (.ops r47_10) s47_9
def s47_11_w {E nt rd fr h Q} := @wp_unf E nt rd fr h Q _ _ s47_11.eq_1
def s47_12 : GC := .seq (.block 0 s47_11) s47_1
def s47_12_w {E nt rd fr h Q} := @wp_unf E nt rd fr h Q _ _ s47_12.eq_1
def r47_13 : List GO := [⟨none, some 4, .move (.tmp 0)⟩,
  ⟨none, some 5, .call ⟨.value (.func 18), ⟨[.tmp 4]⟩, ⟨[27]⟩⟩⟩,
  ⟨none, some 3, .assign (.tmp 5)⟩]
def r47_13_w {E fr h Q} := @opsW_unf E fr h Q _ _ r47_13.eq_1
def s47_14 : GC := .seq (.ops r47_13) s47_12
def s47_14_w {E nt rd fr h Q} := @wp_unf E nt rd fr h Q _ _ s47_14.eq_1
def r47_15 : List GO := [⟨none, some 2, .assign (.const (.int .u64 0))⟩]
def r47_15_w {E fr h Q} := @opsW_unf E fr h Q _ _ r47_15.eq_1
def s47_16 : GC := .seq (.ops r47_15) s47_14
def s47_16_w {E nt rd fr h Q} := @wp_unf E nt rd fr h Q _ _ s47_16.eq_1
theorem c47 : Tryd.f47.body.bind (clean env 17) = some s47_16 := by kernel_rfl
theorem e47 : env.funs.get 47 = some Tryd.f47 := by kernel_rfl
theorem F47 {args : List Value} {h : Heap} {K : Value → Heap → Prop} (hl : args.length = 1) (w : s47_16.wp env 17 none (setAll args 0 .leaf) h (resK env [.tmp 2] K)) : Ret env (.func 47) args h K :=
  Ret.of_body' rfl e47 c47 rfl rfl (by rw [hl]; decide) w
/-! math.NaN -/
def r48_0 : List GO := [⟨none, some 1, .call ⟨.value (.func 10), ⟨[.const (.int .u64 9221120237041090561)]⟩, ⟨[23]⟩⟩⟩,
  ⟨none, some 0, .assign (.tmp 1)⟩]
def r48_0_w {E fr h Q} := @opsW_unf E fr h Q _ _ r48_0.eq_1
def s48_1 : GC := .seq (.ops r48_0) .ret
def s48_1_w {E nt rd fr h Q} := @wp_unf E nt rd fr h Q _ _ s48_1.eq_1
def r48_2 : List GO := [⟨none, some 0, .assign (.const (.float .f64 0))⟩]
def r48_2_w {E fr h Q} := @opsW_unf E fr h Q _ _ r48_2.eq_1
def s48_3 : GC := .seq (.ops r48_2) s48_1
def s48_3_w {E nt rd fr h Q} := @wp_unf E nt rd fr h Q _ _ s48_3.eq_1
theorem c48 : Tryd.f48.body.bind (clean env 2) = some s48_3 := by kernel_rfl
theorem e48 : env.funs.get 48 = some Tryd.f48 := by kernel_rfl
theorem F48 {args : List Value} {h : Heap} {K : Value → Heap → Prop} (hl : args.length = 0) (w : s48_3.wp env 2 none (setAll args 0 .leaf) h (resK env [.tmp 0] K)) : Ret env (.func 48) args h K :=
  Ret.of_body' rfl e48 c48 rfl rfl (by rw [hl]; decide) w
/-! slices.DeleteFunc[[]float64,float64] -/
def r62_0 : List GO := [⟨none, some 39, .move (.tmp 0)⟩,
  ⟨none, some 40, .move (.tmp 5)⟩,
  ⟨none, some 41, .slice 25 (.tmp 39) none (some (.tmp 40)) none⟩,
  ⟨none, some 4, .assign (.tmp 41)⟩]
def r62_0_w {E fr h Q} := @opsW_unf E fr h Q _ _ r62_0.eq_1
def s62_1 : GC := .seq (.ops r62_0) .ret
def s62_1_w {E nt rd fr h Q} := @wp_unf E nt rd fr h Q _ _ s62_1.eq_1
def r62_2 : List GO := [⟨none, some 36, .move (.tmp 0)⟩,
  ⟨none, some 37, .move (.tmp 5)⟩,
  ⟨none, some 38, .slice 25 (.tmp 36) (some (.tmp 37)) none none⟩,
  ⟨none, none, .call ⟨.builtin .clear, ⟨[.tmp 38]⟩, ⟨[25]⟩⟩⟩]
def r62_2_w {E fr h Q} := @opsW_unf E fr h Q _ _ r62_2.eq_1
def s62_3 : GC := .seq (.ops r62_2) s62_1
def s62_3_w {E nt rd fr h Q} := @wp_unf E nt rd fr h Q _ _ s62_3.eq_1
def r62_4 : List GO := [⟨none, some 20, .move (.tmp 6)⟩,
  ⟨none, some 21, .binOp .add 3 (.tmp 20) (.const (.int .i64 1)) 3⟩,
  ⟨none, some 6, .assign (.tmp 21)⟩]
def r62_4_w {E fr h Q} := @opsW_unf E fr h Q _ _ r62_4.eq_1
def s62_5 : GC := .ops r62_4
def s62_5_w {E nt rd fr h Q} := @wp_unf E nt rd fr h Q _ _ s62_5.eq_1
def r62_6 : List GO := [⟨none, some 34, .move (.tmp 5)⟩,
  ⟨none, some 35, .binOp .add 3 (.tmp 34) (.const (.int .i64 1)) 3⟩,
  ⟨none, some 5, .assign (.tmp 35)⟩]
def r62_6_w {E fr h Q} := @opsW_unf E fr h Q _ _ r62_6.eq_1
def s62_7 : GC := .ops r62_6
def s62_7_w {E nt rd fr h Q} := @wp_unf E nt rd fr h Q _ _ s62_7.eq_1
def r62_8 : List GO := [⟨none, some 30, .move (.tmp 0)⟩,
  ⟨none, some 31, .move (.tmp 5)⟩,
  ⟨none, some 32, .move (.tmp 7)⟩,
  ⟨none, some 33, .indexAddr 25 (.tmp 30) (.tmp 31)⟩,
  ⟨none, none, .store 27 (.tmp 33) (.tmp 32)⟩]
def r62_8_w {E fr h Q} := @opsW_unf E fr h Q _ _ r62_8.eq_1
def s62_9 : GC := .seq (.ops r62_8) s62_7
def s62_9_w {E nt rd fr h Q} := @wp_unf E nt rd fr h Q _ _ s62_9.eq_1
def s62_10 : GC := .cond (.tmp 29) s62_9 .skip
def s62_10_w {E nt rd fr h Q} := @wp_unf E nt rd fr h Q _ _ s62_10.eq_1
def r62_11 : List GO := [⟨none, some 26, .move (.tmp 1)⟩,
  ⟨none, some 27, .move (.tmp 7)⟩,
  ⟨none, some 28, .call ⟨.value (.tmp 26), ⟨[.tmp 27]⟩, ⟨[27]⟩⟩⟩,
  ⟨none, some 29, .unOp .not 4 (.tmp 28)⟩]
def r62_11_w {E fr h Q} := @opsW_unf E fr h Q _ _ r62_11.eq_1
def s62_12 : GC := .seq (.ops r62_11) s62_10
def s62_12_w {E nt rd fr h Q} := @wp_unf E nt rd fr h Q _ _ s62_12.eq_1
def r62_13 : List GO := [⟨none, some 22, .move (.tmp 0)⟩,
  ⟨none, some 23, .move (.tmp 6)⟩,
  ⟨none, some 24, .indexAddr 25 (.tmp 22) (.tmp 23)⟩,
  ⟨none, some 25, .load 27 (.tmp 24)⟩,
  ⟨none, some 7, .assign (.tmp 25)⟩]
def r62_13_w {E fr h Q} := @opsW_unf E fr h Q _ _ r62_13.eq_1
def s62_14 : GC := .seq (.ops r62_13) s62_12
def s62_14_w {E nt rd fr h Q} := @wp_unf E nt rd fr h Q _ _ s62_14.eq_1
def s62_15 : GC := .seq (.block 1 s62_14) s62_5
def s62_15_w {E nt rd fr h Q} := @wp_unf E nt rd fr h Q _ _ s62_15.eq_1
def s62_16 : GC := .cond (.tmp 19) .skip (.exit 0)
def s62_16_w {E nt rd fr h Q} := @wp_unf E nt rd fr h Q _ _ s62_16.eq_1
def r62_17 : List GO := [⟨none, some 16, .move (.tmp 6)⟩,
  ⟨none, some 17, .move (.tmp 0)⟩,
  ⟨none, some 18, .call ⟨.builtin .len, ⟨[.tmp 17]⟩, ⟨[25]⟩⟩⟩,
  ⟨none, some 19, .binOp .lss 3 (.tmp 16) (.tmp 18) 3⟩]
def r62_17_w {E fr h Q} := @opsW_unf E fr h Q _ _ r62_17.eq_1
def s62_18 : GC := .seq (.ops r62_17) s62_16
def s62_18_w {E nt rd fr h Q} := @wp_unf E nt rd fr h Q _ _ s62_18.eq_1
def s62_19 : GC := .seq (s62_18) s62_15
def s62_19_w {E nt rd fr h Q} := @wp_unf E nt rd fr h Q _ _ s62_19.eq_1
def s62_20 : GC := .loop s62_19
def s62_20_w {E nt rd fr h Q} := @wp_unf E nt rd fr h Q _ _ s62_20.eq_1
def s62_21 : GC := .block 0 s62_20
def s62_21_w {E nt rd fr h Q} := @wp_unf E nt rd fr h Q _ _ s62_21.eq_1
def r62_22 : List GO := [⟨none, some 14, .move (.tmp 5)⟩,
  ⟨none, some 15, .binOp .add 3 (.tmp 14) (.const (.int .i64 1)) 3⟩,
  ⟨none, some 6, .assign (.tmp 15)⟩]
def r62_22_w {E fr h Q} := @opsW_unf E fr h Q _ _ r62_22.eq_1
def s62_23 : GC := .seq (.ops r62_22) s62_21
def s62_23_w {E nt rd fr h Q} := @wp_unf E nt rd fr h Q _ _ s62_23.eq_1
def s62_24 : GC := .seq (s62_23) s62_3
def s62_24_w {E nt rd fr h Q} := @wp_unf E nt rd fr h Q _ _ s62_24.eq_1
def r62_25 : List GO := [⟨none, some 13, .move (.tmp 0)⟩,
  ⟨none, some 4, .assign (.tmp 13)⟩]
def r62_25_w {E fr h Q} := @opsW_unf E fr h Q _ _ r62_25.eq_1
def s62_26 : GC := .seq (.ops r62_25) .ret
def s62_26_w {E nt rd fr h Q} := @wp_unf E nt rd fr h Q _ _ s62_26.eq_1
def s62_27 : GC := .cond (.tmp 12) s62_26 .skip
def s62_27_w {E nt rd fr h Q} := @wp_unf E nt rd fr h Q _ _ s62_27.eq_1
def r62_28 : List GO := [⟨none, some 11, .move (.tmp 5)⟩,
  ⟨none, some 12, .binOp .eql 3 (.tmp 11) (.const (.int .i64 (-1))) 3⟩]
def r62_28_w {E fr h Q} := @opsW_unf E fr h Q _ _ r62_28.eq_1
def s62_29 : GC := .seq (.ops r62_28) s62_27
def s62_29_w {E nt rd fr h Q} := @wp_unf E nt rd fr h Q _ _ s62_29.eq_1
def s62_30 : GC := .seq (s62_29) s62_24
def s62_30_w {E nt rd fr h Q} := @wp_unf E nt rd fr h Q _ _ s62_30.eq_1
def r62_31 : List GO := [⟨none, some 8, .move (.tmp 0)⟩,
  ⟨none, some 9, .move (.tmp 1)⟩,
  ⟨none, some 10, .call ⟨.value (.func 80), ⟨[.tmp 8, .tmp 9]⟩, ⟨[25, 33]⟩⟩⟩,
  ⟨none, some 5, .assign (.tmp 10)⟩]
def r62_31_w {E fr h Q} := @opsW_unf E fr h Q _ _ r62_31.eq_1
def s62_32 : GC := .seq (.ops r62_31) s62_30
def s62_32_w {E nt rd fr h Q} := @wp_unf E nt rd fr h Q _ _ s62_32.eq_1
def r62_33 : List GO := [⟨none, some 4, .assign (.const (.slice none 0 0))⟩]
def r62_33_w {E fr h Q} := @opsW_unf E fr h Q _ _ r62_33.eq_1
def s62_34 : GC := .seq (.ops r62_33) s62_32
def s62_34_w {E nt rd fr h Q} := @wp_unf E nt rd fr h Q _ _ s62_34.eq_1
theorem c62 : Tryd.f62.body.bind (clean env 42) = some s62_34 := by kernel_rfl
theorem e62 : env.funs.get 62 = some Tryd.f62 := by kernel_rfl
theorem F62 {args : List Value} {h : Heap} {K : Value → Heap → Prop} (hl : args.length = 2) (w : s62_34.wp env 42 none (setAll args 0 .leaf) h (resK env [.tmp 4] K)) : Ret env (.func 62) args h K :=
  Ret.of_body' rfl e62 c62 rfl rfl (by rw [hl]; decide) w
/-! math.IsNaN -/
def r63_0 : List GO := [⟨none, some 3, .move (.tmp 0)⟩,
  ⟨none, some 4, .move (.tmp 0)⟩,
  ⟨none, some 5, .binOp .neq 27 (.tmp 3) (.tmp 4) 27⟩,
  ⟨none, some 2, .assign (.tmp 5)⟩]
def r63_0_w {E fr h Q} := @opsW_unf E fr h Q _ _ r63_0.eq_1
def s63_1 : GC := .seq (.ops r63_0) .ret
def s63_1_w {E nt rd fr h Q} := @wp_unf E nt rd fr h Q _ _ s63_1.eq_1
def r63_2 : List GO := [⟨none, some 2, .assign (.const (.bool false))⟩]
def r63_2_w {E fr h Q} := @opsW_unf E fr h Q _ _ r63_2.eq_1
def s63_3 : GC := .seq (.ops r63_2) s63_1
def s63_3_w {E nt rd fr h Q} := @wp_unf E nt rd fr h Q _ _ s63_3.eq_1
theorem c63 : Tryd.f63.body.bind (clean env 6) = some s63_3 := by kernel_rfl
theorem e63 : env.funs.get 63 = some Tryd.f63 := by kernel_rfl
theorem F63 {args : List Value} {h : Heap} {K : Value → Heap → Prop} (hl : args.length = 1) (w : s63_3.wp env 6 none (setAll args 0 .leaf) h (resK env [.tmp 2] K)) : Ret env (.func 63) args h K :=
  Ret.of_body' rfl e63 c63 rfl rfl (by rw [hl]; decide) w
/-! slices.stableCmpFunc[float64] -/
def r64_0 : List GO := [⟨none, some 61, .move (.tmp 6)⟩,
  ⟨none, some 62, .binOp .mul 3 (.tmp 61) (.const (.int .i64 2)) 3⟩,
  ⟨none, some 6, .assign (.tmp 62)⟩]
def r64_0_w {E fr h Q} := @opsW_unf E fr h Q _ _ r64_0.eq_1
def s64_1 : GC := .ops r64_0
def s64_1_w {E nt rd fr h Q} := @wp_unf E nt rd fr h Q _ _ s64_1.eq_1
def r64_2 : List GO := [⟨none, some 55, .move (.tmp 0)⟩,
  ⟨none, some 56, .move (.tmp 7)⟩,
  ⟨none, some 57, .move (.tmp 9)⟩,
  ⟨none, some 58, .move (.tmp 1)⟩,
  ⟨none, some 59, .move (.tmp 2)⟩,
  ⟨none, some 60, .call ⟨.value (.func 82), ⟨[.tmp 55, .tmp 56, .tmp 57, .tmp 58, .tmp 59]⟩, ⟨[25, 3, 3, 3, 63]⟩⟩⟩]
def r64_2_w {E fr h Q} := @opsW_unf E fr h Q _ _ r64_2.eq_1
def s64_3 : GC := .ops r64_2
def s64_3_w {E nt rd fr h Q} := @wp_unf E nt rd fr h Q _ _ s64_3.eq_1
def s64_4 : GC := .cond (.tmp 54) s64_3 .skip
def s64_4_w {E nt rd fr h Q} := @wp_unf E nt rd fr h Q _ _ s64_4.eq_1
def r64_5 : List GO := [⟨none, some 52, .move (.tmp 9)⟩,
  ⟨none, some 53, .move (.tmp 1)⟩,
  ⟨none, some 54, .binOp .lss 3 (.tmp 52) (.tmp 53) 3⟩]
def r64_5_w {E fr h Q} := @opsW_unf E fr h Q _ _ r64_5.eq_1
def s64_6 : GC := .seq (.ops r64_5) s64_4
def s64_6_w {E nt rd fr h Q} := @wp_unf E nt rd fr h Q _ _ s64_6.eq_1
def r64_7 : List GO := [⟨none, some 49, .move (.tmp 7)⟩,
  ⟨none, some 50, .move (.tmp 6)⟩,
  ⟨none, some 51, .binOp .add 3 (.tmp 49) (.tmp 50) 3⟩,
  ⟨none, some 9, .assign (.tmp 51)⟩]
def r64_7_w {E fr h Q} := @opsW_unf E fr h Q _ _ r64_7.eq_1
def s64_8 : GC := .seq (.ops r64_7) s64_6
def s64_8_w {E nt rd fr h Q} := @wp_unf E nt rd fr h Q _ _ s64_8.eq_1
def s64_9 : GC := .seq (s64_8) s64_1
def s64_9_w {E nt rd fr h Q} := @wp_unf E nt rd fr h Q _ _ s64_9.eq_1
def r64_10 : List GO := [⟨none, some 45, .move (.tmp 8)⟩,
  ⟨none, some 46, .move (.tmp 6)⟩,
  ⟨none, some 47, .binOp .mul 3 (.const (.int .i64 2)) (.tmp 46) 3⟩,
  ⟨none, some 48, .binOp .add 3 (.tmp 45) (.tmp 47) 3⟩,
  ⟨none, some 8, .assign (.tmp 48)⟩]
def r64_10_w {E fr h Q} := @opsW_unf E fr h Q _ _ r64_10.eq_1
def s64_11 : GC := .ops r64_10
def s64_11_w {E nt rd fr h Q} := @wp_unf E nt rd fr h Q _ _ s64_11.eq_1
def r64_12 : List GO := [⟨none, some 44, .move (.tmp 8)⟩,
  ⟨none, some 7, .assign (.tmp 44)⟩]
def r64_12_w {E fr h Q} := @opsW_unf E fr h Q _ _ r64_12.eq_1
def s64_13 : GC := .seq (.ops r64_12) s64_11
def s64_13_w {E nt rd fr h Q} := @wp_unf E nt rd fr h Q _ _ s64_13.eq_1
def r64_14 : List GO := [⟨none, some 36, .move (.tmp 0)⟩,
  ⟨none, some 37, .move (.tmp 7)⟩,
  ⟨none, some 38, .move (.tmp 7)⟩,
  ⟨none, some 39, .move (.tmp 6)⟩,
  ⟨none, some 40, .binOp .add 3 (.tmp 38) (.tmp 39) 3⟩,
  ⟨none, some 41, .move (.tmp 8)⟩,
  ⟨none, some 42, .move (.tmp 2)⟩,
  ⟨none, some 43, .call ⟨.value (.func 82), ⟨[.tmp 36, .tmp 37, .tmp 40, .tmp 41, .tmp 42]⟩, ⟨[25, 3, 3, 3, 63]⟩⟩⟩]
def r64_14_w {E fr h Q} := @opsW_unf E fr h Q _ _ r64_14.eq_1
def s64_15 : GC := .seq (.ops r64_14) s64_13
def s64_15_w {E nt rd fr h Q} := @wp_unf E nt rd fr h Q _ _ s64_15.eq_1
def s64_16 : GC := .block 5 s64_15
def s64_16_w {E nt rd fr h Q} := @wp_unf E nt rd fr h Q _ _ s64_16.eq_1
def s64_17 : GC := .cond (.tmp 35) .skip (.exit 4)
def s64_17_w {E nt rd fr h Q} := @wp_unf E nt rd fr h Q _ _ s64_17.eq_1
def r64_18 : List GO := [⟨none, some 33, .move (.tmp 8)⟩,
  ⟨none, some 34, .move (.tmp 1)⟩,
  ⟨none, some 35, .binOp .leq 3 (.tmp 33) (.tmp 34) 3⟩]
def r64_18_w {E fr h Q} := @opsW_unf E fr h Q _ _ r64_18.eq_1
def s64_19 : GC := .seq (.ops r64_18) s64_17
def s64_19_w {E nt rd fr h Q} := @wp_unf E nt rd fr h Q _ _ s64_19.eq_1
def s64_20 : GC := .seq (s64_19) s64_16
def s64_20_w {E nt rd fr h Q} := @wp_unf E nt rd fr h Q _ _ s64_20.eq_1
def s64_21 : GC := .loop s64_20
def s64_21_w {E nt rd fr h Q} := @wp_unf E nt rd fr h Q _ _ s64_21.eq_1
def s64_22 : GC := .seq (.block 4 s64_21) s64_9
def s64_22_w {E nt rd fr h Q} := @wp_unf E nt rd fr h Q _ _ s64_22.eq_1
def r64_23 : List GO := [⟨none, some 31, .move (.tmp 6)⟩,
  ⟨none, some 32, .binOp .mul 3 (.const (.int .i64 2)) (.tmp 31) 3⟩,
  ⟨none, some 7, .assign (.const (.int .i64 0))⟩,
  ⟨none, some 8, .assign (.tmp 32)⟩]
def r64_23_w {E fr h Q} := @opsW_unf E fr h Q _ _ r64_23.eq_1
def s64_24 : GC := .seq (.ops r64_23) s64_22
def s64_24_w {E nt rd fr h Q} := @wp_unf E nt rd fr h Q _ _ s64_24.eq_1
def s64_25 : GC := .block 3 s64_24
def s64_25_w {E nt rd fr h Q} := @wp_unf E nt rd fr h Q _ _ s64_25.eq_1
def s64_26 : GC := .cond (.tmp 30) .skip (.exit 2)
def s64_26_w {E nt rd fr h Q} := @wp_unf E nt rd fr h Q _ _ s64_26.eq_1
def r64_27 : List GO := [⟨none, some 28, .move (.tmp 6)⟩,
  ⟨none, some 29, .move (.tmp 1)⟩,
  ⟨none, some 30, .binOp .lss 3 (.tmp 28) (.tmp 29) 3⟩]
def r64_27_w {E fr h Q} := @opsW_unf E fr h Q _ _ r64_27.eq_1
def s64_28 : GC := .seq (.ops r64_27) s64_26
def s64_28_w {E nt rd fr h Q} := @wp_unf E nt rd fr h Q _ _ s64_28.eq_1
def s64_29 : GC := .seq (s64_28) s64_25
def s64_29_w {E nt rd fr h Q} := @wp_unf E nt rd fr h Q _ _ s64_29.eq_1
def s64_30 : GC := .loop s64_29
def s64_30_w {E nt rd fr h Q} := @wp_unf E nt rd fr h Q _ _ s64_30.eq_1
def s64_31 : GC := .block 2 s64_30
def s64_31_w {E nt rd fr h Q} := @wp_unf E nt rd fr h Q _ _ s64_31.eq_1
def r64_32 : List GO := [⟨none, some 23, .move (.tmp 0)⟩,
  ⟨none, some 24, .move (.tmp 7)⟩,
  ⟨none, some 25, .move (.tmp 1)⟩,
  ⟨none, some 26, .move (.tmp 2)⟩,
  ⟨none, some 27, .call ⟨.value (.func 81), ⟨[.tmp 23, .tmp 24, .tmp 25, .tmp 26]⟩, ⟨[25, 3, 3, 63]⟩⟩⟩]
def r64_32_w {E fr h Q} := @opsW_unf E fr h Q _ _ r64_32.eq_1
def s64_33 : GC := .seq (.ops r64_32) s64_31
def s64_33_w {E nt rd fr h Q} := @wp_unf E nt rd fr h Q _ _ s64_33.eq_1
def r64_34 : List GO := [⟨none, some 20, .move (.tmp 8)⟩,
  ⟨none, some 21, .move (.tmp 6)⟩,
  ⟨none, some 22, .binOp .add 3 (.tmp 20) (.tmp 21) 3⟩,
  ⟨none, some 8, .assign (.tmp 22)⟩]
def r64_34_w {E fr h Q} := @opsW_unf E fr h Q _ _ r64_34.eq_1
def s64_35 : GC := .ops r64_34
def s64_35_w {E nt rd fr h Q} := @wp_unf E nt rd fr h Q _ _ s64_35.eq_1
def r64_36 : List GO := [⟨none, some 19, .move (.tmp 8)⟩,
  ⟨none, some 7, .assign (.tmp 19)⟩]
def r64_36_w {E fr h Q} := @opsW_unf E fr h Q _ _ r64_36.eq_1
def s64_37 : GC := .seq (.ops r64_36) s64_35
def s64_37_w {E nt rd fr h Q} := @wp_unf E nt rd fr h Q _ _ s64_37.eq_1
def r64_38 : List GO := [⟨none, some 14, .move (.tmp 0)⟩,
  ⟨none, some 15, .move (.tmp 7)⟩,
  ⟨none, some 16, .move (.tmp 8)⟩,
  ⟨none, some 17, .move (.tmp 2)⟩,
  ⟨none, some 18, .call ⟨.value (.func 81), ⟨[.tmp 14, .tmp 15, .tmp 16, .tmp 17]⟩, ⟨[25, 3, 3, 63]⟩⟩⟩]
def r64_38_w {E fr h Q} := @opsW_unf E fr h Q _ _ r64_38.eq_1
def s64_39 : GC := .seq (.ops r64_38) s64_37
def s64_39_w {E nt rd fr h Q} := @wp_unf E nt rd fr h Q _ _ s64_39.eq_1
def s64_40 : GC := .block 1 s64_39
def s64_40_w {E nt rd fr h Q} := @wp_unf E nt rd fr h Q _ _ s64_40.eq_1
def s64_41 : GC := .cond (.tmp 13) .skip (.exit 0)
def s64_41_w {E nt rd fr h Q} := @wp_unf E nt rd fr h Q _ _ s64_41.eq_1
def r64_42 : List GO := [⟨none, some 11, .move (.tmp 8)⟩,
  ⟨none, some 12, .move (.tmp 1)⟩,
  ⟨none, some 13, .binOp .leq 3 (.tmp 11) (.tmp 12) 3⟩]
def r64_42_w {E fr h Q} := @opsW_unf E fr h Q _ _ r64_42.eq_1
def s64_43 : GC := .seq (.ops r64_42) s64_41
def s64_43_w {E nt rd fr h Q} := @wp_unf E nt rd fr h Q _ _ s64_43.eq_1
def s64_44 : GC := .seq (s64_43) s64_40
def s64_44_w {E nt rd fr h Q} := @wp_unf E nt rd fr h Q _ _ s64_44.eq_1
def s64_45 : GC := .loop s64_44
def s64_45_w {E nt rd fr h Q} := @wp_unf E nt rd fr h Q _ _ s64_45.eq_1
def s64_46 : GC := .seq (.block 0 s64_45) s64_33
def s64_46_w {E nt rd fr h Q} := @wp_unf E nt rd fr h Q _ _ s64_46.eq_1
def r64_47 : List GO := [⟨none, some 10, .move (.tmp 6)⟩,
  ⟨none, some 7, .assign (.const (.int .i64 0))⟩,
  ⟨none, some 8, .assign (.tmp 10)⟩]
def r64_47_w {E fr h Q} := @opsW_unf E fr h Q _ _ r64_47.eq_1
def s64_48 : GC := .seq (.ops r64_47) s64_46
def s64_48_w {E nt rd fr h Q} := @wp_unf E nt rd fr h Q _ _ s64_48.eq_1
def r64_49 : List GO := [⟨none, some 6, .assign (.const (.int .i64 20))⟩]
def r64_49_w {E fr h Q} := @opsW_unf E fr h Q _ _ r64_49.eq_1
def s64_50 : GC := .seq (.ops r64_49) s64_48
def s64_50_w {E nt rd fr h Q} := @wp_unf E nt rd fr h Q _ _ s64_50.eq_1
theorem c64 : Tryd.f64.body.bind (clean env 63) = some s64_50 := by kernel_rfl
theorem e64 : env.funs.get 64 = some Tryd.f64 := by kernel_rfl
theorem F64 {args : List Value} {h : Heap} {K : Value → Heap → Prop} (hl : args.length = 3) (w : s64_50.wp env 63 none (setAll args 0 .leaf) h (resK env [] K)) : Ret env (.func 64) args h K :=
  Ret.of_body' rfl e64 c64 rfl rfl (by rw [hl]; decide) w
/-! cmp.isNaN[uint64] -/
def r65_0 : List GO := [⟨none, some 3, .move (.tmp 0)⟩,
  ⟨none, some 4, .move (.tmp 0)⟩,
  ⟨none, some 5, .binOp .neq 23 (.tmp 3) (.tmp 4) 23⟩,
  ⟨none, some 2, .assign (.tmp 5)⟩]
def r65_0_w {E fr h Q} := @opsW_unf E fr h Q _ _ r65_0.eq_1
def s65_1 : GC := .seq (.ops r65_0) .ret
def s65_1_w {E nt rd fr h Q} := @wp_unf E nt rd fr h Q _ _ s65_1.eq_1
def r65_2 : List GO := [⟨none, some 2, .assign (.const (.bool false))⟩]
def r65_2_w {E fr h Q} := @opsW_unf E fr h Q _ _ r65_2.eq_1
def s65_3 : GC := .seq (.ops r65_2) s65_1
def s65_3_w {E nt rd fr h Q} := @wp_unf E nt rd fr h Q _ _ s65_3.eq_1
theorem c65 : Tryd.f65.body.bind (clean env 6) = some s65_3 := by kernel_rfl
theorem e65 : env.funs.get 65 = some Tryd.f65 := by kernel_rfl
theorem F65 {args : List Value} {h : Heap} {K : Value → Heap → Prop} (hl : args.length = 1) (w : s65_3.wp env 6 none (setAll args 0 .leaf) h (resK env [.tmp 2] K)) : Ret env (.func 65) args h K :=
  Ret.of_body' rfl e65 c65 rfl rfl (by rw [hl]; decide) w
/-! slices.IndexFunc[[]float64,float64] -/
def r80_0 : List GO := [⟨none, some 4, .assign (.const (.int .i64 (-1)))⟩]
def r80_0_w {E fr h Q} := @opsW_unf E fr h Q _ _ r80_0.eq_1
def s80_1 : GC := .seq (.ops r80_0) .ret
def s80_1_w {E nt rd fr h Q} := @wp_unf E nt rd fr h Q _ _ s80_1.eq_1
def r80_2 : List GO := [⟨none, some 18, .binOp .add 3 (.tmp 8) (.const (.int .i64 1)) 3⟩,
  ⟨none, some 8, .move (.tmp 18)⟩]
def r80_2_w {E fr h Q} := @opsW_unf E fr h Q _ _ r80_2.eq_1
def s80_3 : GC := .ops r80_2
def s80_3_w {E nt rd fr h Q} := @wp_unf E nt rd fr h Q _ _ s80_3.eq_1
def r80_4 : List GO := [⟨none, some 17, .move (.tmp 5)⟩,
  ⟨none, some 4, .assign (.tmp 17)⟩]
def r80_4_w {E fr h Q} := @opsW_unf E fr h Q _ _ r80_4.eq_1
def s80_5 : GC := .seq (.ops r80_4) .ret
def s80_5_w {E nt rd fr h Q} := @wp_unf E nt rd fr h Q _ _ s80_5.eq_1
def s80_6 : GC := .cond (.tmp 16) s80_5 .skip
def s80_6_w {E nt rd fr h Q} := @wp_unf E nt rd fr h Q _ _ s80_6.eq_1
def r80_7 : List GO := [⟨none, some 11, .move (.tmp 1)⟩,
  ⟨none, some 12, .move (.tmp 0)⟩,
  ⟨none, some 13, .move (.tmp 5)⟩,
  ⟨none, some 14, .indexAddr 25 (.tmp 12) (.tmp 13)⟩,
  ⟨none, some 15, .load 27 (.tmp 14)⟩,
  ⟨none, some 16, .call ⟨.value (.tmp 11), ⟨[.tmp 15]⟩, ⟨[27]⟩⟩⟩]
def r80_7_w {E fr h Q} := @opsW_unf E fr h Q _ _ r80_7.eq_1
def s80_8 : GC := .seq (.ops r80_7) s80_6
def s80_8_w {E nt rd fr h Q} := @wp_unf E nt rd fr h Q _ _ s80_8.eq_1
def r80_9 : List GO := [⟨none, some 10, .move (.tmp 8)⟩,
  ⟨none, some 5, .assign (.tmp 10)⟩]
def r80_9_w {E fr h Q} := @opsW_unf E fr h Q _ _ r80_9.eq_1
def s80_10 : GC := .seq (.ops r80_9) s80_8
def s80_10_w {E nt rd fr h Q} := @wp_unf E nt rd fr h Q _ _ s80_10.eq_1
def s80_11 : GC := .seq (.block 1 s80_10) s80_3
def s80_11_w {E nt rd fr h Q} := @wp_unf E nt rd fr h Q _ _ s80_11.eq_1
def s80_12 : GC := .cond (.tmp 9) .skip (.exit 0)
def s80_12_w {E nt rd fr h Q} := @wp_unf E nt rd fr h Q _ _ s80_12.eq_1
def s80_13 : GC := .seq (s80_12) s80_11
def s80_13_w {E nt rd fr h Q} := @wp_unf E nt rd fr h Q _ _ s80_13.eq_1
def r80_14 : List GO := [⟨none, some 9, .binOp .lss 3 (.tmp 8) (.tmp 7) 3⟩]
def r80_14_w {E fr h Q} := @opsW_unf E fr h Q _ _ r80_14.eq_1
def s80_15 : GC := .seq (.ops r80_14) s80_13
def s80_15_w {E nt rd fr h Q} := @wp_unf E nt rd fr h Q _ _ s80_15.eq_1
def s80_16 : GC := .loop s80_15
def s80_16_w {E nt rd fr h Q} := @wp_unf E nt rd fr h Q _ _ s80_16.eq_1
def s80_17 : GC := .block 0 s80_16
def s80_17_w {E nt rd fr h Q} := @wp_unf E nt rd fr h Q _ _ s80_17.eq_1
def r80_18 : List GO := [⟨none, some 6, .move (.tmp 0)⟩,
  ⟨none, some 7, .call ⟨.builtin .len, ⟨[.tmp 6]⟩, ⟨[25]⟩⟩⟩,
  ⟨none, some 8, .move (.const (.int .i64 0))⟩]
def r80_18_w {E fr h Q} := @opsW_unf E fr h Q _ _ r80_18.eq_1
def s80_19 : GC := .seq (.ops r80_18) s80_17
def s80_19_w {E nt rd fr h Q} := @wp_unf E nt rd fr h Q _ _ s80_19.eq_1
def s80_20 : GC := .seq (s80_19) s80_1
def s80_20_w {E nt rd fr h Q} := @wp_unf E nt rd fr h Q _ _ s80_20.eq_1
def r80_21 : List GO := [⟨none, some 4, .assign (.const (.int .i64 0))⟩]
def r80_21_w {E fr h Q} := @opsW_unf E fr h Q _ _ r80_21.eq_1
def s80_22 : GC := .seq (.ops r80_21) s80_20
def s80_22_w {E nt rd fr h Q} := @wp_unf E nt rd fr h Q _ _ s80_22.eq_1
theorem c80 : Tryd.f80.body.bind (clean env 19) = some s80_22 := by kernel_rfl
theorem e80 : env.funs.get 80 = some Tryd.f80 := by kernel_rfl
theorem F80 {args : List Value} {h : Heap} {K : Value → Heap → Prop} (hl : args.length = 2) (w : s80_22.wp env 19 none (setAll args 0 .leaf) h (resK env [.tmp 4] K)) : Ret env (.func 80) args h K :=
  Ret.of_body' rfl e80 c80 rfl rfl (by rw [hl]; decide) w
/-! slices.insertionSortCmpFunc[float64] -/
def r81_0 : List GO := [⟨none, some 15, .move (.tmp 8)⟩,
  ⟨none, some 16, .binOp .add 3 (.tmp 15) (.const (.int .i64 1)) 3⟩,
  ⟨none, some 8, .assign (.tmp 16)⟩]
def r81_0_w {E fr h Q} := @opsW_unf E fr h Q _ _ r81_0.eq_1
def s81_1 : GC := .ops r81_0
def s81_1_w {E nt rd fr h Q} := @wp_unf E nt rd fr h Q _ _ s81_1.eq_1
def r81_2 : List GO := [⟨none, some 35, .move (.tmp 9)⟩,
  ⟨none, some 36, .binOp .sub 3 (.tmp 35) (.const (.int .i64 1)) 3⟩,
  ⟨none, some 9, .assign (.tmp 36)⟩]
def r81_2_w {E fr h Q} := @opsW_unf E fr h Q _ _ r81_2.eq_1
def s81_3 : GC := .ops r81_2
def s81_3_w {E nt rd fr h Q} := @wp_unf E nt rd fr h Q _ _ s81_3.eq_1
def p81_4 : List (GO × List GO) := [(⟨none, some 37, .move (.tmp 0)⟩, []),
  (⟨none, some 38, .move (.tmp 9)⟩, []),
  (⟨none, some 39, .move (.tmp 0)⟩, []),
  (⟨none, some 40, .move (.tmp 9)⟩, []),
  (⟨none, some 41, .binOp .sub 3 (.tmp 40) (.const (.int .i64 1)) 3⟩, []),
  (⟨none, some 42, .move (.tmp 0)⟩, []),
  (⟨none, some 43, .move (.tmp 9)⟩, []),
  (⟨none, some 44, .binOp .sub 3 (.tmp 43) (.const (.int .i64 1)) 3⟩, []),
  (⟨none, some 45, .indexAddr 25 (.tmp 42) (.tmp 44)⟩, []),
  (⟨none, some 46, .load 27 (.tmp 45)⟩, []),
  (⟨none, some 47, .move (.tmp 0)⟩, []),
  (⟨none, some 48, .move (.tmp 9)⟩, []),
  (⟨none, some 49, .indexAddr 25 (.tmp 47) (.tmp 48)⟩, []),
  (⟨none, some 50, .load 27 (.tmp 49)⟩, []),
  (⟨none, some 51, .indexAddr 25 (.tmp 37) (.tmp 38)⟩, []),
  (⟨none, none, .store 27 (.tmp 51) (.tmp 46)⟩, []),
  (⟨none, some 52, .indexAddr 25 (.tmp 39) (.tmp 41)⟩, []),
  (⟨none, none, .store 27 (.tmp 52) (.tmp 50)⟩, [])]
def p81_4_w {E fr h Q} := @planW_unf E fr h Q _ _ p81_4.eq_1
def s81_5 : GC := .plan p81_4
def s81_5_w {E nt rd fr h Q} := @wp_unf E nt rd fr h Q _ _ s81_5.eq_1
def s81_6 : GC := .seq (.block 3 s81_5) s81_3
def s81_6_w {E nt rd fr h Q} := @wp_unf E nt rd fr h Q _ _ s81_6.eq_1
def s81_7 : GC := .cond (.tmp 34) .skip (.exit 2)
def s81_7_w {E nt rd fr h Q} := @wp_unf E nt rd fr h Q _ _ s81_7.eq_1
def p81_8 : List (GO × List GO) := [(⟨none, some 18, .move (.tmp 9)⟩, []),
  (⟨none, some 19, .move (.tmp 1)⟩, []),
  (⟨none, some 20, .binOp .gtr 3 (.tmp 18) (.tmp 19) 3⟩, []),
  (⟨none, some 21, .move (.tmp 20)⟩, []),
  (⟨some (21, true), some 22, .move (.tmp 3)⟩, []),
  (⟨some (21, true), some 23, .move (.tmp 0)⟩, []),
  (⟨some (21, true), some 24, .move (.tmp 9)⟩, []),
  (⟨some (21, true), some 25, .indexAddr 25 (.tmp 23) (.tmp 24)⟩, []),
  (⟨some (21, true), some 26, .load 27 (.tmp 25)⟩, []),
  (⟨some (21, true), some 27, .move (.tmp 0)⟩, []),
  (⟨some (21, true), some 28, .move (.tmp 9)⟩, []),
  (⟨some (21, true), some 29, .binOp .sub 3 (.tmp 28) (.const (.int .i64 1)) 3⟩, []),
  (⟨some (21, true), some 30, .indexAddr 25 (.tmp 27) (.tmp 29)⟩, []),
  (⟨some (21, true), some 31, .load 27 (.tmp 30)⟩, []),
  (⟨some (21, true), some 32, .call ⟨.value (.tmp 22), ⟨[.tmp 26, .tmp 31]⟩, ⟨[27, 27]⟩⟩⟩, []),
  (⟨some (21, true), some 33, .binOp .lss 3 (.tmp 32) (.const (.int .i64 0)) 3⟩, []),
  (⟨none, some 34, .pick (.tmp 21) (.tmp 33) (.const (.bool false))⟩, [])]
def p81_8_w {E fr h Q} := @planW_unf E fr h Q _ _ p81_8.eq_1
def s81_9 : GC := .seq (.plan p81_8) s81_7
def s81_9_w {E nt rd fr h Q} := @wp_unf E nt rd fr h Q _ _ s81_9.eq_1
def s81_10 : GC := .seq (s81_9) s81_6
def s81_10_w {E nt rd fr h Q} := @wp_unf E nt rd fr h Q _ _ s81_10.eq_1
def s81_11 : GC := .loop s81_10
def s81_11_w {E nt rd fr h Q} := @wp_unf E nt rd fr h Q _ _ s81_11.eq_1
def s81_12 : GC := .block 2 s81_11
def s81_12_w {E nt rd fr h Q} := @wp_unf E nt rd fr h Q _ _ s81_12.eq_1
def r81_13 : List GO := [⟨none, some 17, .move (.tmp 8)⟩,
  ⟨none, some 9, .assign (.tmp 17)⟩]
def r81_13_w {E fr h Q} := @opsW_unf E fr h Q _ _ r81_13.eq_1
def s81_14 : GC := .seq (.ops r81_13) s81_12
def s81_14_w {E nt rd fr h Q} := @wp_unf E nt rd fr h Q _ _ s81_14.eq_1
def s81_15 : GC := .seq (.block 1 s81_14) s81_1
def s81_15_w {E nt rd fr h Q} := @wp_unf E nt rd fr h Q _ _ s81_15.eq_1
def s81_16 : GC := .cond (.tmp 14) .skip (.exit 0)
def s81_16_w {E nt rd fr h Q} := @wp_unf E nt rd fr h Q _ _ s81_16.eq_1
def r81_17 : List GO := [⟨none, some 12, .move (.tmp 8)⟩,
  ⟨none, some 13, .move (.tmp 2)⟩,
  ⟨none, some 14, .binOp .lss 3 (.tmp 12) (.tmp 13) 3⟩]
def r81_17_w {E fr h Q} := @opsW_unf E fr h Q _ _ r81_17.eq_1
def s81_18 : GC := .seq (.ops r81_17) s81_16
def s81_18_w {E nt rd fr h Q} := @wp_unf E nt rd fr h Q _ _ s81_18.eq_1
def s81_19 : GC := .seq (s81_18) s81_15
def s81_19_w {E nt rd fr h Q} := @wp_unf E nt rd fr h Q _ _ s81_19.eq_1
def s81_20 : GC := .loop s81_19
def s81_20_w {E nt rd fr h Q} := @wp_unf E nt rd fr h Q _ _ s81_20.eq_1
def s81_21 : GC := .block 0 s81_20
def s81_21_w {E nt rd fr h Q} := @wp_unf E nt rd fr h Q _ _ s81_21.eq_1
def r81_22 : List GO := [⟨none, some 10, .move (.tmp 1)⟩,
  ⟨none, some 11, .binOp .add 3 (.tmp 10) (.const (.int .i64 1)) 3⟩,
  ⟨none, some 8, .assign (.tmp 11)⟩]
def r81_22_w {E fr h Q} := @opsW_unf E fr h Q _ _ r81_22.eq_1
def s81_23 : GC := .seq (.ops r81_22) s81_21
def s81_23_w {E nt rd fr h Q} := @wp_unf E nt rd fr h Q _ _ s81_23.eq_1
theorem c81 : Tryd.f81.body.bind (clean env 53) = some s81_23 := by kernel_rfl
theorem e81 : env.funs.get 81 = some Tryd.f81 := by kernel_rfl
theorem F81 {args : List Value} {h : Heap} {K : Value → Heap → Prop} (hl : args.length = 4) (w : s81_23.wp env 53 none (setAll args 0 .leaf) h (resK env [] K)) : Ret env (.func 81) args h K :=
  Ret.of_body' rfl e81 c81 rfl rfl (by rw [hl]; decide) w
/-! slices.symMergeCmpFunc[float64] -/
def r82_0 : List GO := [⟨none, some 214, .move (.tmp 0)⟩,
  ⟨none, some 215, .move (.tmp 18)⟩,
  ⟨none, some 216, .move (.tmp 24)⟩,
  ⟨none, some 217, .move (.tmp 3)⟩,
  ⟨none, some 218, .move (.tmp 4)⟩,
  ⟨none, some 219, .call ⟨.value (.func 82), ⟨[.tmp 214, .tmp 215, .tmp 216, .tmp 217, .tmp 218]⟩, ⟨[25, 3, 3, 3, 63]⟩⟩⟩]
def r82_0_w {E fr h Q} := @opsW_unf E fr h Q _ _ r82_0.eq_1
def s82_1 : GC := .ops r82_0
def s82_1_w {E nt rd fr h Q} := @wp_unf E nt rd fr h Q _ _ s82_1.eq_1
def s82_2 : GC := .cond (.tmp 213) s82_1 .skip
def s82_2_w {E nt rd fr h Q} := @wp_unf E nt rd fr h Q _ _ s82_2.eq_1
def r82_3 : List GO := [⟨none, some 206, .move (.tmp 18)⟩,
  ⟨none, some 207, .move (.tmp 24)⟩,
  ⟨none, some 208, .binOp .lss 3 (.tmp 206) (.tmp 207) 3⟩,
  ⟨none, some 209, .move (.tmp 208)⟩,
  ⟨some (209, true), some 210, .move (.tmp 24)⟩,
  ⟨some (209, true), some 211, .move (.tmp 3)⟩,
  ⟨some (209, true), some 212, .binOp .lss 3 (.tmp 210) (.tmp 211) 3⟩,
  ⟨none, some 213, .pick (.tmp 209) (.tmp 212) (.const (.bool false))⟩]
def r82_3_w {E fr h Q} := @opsW_unf E fr h Q _ _ r82_3.eq_1
def s82_4 : GC := .seq (.ops r82_3) s82_2
def s82_4_w {E nt rd fr h Q} := @wp_unf E nt rd fr h Q _ _ s82_4.eq_1
def r82_5 : List GO := [⟨none, some 200, .move (.tmp 0)⟩,
  ⟨none, some 201, .move (.tmp 1)⟩,
  ⟨none, some 202, .move (.tmp 20)⟩,
  ⟨none, some 203, .move (.tmp 18)⟩,
  ⟨none, some 204, .move (.tmp 4)⟩,
  ⟨none, some 205, .call ⟨.value (.func 82), ⟨[.tmp 200, .tmp 201, .tmp 202, .tmp 203, .tmp 204]⟩, ⟨[25, 3, 3, 3, 63]⟩⟩⟩]
def r82_5_w {E fr h Q} := @opsW_unf E fr h Q _ _ r82_5.eq_1
def s82_6 : GC := .ops r82_5
def s82_6_w {E nt rd fr h Q} := @wp_unf E nt rd fr h Q _ _ s82_6.eq_1
def s82_7 : GC := .cond (.tmp 199) s82_6 .skip
def s82_7_w {E nt rd fr h Q} := @wp_unf E nt rd fr h Q _ _ s82_7.eq_1
def r82_8 : List GO := [⟨none, some 192, .move (.tmp 1)⟩,
  ⟨none, some 193, .move (.tmp 20)⟩,
  ⟨none, some 194, .binOp .lss 3 (.tmp 192) (.tmp 193) 3⟩,
  ⟨none, some 195, .move (.tmp 194)⟩,
  ⟨some (195, true), some 196, .move (.tmp 20)⟩,
  ⟨some (195, true), some 197, .move (.tmp 18)⟩,
  ⟨some (195, true), some 198, .binOp .lss 3 (.tmp 196) (.tmp 197) 3⟩,
  ⟨none, some 199, .pick (.tmp 195) (.tmp 198) (.const (.bool false))⟩]
def r82_8_w {E fr h Q} := @opsW_unf E fr h Q _ _ r82_8.eq_1
def s82_9 : GC := .seq (.ops r82_8) s82_7
def s82_9_w {E nt rd fr h Q} := @wp_unf E nt rd fr h Q _ _ s82_9.eq_1
def s82_10 : GC := .seq (s82_9) s82_4
def s82_10_w {E nt rd fr h Q} := @wp_unf E nt rd fr h Q _ _ s82_10.eq_1
def r82_11 : List GO := [⟨none, some 186, .move (.tmp 0)⟩,
  ⟨none, some 187, .move (.tmp 20)⟩,
  ⟨none, some 188, .move (.tmp 2)⟩,
  ⟨none, some 189, .move (.tmp 24)⟩,
  ⟨none, some 190, .move (.tmp 4)⟩,
  ⟨none, some 191, .call ⟨.value (.func 101), ⟨[.tmp 186, .tmp 187, .tmp 188, .tmp 189, .tmp 190]⟩, ⟨[25, 3, 3, 3, 63]⟩⟩⟩]
def r82_11_w {E fr h Q} := @opsW_unf E fr h Q _ _ r82_11.eq_1
def s82_12 : GC := .ops r82_11
def s82_12_w {E nt rd fr h Q} := @wp_unf E nt rd fr h Q _ _ s82_12.eq_1
def s82_13 : GC := .cond (.tmp 185) s82_12 .skip
def s82_13_w {E nt rd fr h Q} := @wp_unf E nt rd fr h Q _ _ s82_13.eq_1
def r82_14 : List GO := [⟨none, some 178, .move (.tmp 20)⟩,
  ⟨none, some 179, .move (.tmp 2)⟩,
  ⟨none, some 180, .binOp .lss 3 (.tmp 178) (.tmp 179) 3⟩,
  ⟨none, some 181, .move (.tmp 180)⟩,
  ⟨some (181, true), some 182, .move (.tmp 2)⟩,
  ⟨some (181, true), some 183, .move (.tmp 24)⟩,
  ⟨some (181, true), some 184, .binOp .lss 3 (.tmp 182) (.tmp 183) 3⟩,
  ⟨none, some 185, .pick (.tmp 181) (.tmp 184) (.const (.bool false))⟩]
def r82_14_w {E fr h Q} := @opsW_unf E fr h Q _ _ r82_14.eq_1
def s82_15 : GC := .seq (.ops r82_14) s82_13
def s82_15_w {E nt rd fr h Q} := @wp_unf E nt rd fr h Q _ _ s82_15.eq_1
def s82_16 : GC := .seq (s82_15) s82_10
def s82_16_w {E nt rd fr h Q} := @wp_unf E nt rd fr h Q _ _ s82_16.eq_1
def r82_17 : List GO := [⟨none, some 175, .move (.tmp 19)⟩,
  ⟨none, some 176, .move (.tmp 20)⟩,
  ⟨none, some 177, .binOp .sub 3 (.tmp 175) (.tmp 176) 3⟩,
  ⟨none, some 24, .assign (.tmp 177)⟩]
def r82_17_w {E fr h Q} := @opsW_unf E fr h Q _ _ r82_17.eq_1
def s82_18 : GC := .seq (.ops r82_17) s82_16
def s82_18_w {E nt rd fr h Q} := @wp_unf E nt rd fr h Q _ _ s82_18.eq_1
def r82_19 : List GO := [⟨none, some 172, .move (.tmp 23)⟩,
  ⟨none, some 173, .binOp .add 3 (.tmp 172) (.const (.int .i64 1)) 3⟩,
  ⟨none, some 20, .assign (.tmp 173)⟩]
def r82_19_w {E fr h Q} := @opsW_unf E fr h Q _ _ r82_19.eq_1
def s82_20 : GC := .ops r82_19
def s82_20_w {E nt rd fr h Q} := @wp_unf E nt rd fr h Q _ _ s82_20.eq_1
def r82_21 : List GO := [⟨none, some 174, .move (.tmp 23)⟩,
  ⟨none, some 21, .assign (.tmp 174)⟩]
def r82_21_w {E fr h Q} := @opsW_unf E fr h Q _ _ r82_21.eq_1
def s82_22 : GC := .ops r82_21
def s82_22_w {E nt rd fr h Q} := @wp_unf E nt rd fr h Q _ _ s82_22.eq_1
def s82_23 : GC := .cond (.tmp 171) s82_20 s82_22
def s82_23_w {E nt rd fr h Q} := @wp_unf E nt rd fr h Q _ _ s82_23.eq_1
def p82_24 : List (GO × List GO) := [(⟨none, some 158, .move (.tmp 4)⟩, []),
  (⟨none, some 159, .move (.tmp 0)⟩, []),
  (⟨none, some 160, .move (.tmp 22)⟩, []),
  (⟨none, some 161, .move (.tmp 23)⟩, []),
  (⟨none, some 162, .binOp .sub 3 (.tmp 160) (.tmp 161) 3⟩, []),
  (⟨none, some 163, .indexAddr 25 (.tmp 159) (.tmp 162)⟩, []),
  (⟨none, some 164, .load 27 (.tmp 163)⟩, []),
  (⟨none, some 165, .move (.tmp 0)⟩, []),
  (⟨none, some 166, .move (.tmp 23)⟩, []),
  (⟨none, some 167, .indexAddr 25 (.tmp 165) (.tmp 166)⟩, []),
  (⟨none, some 168, .load 27 (.tmp 167)⟩, []),
  (⟨none, some 169, .call ⟨.value (.tmp 158), ⟨[.tmp 164, .tmp 168]⟩, ⟨[27, 27]⟩⟩⟩, []),
  (⟨none, some 170, .binOp .lss 3 (.tmp 169) (.const (.int .i64 0)) 3⟩, []),
  (⟨none, some 171, .unOp .not 4 (.tmp 170)⟩, [])]
def p82_24_w {E fr h Q} := @planW_unf E fr h Q _ _ p82_24.eq_1
def s82_25 : GC := .seq (.plan p82_24) s82_23
def s82_25_w {E nt rd fr h Q} := @wp_unf E nt rd fr h Q _ _ s82_25.eq_1
def r82_26 : List GO := [⟨none, some 152, .move (.tmp 20)⟩,
  ⟨none, some 153, .move (.tmp 21)⟩,
  ⟨none, some 154, .binOp .add 3 (.tmp 152) (.tmp 153) 3⟩,
  ⟨none, some 155, .convert 3 69 (.tmp 154)⟩,
  ⟨none, some 156, .binOp .shr 69 (.tmp 155) (.const (.int .u64 1)) 69⟩,
  ⟨none, some 157, .convert 69 3 (.tmp 156)⟩,
  ⟨none, some 23, .assign (.tmp 157)⟩]
def r82_26_w {E fr h Q} := @opsW_unf E fr h Q _ _ r82_26.eq_1
def s82_27 : GC := .seq (.ops r82_26) s82_25
def s82_27_w {E nt rd fr h Q} := @wp_unf E nt rd fr h Q _ _ s82_27.eq_1
def s82_28 : GC := .block 9 s82_27
def s82_28_w {E nt rd fr h Q} := @wp_unf E nt rd fr h Q _ _ s82_28.eq_1
def s82_29 : GC := .cond (.tmp 151) .skip (.exit 8)
def s82_29_w {E nt rd fr h Q} := @wp_unf E nt rd fr h Q _ _ s82_29.eq_1
def r82_30 : List GO := [⟨none, some 149, .move (.tmp 20)⟩,
  ⟨none, some 150, .move (.tmp 21)⟩,
  ⟨none, some 151, .binOp .lss 3 (.tmp 149) (.tmp 150) 3⟩]
def r82_30_w {E fr h Q} := @opsW_unf E fr h Q _ _ r82_30.eq_1
def s82_31 : GC := .seq (.ops r82_30) s82_29
def s82_31_w {E nt rd fr h Q} := @wp_unf E nt rd fr h Q _ _ s82_31.eq_1
def s82_32 : GC := .seq (s82_31) s82_28
def s82_32_w {E nt rd fr h Q} := @wp_unf E nt rd fr h Q _ _ s82_32.eq_1
def s82_33 : GC := .loop s82_32
def s82_33_w {E nt rd fr h Q} := @wp_unf E nt rd fr h Q _ _ s82_33.eq_1
def s82_34 : GC := .seq (.block 8 s82_33) s82_18
def s82_34_w {E nt rd fr h Q} := @wp_unf E nt rd fr h Q _ _ s82_34.eq_1
def r82_35 : List GO := [⟨none, some 147, .move (.tmp 19)⟩,
  ⟨none, some 148, .binOp .sub 3 (.tmp 147) (.const (.int .i64 1)) 3⟩,
  ⟨none, some 22, .assign (.tmp 148)⟩]
def r82_35_w {E fr h Q} := @opsW_unf E fr h Q _ _ r82_35.eq_1
def s82_36 : GC := .seq (.ops r82_35) s82_34
def s82_36_w {E nt rd fr h Q} := @wp_unf E nt rd fr h Q _ _ s82_36.eq_1
def r82_37 : List GO := [⟨none, some 144, .move (.tmp 18)⟩,
  ⟨none, some 21, .assign (.tmp 144)⟩]
def r82_37_w {E fr h Q} := @opsW_unf E fr h Q _ _ r82_37.eq_1
def s82_38 : GC := .ops r82_37
def s82_38_w {E nt rd fr h Q} := @wp_unf E nt rd fr h Q _ _ s82_38.eq_1
def r82_39 : List GO := [⟨none, some 141, .move (.tmp 19)⟩,
  ⟨none, some 142, .move (.tmp 3)⟩,
  ⟨none, some 143, .binOp .sub 3 (.tmp 141) (.tmp 142) 3⟩,
  ⟨none, some 20, .assign (.tmp 143)⟩]
def r82_39_w {E fr h Q} := @opsW_unf E fr h Q _ _ r82_39.eq_1
def s82_40 : GC := .seq (.ops r82_39) s82_38
def s82_40_w {E nt rd fr h Q} := @wp_unf E nt rd fr h Q _ _ s82_40.eq_1
def r82_41 : List GO := [⟨none, some 146, .move (.tmp 2)⟩,
  ⟨none, some 21, .assign (.tmp 146)⟩]
def r82_41_w {E fr h Q} := @opsW_unf E fr h Q _ _ r82_41.eq_1
def s82_42 : GC := .ops r82_41
def s82_42_w {E nt rd fr h Q} := @wp_unf E nt rd fr h Q _ _ s82_42.eq_1
def r82_43 : List GO := [⟨none, some 145, .move (.tmp 1)⟩,
  ⟨none, some 20, .assign (.tmp 145)⟩]
def r82_43_w {E fr h Q} := @opsW_unf E fr h Q _ _ r82_43.eq_1
def s82_44 : GC := .seq (.ops r82_43) s82_42
def s82_44_w {E nt rd fr h Q} := @wp_unf E nt rd fr h Q _ _ s82_44.eq_1
def s82_45 : GC := .cond (.tmp 140) s82_40 s82_44
def s82_45_w {E nt rd fr h Q} := @wp_unf E nt rd fr h Q _ _ s82_45.eq_1
def r82_46 : List GO := [⟨none, some 138, .move (.tmp 2)⟩,
  ⟨none, some 139, .move (.tmp 18)⟩,
  ⟨none, some 140, .binOp .gtr 3 (.tmp 138) (.tmp 139) 3⟩]
def r82_46_w {E fr h Q} := @opsW_unf E fr h Q _ _ r82_46.eq_1
def s82_47 : GC := .seq (.ops r82_46) s82_45
def s82_47_w {E nt rd fr h Q} := @wp_unf E nt rd fr h Q _ _ s82_47.eq_1
def s82_48 : GC := .seq (s82_47) s82_36
def s82_48_w {E nt rd fr h Q} := @wp_unf E nt rd fr h Q _ _ s82_48.eq_1
def r82_49 : List GO := [⟨none, some 20, .assign (.const (.int .i64 0))⟩,
  ⟨none, some 21, .assign (.const (.int .i64 0))⟩]
def r82_49_w {E fr h Q} := @opsW_unf E fr h Q _ _ r82_49.eq_1
def s82_50 : GC := .seq (.ops r82_49) s82_48
def s82_50_w {E nt rd fr h Q} := @wp_unf E nt rd fr h Q _ _ s82_50.eq_1
def r82_51 : List GO := [⟨none, some 135, .move (.tmp 18)⟩,
  ⟨none, some 136, .move (.tmp 2)⟩,
  ⟨none, some 137, .binOp .add 3 (.tmp 135) (.tmp 136) 3⟩,
  ⟨none, some 19, .assign (.tmp 137)⟩]
def r82_51_w {E fr h Q} := @opsW_unf E fr h Q _ _ r82_51.eq_1
def s82_52 : GC := .seq (.ops r82_51) s82_50
def s82_52_w {E nt rd fr h Q} := @wp_unf E nt rd fr h Q _ _ s82_52.eq_1
def r82_53 : List GO := [⟨none, some 129, .move (.tmp 1)⟩,
  ⟨none, some 130, .move (.tmp 3)⟩,
  ⟨none, some 131, .binOp .add 3 (.tmp 129) (.tmp 130) 3⟩,
  ⟨none, some 132, .convert 3 69 (.tmp 131)⟩,
  ⟨none, some 133, .binOp .shr 69 (.tmp 132) (.const (.int .u64 1)) 69⟩,
  ⟨none, some 134, .convert 69 3 (.tmp 133)⟩,
  ⟨none, some 18, .assign (.tmp 134)⟩]
def r82_53_w {E fr h Q} := @opsW_unf E fr h Q _ _ r82_53.eq_1
def s82_54 : GC := .seq (.ops r82_53) s82_52
def s82_54_w {E nt rd fr h Q} := @wp_unf E nt rd fr h Q _ _ s82_54.eq_1
def r82_55 : List GO := [⟨none, some 111, .move (.tmp 17)⟩,
  ⟨none, some 112, .binOp .sub 3 (.tmp 111) (.const (.int .i64 1)) 3⟩,
  ⟨none, some 17, .assign (.tmp 112)⟩]
def r82_55_w {E fr h Q} := @opsW_unf E fr h Q _ _ r82_55.eq_1
def s82_56 : GC := .ops r82_55
def s82_56_w {E nt rd fr h Q} := @wp_unf E nt rd fr h Q _ _ s82_56.eq_1
def p82_57 : List (GO × List GO) := [(⟨none, some 113, .move (.tmp 0)⟩, []),
  (⟨none, some 114, .move (.tmp 17)⟩, []),
  (⟨none, some 115, .move (.tmp 0)⟩, []),
  (⟨none, some 116, .move (.tmp 17)⟩, []),
  (⟨none, some 117, .binOp .sub 3 (.tmp 116) (.const (.int .i64 1)) 3⟩, []),
  (⟨none, some 118, .move (.tmp 0)⟩, []),
  (⟨none, some 119, .move (.tmp 17)⟩, []),
  (⟨none, some 120, .binOp .sub 3 (.tmp 119) (.const (.int .i64 1)) 3⟩, []),
  (⟨none, some 121, .indexAddr 25 (.tmp 118) (.tmp 120)⟩, []),
  (⟨none, some 122, .load 27 (.tmp 121)⟩, []),
  (⟨none, some 123, .move (.tmp 0)⟩, []),
  (⟨none, some 124, .move (.tmp 17)⟩, []),
  (⟨none, some 125, .indexAddr 25 (.tmp 123) (.tmp 124)⟩, []),
  (⟨none, some 126, .load 27 (.tmp 125)⟩, []),
  (⟨none, some 127, .indexAddr 25 (.tmp 113) (.tmp 114)⟩, []),
  (⟨none, none, .store 27 (.tmp 127) (.tmp 122)⟩, []),
  (⟨none, some 128, .indexAddr 25 (.tmp 115) (.tmp 117)⟩, []),
  (⟨none, none, .store 27 (.tmp 128) (.tmp 126)⟩, [])]
def p82_57_w {E fr h Q} := @planW_unf E fr h Q _ _ p82_57.eq_1
def s82_58 : GC := .plan p82_57
def s82_58_w {E nt rd fr h Q} := @wp_unf E nt rd fr h Q _ _ s82_58.eq_1
def s82_59 : GC := .seq (.block 7 s82_58) s82_56
def s82_59_w {E nt rd fr h Q} := @wp_unf E nt rd fr h Q _ _ s82_59.eq_1
def s82_60 : GC := .cond (.tmp 110) .skip (.exit 6)
def s82_60_w {E nt rd fr h Q} := @wp_unf E nt rd fr h Q _ _ s82_60.eq_1
def r82_61 : List GO := [⟨none, some 108, .move (.tmp 17)⟩,
  ⟨none, some 109, .move (.tmp 14)⟩,
  ⟨none, some 110, .binOp .gtr 3 (.tmp 108) (.tmp 109) 3⟩]
def r82_61_w {E fr h Q} := @opsW_unf E fr h Q _ _ r82_61.eq_1
def s82_62 : GC := .seq (.ops r82_61) s82_60
def s82_62_w {E nt rd fr h Q} := @wp_unf E nt rd fr h Q _ _ s82_62.eq_1
def s82_63 : GC := .seq (s82_62) s82_59
def s82_63_w {E nt rd fr h Q} := @wp_unf E nt rd fr h Q _ _ s82_63.eq_1
def s82_64 : GC := .loop s82_63
def s82_64_w {E nt rd fr h Q} := @wp_unf E nt rd fr h Q _ _ s82_64.eq_1
def s82_65 : GC := .block 6 s82_64
def s82_65_w {E nt rd fr h Q} := @wp_unf E nt rd fr h Q _ _ s82_65.eq_1
def r82_66 : List GO := [⟨none, some 107, .move (.tmp 2)⟩,
  ⟨none, some 17, .assign (.tmp 107)⟩]
def r82_66_w {E fr h Q} := @opsW_unf E fr h Q _ _ r82_66.eq_1
def s82_67 : GC := .seq (.ops r82_66) s82_65
def s82_67_w {E nt rd fr h Q} := @wp_unf E nt rd fr h Q _ _ s82_67.eq_1
def s82_68 : GC := .seq (s82_67) .ret
def s82_68_w {E nt rd fr h Q} := @wp_unf E nt rd fr h Q _ _ s82_68.eq_1
def r82_69 : List GO := [⟨none, some 104, .move (.tmp 16)⟩,
  ⟨none, some 105, .binOp .add 3 (.tmp 104) (.const (.int .i64 1)) 3⟩,
  ⟨none, some 14, .assign (.tmp 105)⟩]
def r82_69_w {E fr h Q} := @opsW_unf E fr h Q _ _ r82_69.eq_1
def s82_70 : GC := .ops r82_69
def s82_70_w {E nt rd fr h Q} := @wp_unf E nt rd fr h Q _ _ s82_70.eq_1
def r82_71 : List GO := [⟨none, some 106, .move (.tmp 16)⟩,
  ⟨none, some 15, .assign (.tmp 106)⟩]
def r82_71_w {E fr h Q} := @opsW_unf E fr h Q _ _ r82_71.eq_1
def s82_72 : GC := .ops r82_71
def s82_72_w {E nt rd fr h Q} := @wp_unf E nt rd fr h Q _ _ s82_72.eq_1
def s82_73 : GC := .cond (.tmp 103) s82_70 s82_72
def s82_73_w {E nt rd fr h Q} := @wp_unf E nt rd fr h Q _ _ s82_73.eq_1
def p82_74 : List (GO × List GO) := [(⟨none, some 92, .move (.tmp 4)⟩, []),
  (⟨none, some 93, .move (.tmp 0)⟩, []),
  (⟨none, some 94, .move (.tmp 2)⟩, []),
  (⟨none, some 95, .indexAddr 25 (.tmp 93) (.tmp 94)⟩, []),
  (⟨none, some 96, .load 27 (.tmp 95)⟩, []),
  (⟨none, some 97, .move (.tmp 0)⟩, []),
  (⟨none, some 98, .move (.tmp 16)⟩, []),
  (⟨none, some 99, .indexAddr 25 (.tmp 97) (.tmp 98)⟩, []),
  (⟨none, some 100, .load 27 (.tmp 99)⟩, []),
  (⟨none, some 101, .call ⟨.value (.tmp 92), ⟨[.tmp 96, .tmp 100]⟩, ⟨[27, 27]⟩⟩⟩, []),
  (⟨none, some 102, .binOp .lss 3 (.tmp 101) (.const (.int .i64 0)) 3⟩, []),
  (⟨none, some 103, .unOp .not 4 (.tmp 102)⟩, [])]
def p82_74_w {E fr h Q} := @planW_unf E fr h Q _ _ p82_74.eq_1
def s82_75 : GC := .seq (.plan p82_74) s82_73
def s82_75_w {E nt rd fr h Q} := @wp_unf E nt rd fr h Q _ _ s82_75.eq_1
def r82_76 : List GO := [⟨none, some 86, .move (.tmp 14)⟩,
  ⟨none, some 87, .move (.tmp 15)⟩,
  ⟨none, some 88, .binOp .add 3 (.tmp 86) (.tmp 87) 3⟩,
  ⟨none, some 89, .convert 3 69 (.tmp 88)⟩,
  ⟨none, some 90, .binOp .shr 69 (.tmp 89) (.const (.int .u64 1)) 69⟩,
  ⟨none, some 91, .convert 69 3 (.tmp 90)⟩,
  ⟨none, some 16, .assign (.tmp 91)⟩]
def r82_76_w {E fr h Q} := @opsW_unf E fr h Q _ _ r82_76.eq_1
def s82_77 : GC := .seq (.ops r82_76) s82_75
def s82_77_w {E nt rd fr h Q} := @wp_unf E nt rd fr h Q _ _ s82_77.eq_1
def s82_78 : GC := .block 5 s82_77
def s82_78_w {E nt rd fr h Q} := @wp_unf E nt rd fr h Q _ _ s82_78.eq_1
def s82_79 : GC := .cond (.tmp 85) .skip (.exit 4)
def s82_79_w {E nt rd fr h Q} := @wp_unf E nt rd fr h Q _ _ s82_79.eq_1
def r82_80 : List GO := [⟨none, some 83, .move (.tmp 14)⟩,
  ⟨none, some 84, .move (.tmp 15)⟩,
  ⟨none, some 85, .binOp .lss 3 (.tmp 83) (.tmp 84) 3⟩]
def r82_80_w {E fr h Q} := @opsW_unf E fr h Q _ _ r82_80.eq_1
def s82_81 : GC := .seq (.ops r82_80) s82_79
def s82_81_w {E nt rd fr h Q} := @wp_unf E nt rd fr h Q _ _ s82_81.eq_1
def s82_82 : GC := .seq (s82_81) s82_78
def s82_82_w {E nt rd fr h Q} := @wp_unf E nt rd fr h Q _ _ s82_82.eq_1
def s82_83 : GC := .loop s82_82
def s82_83_w {E nt rd fr h Q} := @wp_unf E nt rd fr h Q _ _ s82_83.eq_1
def s82_84 : GC := .seq (.block 4 s82_83) s82_68
def s82_84_w {E nt rd fr h Q} := @wp_unf E nt rd fr h Q _ _ s82_84.eq_1
def r82_85 : List GO := [⟨none, some 82, .move (.tmp 2)⟩,
  ⟨none, some 15, .assign (.tmp 82)⟩]
def r82_85_w {E fr h Q} := @opsW_unf E fr h Q _ _ r82_85.eq_1
def s82_86 : GC := .seq (.ops r82_85) s82_84
def s82_86_w {E nt rd fr h Q} := @wp_unf E nt rd fr h Q _ _ s82_86.eq_1
def r82_87 : List GO := [⟨none, some 81, .move (.tmp 1)⟩,
  ⟨none, some 14, .assign (.tmp 81)⟩]
def r82_87_w {E fr h Q} := @opsW_unf E fr h Q _ _ r82_87.eq_1
def s82_88 : GC := .seq (.ops r82_87) s82_86
def s82_88_w {E nt rd fr h Q} := @wp_unf E nt rd fr h Q _ _ s82_88.eq_1
def s82_89 : GC := .cond (.tmp 80) s82_88 .skip
def s82_89_w {E nt rd fr h Q} := @wp_unf E nt rd fr h Q _ _ s82_89.eq_1
def r82_90 : List GO := [⟨none, some 77, .move (.tmp 3)⟩,
  ⟨none, some 78, .move (.tmp 2)⟩,
  ⟨none, some 79, .binOp .sub 3 (.tmp 77) (.tmp 78) 3⟩,
  ⟨none, some 80, .binOp .eql 3 (.tmp 79) (.const (.int .i64 1)) 3⟩]
def r82_90_w {E fr h Q} := @opsW_unf E fr h Q _ _ r82_90.eq_1
def s82_91 : GC := .seq (.ops r82_90) s82_89
def s82_91_w {E nt rd fr h Q} := @wp_unf E nt rd fr h Q _ _ s82_91.eq_1
def s82_92 : GC := .seq (s82_91) s82_54
def s82_92_w {E nt rd fr h Q} := @wp_unf E nt rd fr h Q _ _ s82_92.eq_1
def r82_93 : List GO := [⟨none, some 59, .move (.tmp 13)⟩,
  ⟨none, some 60, .binOp .add 3 (.tmp 59) (.const (.int .i64 1)) 3⟩,
  ⟨none, some 13, .assign (.tmp 60)⟩]
def r82_93_w {E fr h Q} := @opsW_unf E fr h Q _ _ r82_93.eq_1
def s82_94 : GC := .ops r82_93
def s82_94_w {E nt rd fr h Q} := @wp_unf E nt rd fr h Q _ _ s82_94.eq_1
def p82_95 : List (GO × List GO) := [(⟨none, some 61, .move (.tmp 0)⟩, []),
  (⟨none, some 62, .move (.tmp 13)⟩, []),
  (⟨none, some 63, .move (.tmp 0)⟩, []),
  (⟨none, some 64, .move (.tmp 13)⟩, []),
  (⟨none, some 65, .binOp .add 3 (.tmp 64) (.const (.int .i64 1)) 3⟩, []),
  (⟨none, some 66, .move (.tmp 0)⟩, []),
  (⟨none, some 67, .move (.tmp 13)⟩, []),
  (⟨none, some 68, .binOp .add 3 (.tmp 67) (.const (.int .i64 1)) 3⟩, []),
  (⟨none, some 69, .indexAddr 25 (.tmp 66) (.tmp 68)⟩, []),
  (⟨none, some 70, .load 27 (.tmp 69)⟩, []),
  (⟨none, some 71, .move (.tmp 0)⟩, []),
  (⟨none, some 72, .move (.tmp 13)⟩, []),
  (⟨none, some 73, .indexAddr 25 (.tmp 71) (.tmp 72)⟩, []),
  (⟨none, some 74, .load 27 (.tmp 73)⟩, []),
  (⟨none, some 75, .indexAddr 25 (.tmp 61) (.tmp 62)⟩, []),
  (⟨none, none, .store 27 (.tmp 75) (.tmp 70)⟩, []),
  (⟨none, some 76, .indexAddr 25 (.tmp 63) (.tmp 65)⟩, []),
  (⟨none, none, .store 27 (.tmp 76) (.tmp 74)⟩, [])]
def p82_95_w {E fr h Q} := @planW_unf E fr h Q _ _ p82_95.eq_1
def s82_96 : GC := .plan p82_95
def s82_96_w {E nt rd fr h Q} := @wp_unf E nt rd fr h Q _ _ s82_96.eq_1
def s82_97 : GC := .seq (.block 3 s82_96) s82_94
def s82_97_w {E nt rd fr h Q} := @wp_unf E nt rd fr h Q _ _ s82_97.eq_1
def s82_98 : GC := .cond (.tmp 58) .skip (.exit 2)
def s82_98_w {E nt rd fr h Q} := @wp_unf E nt rd fr h Q _ _ s82_98.eq_1
def r82_99 : List GO := [⟨none, some 55, .move (.tmp 13)⟩,
  ⟨none, some 56, .move (.tmp 10)⟩,
  ⟨none, some 57, .binOp .sub 3 (.tmp 56) (.const (.int .i64 1)) 3⟩,
  ⟨none, some 58, .binOp .lss 3 (.tmp 55) (.tmp 57) 3⟩]
def r82_99_w {E fr h Q} := @opsW_unf E fr h Q _ _ r82_99.eq_1
def s82_100 : GC := .seq (.ops r82_99) s82_98
def s82_100_w {E nt rd fr h Q} := @wp_unf E nt rd fr h Q _ _ s82_100.eq_1
def s82_101 : GC := .seq (s82_100) s82_97
def s82_101_w {E nt rd fr h Q} := @wp_unf E nt rd fr h Q _ _ s82_101.eq_1
def s82_102 : GC := .loop s82_101
def s82_102_w {E nt rd fr h Q} := @wp_unf E nt rd fr h Q _ _ s82_102.eq_1
def s82_103 : GC := .block 2 s82_102
def s82_103_w {E nt rd fr h Q} := @wp_unf E nt rd fr h Q _ _ s82_103.eq_1
def r82_104 : List GO := [⟨none, some 54, .move (.tmp 1)⟩,
  ⟨none, some 13, .assign (.tmp 54)⟩]
def r82_104_w {E fr h Q} := @opsW_unf E fr h Q _ _ r82_104.eq_1
def s82_105 : GC := .seq (.ops r82_104) s82_103
def s82_105_w {E nt rd fr h Q} := @wp_unf E nt rd fr h Q _ _ s82_105.eq_1
def s82_106 : GC := .seq (s82_105) .ret
def s82_106_w {E nt rd fr h Q} := @wp_unf E nt rd fr h Q _ _ s82_106.eq_1
def r82_107 : List GO := [⟨none, some 51, .move (.tmp 12)⟩,
  ⟨none, some 52, .binOp .add 3 (.tmp 51) (.const (.int .i64 1)) 3⟩,
  ⟨none, some 10, .assign (.tmp 52)⟩]
def r82_107_w {E fr h Q} := @opsW_unf E fr h Q _ _ r82_107.eq_1
def s82_108 : GC := .ops r82_107
def s82_108_w {E nt rd fr h Q} := @wp_unf E nt rd fr h Q _ _ s82_108.eq_1
def r82_109 : List GO := [⟨none, some 53, .move (.tmp 12)⟩,
  ⟨none, some 11, .assign (.tmp 53)⟩]
def r82_109_w {E fr h Q} := @opsW_unf E fr h Q _ _ r82_109.eq_1
def s82_110 : GC := .ops r82_109
def s82_110_w {E nt rd fr h Q} := @wp_unf E nt rd fr h Q _ _ s82_110.eq_1
def s82_111 : GC := .cond (.tmp 50) s82_108 s82_110
def s82_111_w {E nt rd fr h Q} := @wp_unf E nt rd fr h Q _ _ s82_111.eq_1
def p82_112 : List (GO × List GO) := [(⟨none, some 40, .move (.tmp 4)⟩, []),
  (⟨none, some 41, .move (.tmp 0)⟩, []),
  (⟨none, some 42, .move (.tmp 12)⟩, []),
  (⟨none, some 43, .indexAddr 25 (.tmp 41) (.tmp 42)⟩, []),
  (⟨none, some 44, .load 27 (.tmp 43)⟩, []),
  (⟨none, some 45, .move (.tmp 0)⟩, []),
  (⟨none, some 46, .move (.tmp 1)⟩, []),
  (⟨none, some 47, .indexAddr 25 (.tmp 45) (.tmp 46)⟩, []),
  (⟨none, some 48, .load 27 (.tmp 47)⟩, []),
  (⟨none, some 49, .call ⟨.value (.tmp 40), ⟨[.tmp 44, .tmp 48]⟩, ⟨[27, 27]⟩⟩⟩, []),
  (⟨none, some 50, .binOp .lss 3 (.tmp 49) (.const (.int .i64 0)) 3⟩, [])]
def p82_112_w {E fr h Q} := @planW_unf E fr h Q _ _ p82_112.eq_1
def s82_113 : GC := .seq (.plan p82_112) s82_111
def s82_113_w {E nt rd fr h Q} := @wp_unf E nt rd fr h Q _ _ s82_113.eq_1
def r82_114 : List GO := [⟨none, some 34, .move (.tmp 10)⟩,
  ⟨none, some 35, .move (.tmp 11)⟩,
  ⟨none, some 36, .binOp .add 3 (.tmp 34) (.tmp 35) 3⟩,
  ⟨none, some 37, .convert 3 69 (.tmp 36)⟩,
  ⟨none, some 38, .binOp .shr 69 (.tmp 37) (.const (.int .u64 1)) 69⟩,
  ⟨none, some 39, .convert 69 3 (.tmp 38)⟩,
  ⟨none, some 12, .assign (.tmp 39)⟩]
def r82_114_w {E fr h Q} := @opsW_unf E fr h Q _ _ r82_114.eq_1
def s82_115 : GC := .seq (.ops r82_114) s82_113
def s82_115_w {E nt rd fr h Q} := @wp_unf E nt rd fr h Q _ _ s82_115.eq_1
def s82_116 : GC := .block 1 s82_115
def s82_116_w {E nt rd fr h Q} := @wp_unf E nt rd fr h Q _ _ s82_116.eq_1
def s82_117 : GC := .cond (.tmp 33) .skip (.exit 0)
def s82_117_w {E nt rd fr h Q} := @wp_unf E nt rd fr h Q _ _ s82_117.eq_1
def r82_118 : List GO := [⟨none, some 31, .move (.tmp 10)⟩,
  ⟨none, some 32, .move (.tmp 11)⟩,
  ⟨none, some 33, .binOp .lss 3 (.tmp 31) (.tmp 32) 3⟩]
def r82_118_w {E fr h Q} := @opsW_unf E fr h Q _ _ r82_118.eq_1
def s82_119 : GC := .seq (.ops r82_118) s82_117
def s82_119_w {E nt rd fr h Q} := @wp_unf E nt rd fr h Q _ _ s82_119.eq_1
def s82_120 : GC := .seq (s82_119) s82_116
def s82_120_w {E nt rd fr h Q} := @wp_unf E nt rd fr h Q _ _ s82_120.eq_1
def s82_121 : GC := .loop s82_120
def s82_121_w {E nt rd fr h Q} := @wp_unf E nt rd fr h Q _ _ s82_121.eq_1
def s82_122 : GC := .seq (.block 0 s82_121) s82_106
def s82_122_w {E nt rd fr h Q} := @wp_unf E nt rd fr h Q _ _ s82_122.eq_1
def r82_123 : List GO := [⟨none, some 30, .move (.tmp 3)⟩,
  ⟨none, some 11, .assign (.tmp 30)⟩]
def r82_123_w {E fr h Q} := @opsW_unf E fr h Q _ _ r82_123.eq_1
def s82_124 : GC := .seq (.ops r82_123) s82_122
def s82_124_w {E nt rd fr h Q} := @wp_unf E nt rd fr h Q _ _ s82_124.eq_1
def r82_125 : List GO := [⟨none, some 29, .move (.tmp 2)⟩,
  ⟨none, some 10, .assign (.tmp 29)⟩]
def r82_125_w {E fr h Q} := @opsW_unf E fr h Q _ _ r82_125.eq_1
def s82_126 : GC := .seq (.ops r82_125) s82_124
def s82_126_w {E nt rd fr h Q} := @wp_unf E nt rd fr h Q _ _ s82_126.eq_1
def s82_127 : GC := .cond (.tmp 28) s82_126 .skip
def s82_127_w {E nt rd fr h Q} := @wp_unf E nt rd fr h Q _ _ s82_127.eq_1
def r82_128 : List GO := [⟨none, some 25, .move (.tmp 2)⟩,
  ⟨none, some 26, .move (.tmp 1)⟩,
  ⟨none, some 27, .binOp .sub 3 (.tmp 25) (.tmp 26) 3⟩,
  ⟨none, some 28, .binOp .eql 3 (.tmp 27) (.const (.int .i64 1)) 3⟩]
def r82_128_w {E fr h Q} := @opsW_unf E fr h Q _ _ r82_128.eq_1
def s82_129 : GC := .seq (.ops r82_128) s82_127
def s82_129_w {E nt rd fr h Q} := @wp_unf E nt rd fr h Q _ _ s82_129.eq_1
def s82_130 : GC := .seq (s82_129) s82_92
def s82_130_w {E nt rd fr h Q} := @wp_unf E nt rd fr h Q _ _ s82_130.eq_1
theorem c82 : Tryd.f82.body.bind (clean env 220) = some s82_130 := by kernel_rfl
theorem e82 : env.funs.get 82 = some Tryd.f82 := by kernel_rfl
theorem F82 {args : List Value} {h : Heap} {K : Value → Heap → Prop} (hl : args.length = 5) (w : s82_130.wp env 220 none (setAll args 0 .leaf) h (resK env [] K)) : Ret env (.func 82) args h K :=
  Ret.of_body' rfl e82 c82 rfl rfl (by rw [hl]; decide) w
/-! slices.rotateCmpFunc[float64] -/
def r101_0 : List GO := [⟨none, some 50, .move (.tmp 0)⟩,
  ⟨none, some 51, .move (.tmp 2)⟩,
  ⟨none, some 52, .move (.tmp 10)⟩,
  ⟨none, some 53, .binOp .sub 3 (.tmp 51) (.tmp 52) 3⟩,
  ⟨none, some 54, .move (.tmp 2)⟩,
  ⟨none, some 55, .move (.tmp 10)⟩,
  ⟨none, some 56, .move (.tmp 4)⟩,
  ⟨none, some 57, .call ⟨.value (.func 115), ⟨[.tmp 50, .tmp 53, .tmp 54, .tmp 55, .tmp 56]⟩, ⟨[25, 3, 3, 3, 63]⟩⟩⟩]
def r101_0_w {E fr h Q} := @opsW_unf E fr h Q _ _ r101_0.eq_1
def s101_1 : GC := .ops r101_0
def s101_1_w {E nt rd fr h Q} := @wp_unf E nt rd fr h Q _ _ s101_1.eq_1
def r101_2 : List GO := [⟨none, some 32, .move (.tmp 10)⟩,
  ⟨none, some 33, .move (.tmp 11)⟩,
  ⟨none, some 34, .binOp .sub 3 (.tmp 32) (.tmp 33) 3⟩,
  ⟨none, some 10, .assign (.tmp 34)⟩]
def r101_2_w {E fr h Q} := @opsW_unf E fr h Q _ _ r101_2.eq_1
def s101_3 : GC := .ops r101_2
def s101_3_w {E nt rd fr h Q} := @wp_unf E nt rd fr h Q _ _ s101_3.eq_1
def r101_4 : List GO := [⟨none, some 24, .move (.tmp 0)⟩,
  ⟨none, some 25, .move (.tmp 2)⟩,
  ⟨none, some 26, .move (.tmp 10)⟩,
  ⟨none, some 27, .binOp .sub 3 (.tmp 25) (.tmp 26) 3⟩,
  ⟨none, some 28, .move (.tmp 2)⟩,
  ⟨none, some 29, .move (.tmp 11)⟩,
  ⟨none, some 30, .move (.tmp 4)⟩,
  ⟨none, some 31, .call ⟨.value (.func 115), ⟨[.tmp 24, .tmp 27, .tmp 28, .tmp 29, .tmp 30]⟩, ⟨[25, 3, 3, 3, 63]⟩⟩⟩]
def r101_4_w {E fr h Q} := @opsW_unf E fr h Q _ _ r101_4.eq_1
def s101_5 : GC := .seq (.ops r101_4) s101_3
def s101_5_w {E nt rd fr h Q} := @wp_unf E nt rd fr h Q _ _ s101_5.eq_1
def r101_6 : List GO := [⟨none, some 47, .move (.tmp 11)⟩,
  ⟨none, some 48, .move (.tmp 10)⟩,
  ⟨none, some 49, .binOp .sub 3 (.tmp 47) (.tmp 48) 3⟩,
  ⟨none, some 11, .assign (.tmp 49)⟩]
def r101_6_w {E fr h Q} := @opsW_unf E fr h Q _ _ r101_6.eq_1
def s101_7 : GC := .ops r101_6
def s101_7_w {E nt rd fr h Q} := @wp_unf E nt rd fr h Q _ _ s101_7.eq_1
def r101_8 : List GO := [⟨none, some 35, .move (.tmp 0)⟩,
  ⟨none, some 36, .move (.tmp 2)⟩,
  ⟨none, some 37, .move (.tmp 10)⟩,
  ⟨none, some 38, .binOp .sub 3 (.tmp 36) (.tmp 37) 3⟩,
  ⟨none, some 39, .move (.tmp 2)⟩,
  ⟨none, some 40, .move (.tmp 11)⟩,
  ⟨none, some 41, .binOp .add 3 (.tmp 39) (.tmp 40) 3⟩,
  ⟨none, some 42, .move (.tmp 10)⟩,
  ⟨none, some 43, .binOp .sub 3 (.tmp 41) (.tmp 42) 3⟩,
  ⟨none, some 44, .move (.tmp 10)⟩,
  ⟨none, some 45, .move (.tmp 4)⟩,
  ⟨none, some 46, .call ⟨.value (.func 115), ⟨[.tmp 35, .tmp 38, .tmp 43, .tmp 44, .tmp 45]⟩, ⟨[25, 3, 3, 3, 63]⟩⟩⟩]
def r101_8_w {E fr h Q} := @opsW_unf E fr h Q _ _ r101_8.eq_1
def s101_9 : GC := .seq (.ops r101_8) s101_7
def s101_9_w {E nt rd fr h Q} := @wp_unf E nt rd fr h Q _ _ s101_9.eq_1
def s101_10 : GC := .cond (.tmp 23) s101_5 s101_9
def s101_10_w {E nt rd fr h Q} := @wp_unf E nt rd fr h Q _ _ s101_10.eq_1
def r101_11 : List GO := [⟨none, some 21, .move (.tmp 10)⟩,
  ⟨none, some 22, .move (.tmp 11)⟩,
  ⟨none, some 23, .binOp .gtr 3 (.tmp 21) (.tmp 22) 3⟩]
def r101_11_w {E fr h Q} := @opsW_unf E fr h Q _ _ r101_11.eq_1
def s101_12 : GC := .seq (.ops r101_11) s101_10
def s101_12_w {E nt rd fr h Q} := @wp_unf E nt rd fr h Q _ _ s101_12.eq_1
def s101_13 : GC := .block 1 s101_12
def s101_13_w {E nt rd fr h Q} := @wp_unf E nt rd fr h Q _ _ s101_13.eq_1
def s101_14 : GC := .cond (.tmp 20) .skip (.exit 0)
def s101_14_w {E nt rd fr h Q} := @wp_unf E nt rd fr h Q _ _ s101_14.eq_1
def r101_15 : List GO := [⟨none, some 18, .move (.tmp 10)⟩,
  ⟨none, some 19, .move (.tmp 11)⟩,
  ⟨none, some 20, .binOp .neq 3 (.tmp 18) (.tmp 19) 3⟩]
def r101_15_w {E fr h Q} := @opsW_unf E fr h Q _ _ r101_15.eq_1
def s101_16 : GC := .seq (.ops r101_15) s101_14
def s101_16_w {E nt rd fr h Q} := @wp_unf E nt rd fr h Q _ _ s101_16.eq_1
def s101_17 : GC := .seq (s101_16) s101_13
def s101_17_w {E nt rd fr h Q} := @wp_unf E nt rd fr h Q _ _ s101_17.eq_1
def s101_18 : GC := .loop s101_17
def s101_18_w {E nt rd fr h Q} := @wp_unf E nt rd fr h Q _ _ s101_18.eq_1
def s101_19 : GC := .seq (.block 0 s101_18) s101_1
def s101_19_w {E nt rd fr h Q} := @wp_unf E nt rd fr h Q _ _ s101_19.eq_1
def r101_20 : List GO := [⟨none, some 15, .move (.tmp 3)⟩,
  ⟨none, some 16, .move (.tmp 2)⟩,
  ⟨none, some 17, .binOp .sub 3 (.tmp 15) (.tmp 16) 3⟩,
  ⟨none, some 11, .assign (.tmp 17)⟩]
def r101_20_w {E fr h Q} := @opsW_unf E fr h Q _ _ r101_20.eq_1
def s101_21 : GC := .seq (.ops r101_20) s101_19
def s101_21_w {E nt rd fr h Q} := @wp_unf E nt rd fr h Q _ _ s101_21.eq_1
def r101_22 : List GO := [⟨none, some 12, .move (.tmp 2)⟩,
  ⟨none, some 13, .move (.tmp 1)⟩,
  ⟨none, some 14, .binOp .sub 3 (.tmp 12) (.tmp 13) 3⟩,
  ⟨none, some 10, .assign (.tmp 14)⟩]
def r101_22_w {E fr h Q} := @opsW_unf E fr h Q _ _ r101_22.eq_1
def s101_23 : GC := .seq (.ops r101_22) s101_21
def s101_23_w {E nt rd fr h Q} := @wp_unf E nt rd fr h Q _ _ s101_23.eq_1
theorem c101 : Tryd.f101.body.bind (clean env 58) = some s101_23 := by kernel_rfl
theorem e101 : env.funs.get 101 = some Tryd.f101 := by kernel_rfl
theorem F101 {args : List Value} {h : Heap} {K : Value → Heap → Prop} (hl : args.length = 5) (w : s101_23.wp env 58 none (setAll args 0 .leaf) h (resK env [] K)) : Ret env (.func 101) args h K :=
  Ret.of_body' rfl e101 c101 rfl rfl (by rw [hl]; decide) w
/-! slices.swapRangeCmpFunc[float64] -/
def r115_0 : List GO := [⟨none, some 14, .move (.tmp 10)⟩,
  ⟨none, some 15, .binOp .add 3 (.tmp 14) (.const (.int .i64 1)) 3⟩,
  ⟨none, some 10, .assign (.tmp 15)⟩]
def r115_0_w {E fr h Q} := @opsW_unf E fr h Q _ _ r115_0.eq_1
def s115_1 : GC := .ops r115_0
def s115_1_w {E nt rd fr h Q} := @wp_unf E nt rd fr h Q _ _ s115_1.eq_1
def p115_2 : List (GO × List GO) := [(⟨none, some 16, .move (.tmp 0)⟩, []),
  (⟨none, some 17, .move (.tmp 1)⟩, []),
  (⟨none, some 18, .move (.tmp 10)⟩, []),
  (⟨none, some 19, .binOp .add 3 (.tmp 17) (.tmp 18) 3⟩, []),
  (⟨none, some 20, .move (.tmp 0)⟩, []),
  (⟨none, some 21, .move (.tmp 2)⟩, []),
  (⟨none, some 22, .move (.tmp 10)⟩, []),
  (⟨none, some 23, .binOp .add 3 (.tmp 21) (.tmp 22) 3⟩, []),
  (⟨none, some 24, .move (.tmp 0)⟩, []),
  (⟨none, some 25, .move (.tmp 2)⟩, []),
  (⟨none, some 26, .move (.tmp 10)⟩, []),
  (⟨none, some 27, .binOp .add 3 (.tmp 25) (.tmp 26) 3⟩, []),
  (⟨none, some 28, .indexAddr 25 (.tmp 24) (.tmp 27)⟩, []),
  (⟨none, some 29, .load 27 (.tmp 28)⟩, []),
  (⟨none, some 30, .move (.tmp 0)⟩, []),
  (⟨none, some 31, .move (.tmp 1)⟩, []),
  (⟨none, some 32, .move (.tmp 10)⟩, []),
  (⟨none, some 33, .binOp .add 3 (.tmp 31) (.tmp 32) 3⟩, []),
  (⟨none, some 34, .indexAddr 25 (.tmp 30) (.tmp 33)⟩, []),
  (⟨none, some 35, .load 27 (.tmp 34)⟩, []),
  (⟨none, some 36, .indexAddr 25 (.tmp 16) (.tmp 19)⟩, []),
  (⟨none, none, .store 27 (.tmp 36) (.tmp 29)⟩, []),
  (⟨none, some 37, .indexAddr 25 (.tmp 20) (.tmp 23)⟩, []),
  (⟨none, none, .store 27 (.tmp 37) (.tmp 35)⟩, [])]
def p115_2_w {E fr h Q} := @planW_unf E fr h Q _ _ p115_2.eq_1
def s115_3 : GC := .plan p115_2
def s115_3_w {E nt rd fr h Q} := @wp_unf E nt rd fr h Q _ _ s115_3.eq_1
def s115_4 : GC := .seq (.block 1 s115_3) s115_1
def s115_4_w {E nt rd fr h Q} := @wp_unf E nt rd fr h Q _ _ s115_4.eq_1
def s115_5 : GC := .cond (.tmp 13) .skip (.exit 0)
def s115_5_w {E nt rd fr h Q} := @wp_unf E nt rd fr h Q _ _ s115_5.eq_1
def r115_6 : List GO := [⟨none, some 11, .move (.tmp 10)⟩,
  ⟨none, some 12, .move (.tmp 3)⟩,
  ⟨none, some 13, .binOp .lss 3 (.tmp 11) (.tmp 12) 3⟩]
def r115_6_w {E fr h Q} := @opsW_unf E fr h Q _ _ r115_6.eq_1
def s115_7 : GC := .seq (.ops r115_6) s115_5
def s115_7_w {E nt rd fr h Q} := @wp_unf E nt rd fr h Q _ _ s115_7.eq_1
def s115_8 : GC := .seq (s115_7) s115_4
def s115_8_w {E nt rd fr h Q} := @wp_unf E nt rd fr h Q _ _ s115_8.eq_1
def s115_9 : GC := .loop s115_8
def s115_9_w {E nt rd fr h Q} := @wp_unf E nt rd fr h Q _ _ s115_9.eq_1
def s115_10 : GC := .block 0 s115_9
def s115_10_w {E nt rd fr h Q} := @wp_unf E nt rd fr h Q _ _ s115_10.eq_1
def r115_11 : List GO := [⟨none, some 10, .assign (.const (.int .i64 0))⟩]
def r115_11_w {E fr h Q} := @opsW_unf E fr h Q _ _ r115_11.eq_1
def s115_12 : GC := .seq (.ops r115_11) s115_10
def s115_12_w {E nt rd fr h Q} := @wp_unf E nt rd fr h Q _ _ s115_12.eq_1
theorem c115 : Tryd.f115.body.bind (clean env 38) = some s115_12 := by kernel_rfl
theorem e115 : env.funs.get 115 = some Tryd.f115 := by kernel_rfl
theorem F115 {args : List Value} {h : Heap} {K : Value → Heap → Prop} (hl : args.length = 5) (w : s115_12.wp env 38 none (setAll args 0 .leaf) h (resK env [] K)) : Ret env (.func 115) args h K :=
  Ret.of_body' rfl e115 c115 rfl rfl (by rw [hl]; decide) w

end Go.Proofs.YtjcmcoabckkjoaaDoor.Or

