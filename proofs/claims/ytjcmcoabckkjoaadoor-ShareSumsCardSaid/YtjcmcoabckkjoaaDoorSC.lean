/- Code of the functions that ShareSums reaches, as plain Lean. Conditions: none. -/
import Derived.Test.YtjcmcoabckkjoaaDoorZFb
import Derived.Test.YtjcmcoabckkjoaaDoorChecked
import Derived.KernelRfl
set_option linter.unusedSimpArgs false
set_option linter.unusedVariables false
namespace Go.Proofs.YtjcmcoabckkjoaaDoor
open Go.Ev
set_option maxRecDepth 100000
/-- the table that 'known' looks at -/
def dbs : List Value := [.int .u8 0, .int .u8 1, .int .u8 56, .int .u8 2, .int .u8 57, .int .u8 49, .int .u8 28, .int .u8 3, .int .u8 61, .int .u8 58, .int .u8 42, .int .u8 50, .int .u8 38, .int .u8 29, .int .u8 17, .int .u8 4, .int .u8 62, .int .u8 47, .int .u8 59, .int .u8 36, .int .u8 45, .int .u8 43, .int .u8 51, .int .u8 22, .int .u8 53, .int .u8 39, .int .u8 33, .int .u8 30, .int .u8 24, .int .u8 18, .int .u8 12, .int .u8 5, .int .u8 63, .int .u8 55, .int .u8 48, .int .u8 27, .int .u8 60, .int .u8 41, .int .u8 37, .int .u8 16, .int .u8 46, .int .u8 35, .int .u8 44, .int .u8 21, .int .u8 52, .int .u8 32, .int .u8 23, .int .u8 11, .int .u8 54, .int .u8 26, .int .u8 40, .int .u8 15, .int .u8 34, .int .u8 20, .int .u8 31, .int .u8 10, .int .u8 25, .int .u8 14, .int .u8 19, .int .u8 9, .int .u8 13, .int .u8 8, .int .u8 7, .int .u8 6]
def tabs : List (Nat × List Value) := [(1, dbs)]
noncomputable def env : Env := envOf Tryd.prog 2 (extTab tabs (extNan 19 (extFl 18 10 fun _ _ _ => none)) 8)
section
variable {fr : Fr} {h : Heap} {K : Value → Heap → Prop} {x y z : Operand} {ps : List (Nat × Operand)}
theorem agl_23 : ∀ {v : Value} {K : Value → Prop}, agL env 23 v h K = ld1K h v K := agL_one (by kernel_rfl)
theorem len_22 : opW env (.call ⟨.builtin .len, ⟨[x]⟩, ⟨[22]⟩⟩) fr h K = evK env fr x fun v => lenK v fun u => K u h := opW_lenS (by kernel_rfl)
theorem len_25 : opW env (.call ⟨.builtin .len, ⟨[x]⟩, ⟨[25]⟩⟩) fr h K = evK env fr x fun v => lenK v fun u => K u h := opW_lenS (by kernel_rfl)
theorem cv_3_27 : opW env (.convert 3 27 x) fr h K = evK env fr x fun v => cifK v fun u => K u h := opW_cif (k := .i64) (by kernel_rfl) (by kernel_rfl)
theorem ia_25 : opW env (.indexAddr 25 x y) fr h K = evK env fr x fun v => evK env fr y fun i => idxSK 1 v i fun u => K u h := opW_indexAddrS (by kernel_rfl)
theorem ld_27 : opW env (.load 27 x) fr h K = evK env fr x fun v => ld1K h v fun u => K u h := opW_load1 (by kernel_rfl)
theorem ia_22 : opW env (.indexAddr 22 x y) fr h K = evK env fr x fun v => evK env fr y fun i => idxSK 1 v i fun u => K u h := opW_indexAddrS (by kernel_rfl)
theorem ld_23 : opW env (.load 23 x) fr h K = evK env fr x fun v => ld1K h v fun u => K u h := opW_load1 (by kernel_rfl)
theorem bsl_25_1 : opW env (.buildSlice 25 1 ⟨ps⟩) fr h K = evpK env fr ps fun l => bsK 27 1 [.float .f64 0] 1 l h K := opW_buildSlice (by kernel_rfl) (by decide)
theorem ap_25_25 : opW env (.call ⟨.builtin .append, ⟨[x, y]⟩, ⟨[25, 25]⟩⟩) fr h K = evK env fr x fun s => evK env fr y fun v => appK 27 1 s v h K := opW_append (zs := [.float .f64 0]) (by kernel_rfl) (by kernel_rfl)
theorem slz_25 : slzOf env 25 = some 1 := by kernel_rfl
end
/-! helmsman/helmsmanlaw31.ShareSums -/
def r3_0 : List GO := [⟨none, some 82, .call ⟨.value (.func 8), ⟨[]⟩, ⟨[]⟩⟩⟩,
  ⟨none, some 6, .assign (.tmp 82)⟩]
theorem r3_0_w {E : Env} {fr : Fr} {h : Heap} {Q : Fr → Heap → Prop} : opsW E r3_0 fr h Q = opsW E [⟨none, some 82, .call ⟨.value (.func 8), ⟨[]⟩, ⟨[]⟩⟩⟩,
  ⟨none, some 6, .assign (.tmp 82)⟩] fr h Q := Eq.trans rfl rfl
def s3_1 : GC := .seq (.ops r3_0) .ret
theorem s3_1_w {E : Env} {nt : Nat} {rd : Option Nat} {fr : Fr} {h : Heap} {Q : Ex → Fr → Heap → Prop} : s3_1.wp E nt rd fr h Q = (GC.seq (.ops r3_0) .ret).wp E nt rd fr h Q := Eq.trans rfl rfl
def r3_2 : List GO := [⟨none, some 62, .move (.tmp 11)⟩,
  ⟨none, some 63, .binOp .add 3 (.tmp 62) (.const (.int .i64 1)) 3⟩,
  ⟨none, some 11, .assign (.tmp 63)⟩]
theorem r3_2_w {E : Env} {fr : Fr} {h : Heap} {Q : Fr → Heap → Prop} : opsW E r3_2 fr h Q = opsW E [⟨none, some 62, .move (.tmp 11)⟩,
  ⟨none, some 63, .binOp .add 3 (.tmp 62) (.const (.int .i64 1)) 3⟩,
  ⟨none, some 11, .assign (.tmp 63)⟩] fr h Q := Eq.trans rfl rfl
def s3_3 : GC := .ops r3_2
theorem s3_3_w {E : Env} {nt : Nat} {rd : Option Nat} {fr : Fr} {h : Heap} {Q : Ex → Fr → Heap → Prop} : s3_3.wp E nt rd fr h Q = (GC.ops r3_2).wp E nt rd fr h Q := Eq.trans rfl rfl
def r3_4 : List GO := [⟨none, some 6, .assign (.const (.bool false))⟩]
theorem r3_4_w {E : Env} {fr : Fr} {h : Heap} {Q : Fr → Heap → Prop} : opsW E r3_4 fr h Q = opsW E [⟨none, some 6, .assign (.const (.bool false))⟩] fr h Q := Eq.trans rfl rfl
def s3_5 : GC := .seq (.ops r3_4) .ret
theorem s3_5_w {E : Env} {nt : Nat} {rd : Option Nat} {fr : Fr} {h : Heap} {Q : Ex → Fr → Heap → Prop} : s3_5.wp E nt rd fr h Q = (GC.seq (.ops r3_4) .ret).wp E nt rd fr h Q := Eq.trans rfl rfl
def s3_6 : GC := .cond (.tmp 81) s3_5 .skip
theorem s3_6_w {E : Env} {nt : Nat} {rd : Option Nat} {fr : Fr} {h : Heap} {Q : Ex → Fr → Heap → Prop} : s3_6.wp E nt rd fr h Q = (GC.cond (.tmp 81) s3_5 .skip).wp E nt rd fr h Q := Eq.trans rfl rfl
def p3_7 : List (GO × List GO) := [(⟨none, some 64, .move (.tmp 7)⟩, []),
  (⟨none, some 65, .move (.tmp 11)⟩, []),
  (⟨none, some 66, .indexAddr 25 (.tmp 64) (.tmp 65)⟩, []),
  (⟨none, some 67, .load 27 (.tmp 66)⟩, []),
  (⟨none, some 69, .move (.tmp 0)⟩, []),
  (⟨none, some 70, .move (.tmp 11)⟩, []),
  (⟨none, some 71, .indexAddr 22 (.tmp 69) (.tmp 70)⟩, []),
  (⟨none, some 72, .load 23 (.tmp 71)⟩, []),
  (⟨none, some 68, .call ⟨.value (.func 18), ⟨[.tmp 67]⟩, ⟨[27]⟩⟩⟩, [⟨none, some 72, .load 23 (.tmp 71)⟩]),
  (⟨none, some 73, .binOp .neq 23 (.tmp 68) (.tmp 72) 23⟩, []),
  (⟨none, some 74, .move (.tmp 73)⟩, []),
  (⟨some (74, true), some 75, .move (.tmp 7)⟩, []),
  (⟨some (74, true), some 76, .move (.tmp 11)⟩, []),
  (⟨some (74, true), some 77, .indexAddr 25 (.tmp 75) (.tmp 76)⟩, []),
  (⟨some (74, true), some 78, .load 27 (.tmp 77)⟩, []),
  (⟨some (74, true), some 79, .call ⟨.value (.func 19), ⟨[.tmp 78]⟩, ⟨[27]⟩⟩⟩, []),
  (⟨some (74, true), some 80, .unOp .not 4 (.tmp 79)⟩, []),
  (⟨none, some 81, .pick (.tmp 74) (.tmp 80) (.const (.bool false))⟩, [])]
theorem p3_7_w {E : Env} {fr : Fr} {h : Heap} {Q : Fr → Heap → Prop} : planW E p3_7 fr h Q = planW E [(⟨none, some 64, .move (.tmp 7)⟩, []),
  (⟨none, some 65, .move (.tmp 11)⟩, []),
  (⟨none, some 66, .indexAddr 25 (.tmp 64) (.tmp 65)⟩, []),
  (⟨none, some 67, .load 27 (.tmp 66)⟩, []),
  (⟨none, some 69, .move (.tmp 0)⟩, []),
  (⟨none, some 70, .move (.tmp 11)⟩, []),
  (⟨none, some 71, .indexAddr 22 (.tmp 69) (.tmp 70)⟩, []),
  (⟨none, some 72, .load 23 (.tmp 71)⟩, []),
  (⟨none, some 68, .call ⟨.value (.func 18), ⟨[.tmp 67]⟩, ⟨[27]⟩⟩⟩, [⟨none, some 72, .load 23 (.tmp 71)⟩]),
  (⟨none, some 73, .binOp .neq 23 (.tmp 68) (.tmp 72) 23⟩, []),
  (⟨none, some 74, .move (.tmp 73)⟩, []),
  (⟨some (74, true), some 75, .move (.tmp 7)⟩, []),
  (⟨some (74, true), some 76, .move (.tmp 11)⟩, []),
  (⟨some (74, true), some 77, .indexAddr 25 (.tmp 75) (.tmp 76)⟩, []),
  (⟨some (74, true), some 78, .load 27 (.tmp 77)⟩, []),
  (⟨some (74, true), some 79, .call ⟨.value (.func 19), ⟨[.tmp 78]⟩, ⟨[27]⟩⟩⟩, []),
  (⟨some (74, true), some 80, .unOp .not 4 (.tmp 79)⟩, []),
  (⟨none, some 81, .pick (.tmp 74) (.tmp 80) (.const (.bool false))⟩, [])] fr h Q := Eq.trans rfl rfl
def s3_8 : GC := .seq (.plan p3_7) s3_6
theorem s3_8_w {E : Env} {nt : Nat} {rd : Option Nat} {fr : Fr} {h : Heap} {Q : Ex → Fr → Heap → Prop} : s3_8.wp E nt rd fr h Q = (GC.seq (.plan p3_7) s3_6).wp E nt rd fr h Q := Eq.trans rfl rfl
def s3_9 : GC := .seq (.block 1 s3_8) s3_3
theorem s3_9_w {E : Env} {nt : Nat} {rd : Option Nat} {fr : Fr} {h : Heap} {Q : Ex → Fr → Heap → Prop} : s3_9.wp E nt rd fr h Q = (GC.seq (.block 1 s3_8) s3_3).wp E nt rd fr h Q := Eq.trans rfl rfl
def s3_10 : GC := .cond (.tmp 61) .skip (.exit 0)
theorem s3_10_w {E : Env} {nt : Nat} {rd : Option Nat} {fr : Fr} {h : Heap} {Q : Ex → Fr → Heap → Prop} : s3_10.wp E nt rd fr h Q = (GC.cond (.tmp 61) .skip (.exit 0)).wp E nt rd fr h Q := Eq.trans rfl rfl
def r3_11 : List GO := [⟨none, some 58, .move (.tmp 11)⟩,
  ⟨none, some 59, .move (.tmp 0)⟩,
  ⟨none, some 60, .call ⟨.builtin .len, ⟨[.tmp 59]⟩, ⟨[22]⟩⟩⟩,
  ⟨none, some 61, .binOp .lss 3 (.tmp 58) (.tmp 60) 3⟩]
theorem r3_11_w {E : Env} {fr : Fr} {h : Heap} {Q : Fr → Heap → Prop} : opsW E r3_11 fr h Q = opsW E [⟨none, some 58, .move (.tmp 11)⟩,
  ⟨none, some 59, .move (.tmp 0)⟩,
  ⟨none, some 60, .call ⟨.builtin .len, ⟨[.tmp 59]⟩, ⟨[22]⟩⟩⟩,
  ⟨none, some 61, .binOp .lss 3 (.tmp 58) (.tmp 60) 3⟩] fr h Q := Eq.trans rfl rfl
def s3_12 : GC := .seq (.ops r3_11) s3_10
theorem s3_12_w {E : Env} {nt : Nat} {rd : Option Nat} {fr : Fr} {h : Heap} {Q : Ex → Fr → Heap → Prop} : s3_12.wp E nt rd fr h Q = (GC.seq (.ops r3_11) s3_10).wp E nt rd fr h Q := Eq.trans rfl rfl
def s3_13 : GC := .seq (s3_12) s3_9
theorem s3_13_w {E : Env} {nt : Nat} {rd : Option Nat} {fr : Fr} {h : Heap} {Q : Ex → Fr → Heap → Prop} : s3_13.wp E nt rd fr h Q = (GC.seq (s3_12) s3_9).wp E nt rd fr h Q := Eq.trans rfl rfl
def s3_14 : GC := .loop s3_13
theorem s3_14_w {E : Env} {nt : Nat} {rd : Option Nat} {fr : Fr} {h : Heap} {Q : Ex → Fr → Heap → Prop} : s3_14.wp E nt rd fr h Q = (GC.loop s3_13).wp E nt rd fr h Q := Eq.trans rfl rfl
def s3_15 : GC := .block 0 s3_14
theorem s3_15_w {E : Env} {nt : Nat} {rd : Option Nat} {fr : Fr} {h : Heap} {Q : Ex → Fr → Heap → Prop} : s3_15.wp E nt rd fr h Q = (GC.block 0 s3_14).wp E nt rd fr h Q := Eq.trans rfl rfl
def r3_16 : List GO := [⟨none, some 11, .assign (.const (.int .i64 0))⟩]
theorem r3_16_w {E : Env} {fr : Fr} {h : Heap} {Q : Fr → Heap → Prop} : opsW E r3_16 fr h Q = opsW E [⟨none, some 11, .assign (.const (.int .i64 0))⟩] fr h Q := Eq.trans rfl rfl
def s3_17 : GC := .seq (.ops r3_16) s3_15
theorem s3_17_w {E : Env} {nt : Nat} {rd : Option Nat} {fr : Fr} {h : Heap} {Q : Ex → Fr → Heap → Prop} : s3_17.wp E nt rd fr h Q = (GC.seq (.ops r3_16) s3_15).wp E nt rd fr h Q := Eq.trans rfl rfl
def s3_18 : GC := .seq (s3_17) s3_1
theorem s3_18_w {E : Env} {nt : Nat} {rd : Option Nat} {fr : Fr} {h : Heap} {Q : Ex → Fr → Heap → Prop} : s3_18.wp E nt rd fr h Q = (GC.seq (s3_17) s3_1).wp E nt rd fr h Q := Eq.trans rfl rfl
def r3_19 : List GO := [⟨none, some 6, .assign (.const (.bool false))⟩]
theorem r3_19_w {E : Env} {fr : Fr} {h : Heap} {Q : Fr → Heap → Prop} : opsW E r3_19 fr h Q = opsW E [⟨none, some 6, .assign (.const (.bool false))⟩] fr h Q := Eq.trans rfl rfl
def s3_20 : GC := .seq (.ops r3_19) .ret
theorem s3_20_w {E : Env} {nt : Nat} {rd : Option Nat} {fr : Fr} {h : Heap} {Q : Ex → Fr → Heap → Prop} : s3_20.wp E nt rd fr h Q = (GC.seq (.ops r3_19) .ret).wp E nt rd fr h Q := Eq.trans rfl rfl
def s3_21 : GC := .cond (.tmp 57) s3_20 .skip
theorem s3_21_w {E : Env} {nt : Nat} {rd : Option Nat} {fr : Fr} {h : Heap} {Q : Ex → Fr → Heap → Prop} : s3_21.wp E nt rd fr h Q = (GC.cond (.tmp 57) s3_20 .skip).wp E nt rd fr h Q := Eq.trans rfl rfl
def r3_22 : List GO := [⟨none, some 24, .move (.tmp 7)⟩,
  ⟨none, some 25, .call ⟨.value (.func 13), ⟨[.tmp 24]⟩, ⟨[25]⟩⟩⟩,
  ⟨none, some 26, .move (.tmp 10)⟩,
  ⟨none, some 27, .call ⟨.value (.func 12), ⟨[.tmp 25, .tmp 26]⟩, ⟨[27, 27]⟩⟩⟩,
  ⟨none, some 28, .unOp .not 4 (.tmp 27)⟩,
  ⟨none, some 29, .move (.tmp 28)⟩,
  ⟨some (29, false), some 30, .move (.tmp 7)⟩,
  ⟨some (29, false), some 31, .call ⟨.value (.func 14), ⟨[.tmp 30]⟩, ⟨[25]⟩⟩⟩,
  ⟨some (29, false), some 32, .move (.tmp 10)⟩,
  ⟨some (29, false), some 33, .move (.tmp 7)⟩,
  ⟨some (29, false), some 34, .call ⟨.builtin .len, ⟨[.tmp 33]⟩, ⟨[25]⟩⟩⟩,
  ⟨some (29, false), some 35, .convert 3 27 (.tmp 34)⟩,
  ⟨some (29, false), some 36, .binOp .quo 27 (.tmp 32) (.tmp 35) 27⟩,
  ⟨some (29, false), some 37, .call ⟨.value (.func 12), ⟨[.tmp 31, .tmp 36]⟩, ⟨[27, 27]⟩⟩⟩,
  ⟨some (29, false), some 38, .unOp .not 4 (.tmp 37)⟩,
  ⟨none, some 39, .pick (.tmp 29) (.const (.bool true)) (.tmp 38)⟩,
  ⟨none, some 40, .move (.tmp 39)⟩,
  ⟨some (40, false), some 41, .move (.tmp 7)⟩,
  ⟨some (40, false), some 42, .call ⟨.value (.func 15), ⟨[.tmp 41]⟩, ⟨[25]⟩⟩⟩,
  ⟨some (40, false), some 43, .move (.tmp 7)⟩,
  ⟨some (40, false), some 44, .call ⟨.value (.func 16), ⟨[.tmp 43]⟩, ⟨[25]⟩⟩⟩,
  ⟨some (40, false), some 45, .call ⟨.value (.func 12), ⟨[.tmp 42, .tmp 44]⟩, ⟨[27, 27]⟩⟩⟩,
  ⟨some (40, false), some 46, .unOp .not 4 (.tmp 45)⟩,
  ⟨none, some 47, .pick (.tmp 40) (.const (.bool true)) (.tmp 46)⟩,
  ⟨none, some 48, .move (.tmp 47)⟩,
  ⟨some (48, false), some 49, .move (.tmp 8)⟩,
  ⟨some (48, false), some 50, .move (.tmp 9)⟩,
  ⟨some (48, false), some 51, .call ⟨.value (.func 17), ⟨[.tmp 49, .tmp 50]⟩, ⟨[27, 27]⟩⟩⟩,
  ⟨some (48, false), some 52, .move (.tmp 8)⟩,
  ⟨some (48, false), some 53, .move (.tmp 9)⟩,
  ⟨some (48, false), some 54, .binOp .quo 27 (.tmp 52) (.tmp 53) 27⟩,
  ⟨some (48, false), some 55, .call ⟨.value (.func 12), ⟨[.tmp 51, .tmp 54]⟩, ⟨[27, 27]⟩⟩⟩,
  ⟨some (48, false), some 56, .unOp .not 4 (.tmp 55)⟩,
  ⟨none, some 57, .pick (.tmp 48) (.const (.bool true)) (.tmp 56)⟩]
theorem r3_22_w {E : Env} {fr : Fr} {h : Heap} {Q : Fr → Heap → Prop} : opsW E r3_22 fr h Q = opsW E [⟨none, some 24, .move (.tmp 7)⟩,
  ⟨none, some 25, .call ⟨.value (.func 13), ⟨[.tmp 24]⟩, ⟨[25]⟩⟩⟩,
  ⟨none, some 26, .move (.tmp 10)⟩,
  ⟨none, some 27, .call ⟨.value (.func 12), ⟨[.tmp 25, .tmp 26]⟩, ⟨[27, 27]⟩⟩⟩,
  ⟨none, some 28, .unOp .not 4 (.tmp 27)⟩,
  ⟨none, some 29, .move (.tmp 28)⟩,
  ⟨some (29, false), some 30, .move (.tmp 7)⟩,
  ⟨some (29, false), some 31, .call ⟨.value (.func 14), ⟨[.tmp 30]⟩, ⟨[25]⟩⟩⟩,
  ⟨some (29, false), some 32, .move (.tmp 10)⟩,
  ⟨some (29, false), some 33, .move (.tmp 7)⟩,
  ⟨some (29, false), some 34, .call ⟨.builtin .len, ⟨[.tmp 33]⟩, ⟨[25]⟩⟩⟩,
  ⟨some (29, false), some 35, .convert 3 27 (.tmp 34)⟩,
  ⟨some (29, false), some 36, .binOp .quo 27 (.tmp 32) (.tmp 35) 27⟩,
  ⟨some (29, false), some 37, .call ⟨.value (.func 12), ⟨[.tmp 31, .tmp 36]⟩, ⟨[27, 27]⟩⟩⟩,
  ⟨some (29, false), some 38, .unOp .not 4 (.tmp 37)⟩,
  ⟨none, some 39, .pick (.tmp 29) (.const (.bool true)) (.tmp 38)⟩,
  ⟨none, some 40, .move (.tmp 39)⟩,
  ⟨some (40, false), some 41, .move (.tmp 7)⟩,
  ⟨some (40, false), some 42, .call ⟨.value (.func 15), ⟨[.tmp 41]⟩, ⟨[25]⟩⟩⟩,
  ⟨some (40, false), some 43, .move (.tmp 7)⟩,
  ⟨some (40, false), some 44, .call ⟨.value (.func 16), ⟨[.tmp 43]⟩, ⟨[25]⟩⟩⟩,
  ⟨some (40, false), some 45, .call ⟨.value (.func 12), ⟨[.tmp 42, .tmp 44]⟩, ⟨[27, 27]⟩⟩⟩,
  ⟨some (40, false), some 46, .unOp .not 4 (.tmp 45)⟩,
  ⟨none, some 47, .pick (.tmp 40) (.const (.bool true)) (.tmp 46)⟩,
  ⟨none, some 48, .move (.tmp 47)⟩,
  ⟨some (48, false), some 49, .move (.tmp 8)⟩,
  ⟨some (48, false), some 50, .move (.tmp 9)⟩,
  ⟨some (48, false), some 51, .call ⟨.value (.func 17), ⟨[.tmp 49, .tmp 50]⟩, ⟨[27, 27]⟩⟩⟩,
  ⟨some (48, false), some 52, .move (.tmp 8)⟩,
  ⟨some (48, false), some 53, .move (.tmp 9)⟩,
  ⟨some (48, false), some 54, .binOp .quo 27 (.tmp 52) (.tmp 53) 27⟩,
  ⟨some (48, false), some 55, .call ⟨.value (.func 12), ⟨[.tmp 51, .tmp 54]⟩, ⟨[27, 27]⟩⟩⟩,
  ⟨some (48, false), some 56, .unOp .not 4 (.tmp 55)⟩,
  ⟨none, some 57, .pick (.tmp 48) (.const (.bool true)) (.tmp 56)⟩] fr h Q := Eq.trans rfl rfl
def s3_23 : GC := .seq (.ops r3_22) s3_21
theorem s3_23_w {E : Env} {nt : Nat} {rd : Option Nat} {fr : Fr} {h : Heap} {Q : Ex → Fr → Heap → Prop} : s3_23.wp E nt rd fr h Q = (GC.seq (.ops r3_22) s3_21).wp E nt rd fr h Q := Eq.trans rfl rfl
def s3_24 : GC := .seq (s3_23) s3_18
theorem s3_24_w {E : Env} {nt : Nat} {rd : Option Nat} {fr : Fr} {h : Heap} {Q : Ex → Fr → Heap → Prop} : s3_24.wp E nt rd fr h Q = (GC.seq (s3_23) s3_18).wp E nt rd fr h Q := Eq.trans rfl rfl
def r3_25 : List GO := [⟨none, some 22, .move (.tmp 7)⟩,
  ⟨none, some 23, .call ⟨.value (.func 11), ⟨[.tmp 22]⟩, ⟨[25]⟩⟩⟩,
  ⟨none, some 10, .assign (.tmp 23)⟩]
theorem r3_25_w {E : Env} {fr : Fr} {h : Heap} {Q : Fr → Heap → Prop} : opsW E r3_25 fr h Q = opsW E [⟨none, some 22, .move (.tmp 7)⟩,
  ⟨none, some 23, .call ⟨.value (.func 11), ⟨[.tmp 22]⟩, ⟨[25]⟩⟩⟩,
  ⟨none, some 10, .assign (.tmp 23)⟩] fr h Q := Eq.trans rfl rfl
def s3_26 : GC := .seq (.ops r3_25) s3_24
theorem s3_26_w {E : Env} {nt : Nat} {rd : Option Nat} {fr : Fr} {h : Heap} {Q : Ex → Fr → Heap → Prop} : s3_26.wp E nt rd fr h Q = (GC.seq (.ops r3_25) s3_24).wp E nt rd fr h Q := Eq.trans rfl rfl
def r3_27 : List GO := [⟨none, some 18, .move (.tmp 1)⟩,
  ⟨none, some 19, .call ⟨.value (.func 10), ⟨[.tmp 18]⟩, ⟨[23]⟩⟩⟩,
  ⟨none, some 20, .move (.tmp 2)⟩,
  ⟨none, some 21, .call ⟨.value (.func 10), ⟨[.tmp 20]⟩, ⟨[23]⟩⟩⟩,
  ⟨none, some 8, .assign (.tmp 19)⟩,
  ⟨none, some 9, .assign (.tmp 21)⟩]
theorem r3_27_w {E : Env} {fr : Fr} {h : Heap} {Q : Fr → Heap → Prop} : opsW E r3_27 fr h Q = opsW E [⟨none, some 18, .move (.tmp 1)⟩,
  ⟨none, some 19, .call ⟨.value (.func 10), ⟨[.tmp 18]⟩, ⟨[23]⟩⟩⟩,
  ⟨none, some 20, .move (.tmp 2)⟩,
  ⟨none, some 21, .call ⟨.value (.func 10), ⟨[.tmp 20]⟩, ⟨[23]⟩⟩⟩,
  ⟨none, some 8, .assign (.tmp 19)⟩,
  ⟨none, some 9, .assign (.tmp 21)⟩] fr h Q := Eq.trans rfl rfl
def s3_28 : GC := .seq (.ops r3_27) s3_26
theorem s3_28_w {E : Env} {nt : Nat} {rd : Option Nat} {fr : Fr} {h : Heap} {Q : Ex → Fr → Heap → Prop} : s3_28.wp E nt rd fr h Q = (GC.seq (.ops r3_27) s3_26).wp E nt rd fr h Q := Eq.trans rfl rfl
def r3_29 : List GO := [⟨none, some 16, .move (.tmp 0)⟩,
  ⟨none, some 17, .call ⟨.value (.func 9), ⟨[.tmp 16]⟩, ⟨[22]⟩⟩⟩,
  ⟨none, some 7, .assign (.tmp 17)⟩]
theorem r3_29_w {E : Env} {fr : Fr} {h : Heap} {Q : Fr → Heap → Prop} : opsW E r3_29 fr h Q = opsW E [⟨none, some 16, .move (.tmp 0)⟩,
  ⟨none, some 17, .call ⟨.value (.func 9), ⟨[.tmp 16]⟩, ⟨[22]⟩⟩⟩,
  ⟨none, some 7, .assign (.tmp 17)⟩] fr h Q := Eq.trans rfl rfl
def s3_30 : GC := .seq (.ops r3_29) s3_28
theorem s3_30_w {E : Env} {nt : Nat} {rd : Option Nat} {fr : Fr} {h : Heap} {Q : Ex → Fr → Heap → Prop} : s3_30.wp E nt rd fr h Q = (GC.seq (.ops r3_29) s3_28).wp E nt rd fr h Q := Eq.trans rfl rfl
def r3_31 : List GO := [⟨none, some 15, .call ⟨.value (.func 8), ⟨[]⟩, ⟨[]⟩⟩⟩,
  ⟨none, some 6, .assign (.tmp 15)⟩]
theorem r3_31_w {E : Env} {fr : Fr} {h : Heap} {Q : Fr → Heap → Prop} : opsW E r3_31 fr h Q = opsW E [⟨none, some 15, .call ⟨.value (.func 8), ⟨[]⟩, ⟨[]⟩⟩⟩,
  ⟨none, some 6, .assign (.tmp 15)⟩] fr h Q := Eq.trans rfl rfl
def s3_32 : GC := .seq (.ops r3_31) .ret
theorem s3_32_w {E : Env} {nt : Nat} {rd : Option Nat} {fr : Fr} {h : Heap} {Q : Ex → Fr → Heap → Prop} : s3_32.wp E nt rd fr h Q = (GC.seq (.ops r3_31) .ret).wp E nt rd fr h Q := Eq.trans rfl rfl
def s3_33 : GC := .cond (.tmp 14) s3_32 .skip
theorem s3_33_w {E : Env} {nt : Nat} {rd : Option Nat} {fr : Fr} {h : Heap} {Q : Ex → Fr → Heap → Prop} : s3_33.wp E nt rd fr h Q = (GC.cond (.tmp 14) s3_32 .skip).wp E nt rd fr h Q := Eq.trans rfl rfl
def r3_34 : List GO := [⟨none, some 12, .move (.tmp 0)⟩,
  ⟨none, some 13, .call ⟨.builtin .len, ⟨[.tmp 12]⟩, ⟨[22]⟩⟩⟩,
  ⟨none, some 14, .binOp .gtr 3 (.tmp 13) (.const (.int .i64 100)) 3⟩]
theorem r3_34_w {E : Env} {fr : Fr} {h : Heap} {Q : Fr → Heap → Prop} : opsW E r3_34 fr h Q = opsW E [⟨none, some 12, .move (.tmp 0)⟩,
  ⟨none, some 13, .call ⟨.builtin .len, ⟨[.tmp 12]⟩, ⟨[22]⟩⟩⟩,
  ⟨none, some 14, .binOp .gtr 3 (.tmp 13) (.const (.int .i64 100)) 3⟩] fr h Q := Eq.trans rfl rfl
def s3_35 : GC := .seq (.ops r3_34) s3_33
theorem s3_35_w {E : Env} {nt : Nat} {rd : Option Nat} {fr : Fr} {h : Heap} {Q : Ex → Fr → Heap → Prop} : s3_35.wp E nt rd fr h Q = (GC.seq (.ops r3_34) s3_33).wp E nt rd fr h Q := Eq.trans rfl rfl
def s3_36 : GC := .seq (s3_35) s3_30
theorem s3_36_w {E : Env} {nt : Nat} {rd : Option Nat} {fr : Fr} {h : Heap} {Q : Ex → Fr → Heap → Prop} : s3_36.wp E nt rd fr h Q = (GC.seq (s3_35) s3_30).wp E nt rd fr h Q := Eq.trans rfl rfl
def r3_37 : List GO := [⟨none, some 6, .assign (.const (.bool false))⟩]
theorem r3_37_w {E : Env} {fr : Fr} {h : Heap} {Q : Fr → Heap → Prop} : opsW E r3_37 fr h Q = opsW E [⟨none, some 6, .assign (.const (.bool false))⟩] fr h Q := Eq.trans rfl rfl
def s3_38 : GC := .seq (.ops r3_37) s3_36
theorem s3_38_w {E : Env} {nt : Nat} {rd : Option Nat} {fr : Fr} {h : Heap} {Q : Ex → Fr → Heap → Prop} : s3_38.wp E nt rd fr h Q = (GC.seq (.ops r3_37) s3_36).wp E nt rd fr h Q := Eq.trans rfl rfl
theorem c3 : Tryd.f3.body.bind (clean env 83) = some s3_38 := by kernel_rfl
theorem e3 : env.funs.get 3 = some Tryd.f3 := by kernel_rfl
theorem F3 {args : List Value} {h : Heap} {K : Value → Heap → Prop} (hl : args.length = 3) (w : s3_38.wp env 83 none (setAll args 0 .leaf) h (resK env [.tmp 6] K)) : Ret env (.func 3) args h K :=
  Ret.of_body' rfl e3 c3 rfl rfl (by rw [hl]; decide) w
/-! helmsman/helmsmanlaw31.numbers -/
def r9_0 : List GO := [⟨none, some 19, .move (.tmp 3)⟩,
  ⟨none, some 2, .assign (.tmp 19)⟩]
theorem r9_0_w {E : Env} {fr : Fr} {h : Heap} {Q : Fr → Heap → Prop} : opsW E r9_0 fr h Q = opsW E [⟨none, some 19, .move (.tmp 3)⟩,
  ⟨none, some 2, .assign (.tmp 19)⟩] fr h Q := Eq.trans rfl rfl
def s9_1 : GC := .seq (.ops r9_0) .ret
theorem s9_1_w {E : Env} {nt : Nat} {rd : Option Nat} {fr : Fr} {h : Heap} {Q : Ex → Fr → Heap → Prop} : s9_1.wp E nt rd fr h Q = (GC.seq (.ops r9_0) .ret).wp E nt rd fr h Q := Eq.trans rfl rfl
def r9_2 : List GO := [⟨none, some 9, .move (.tmp 4)⟩,
  ⟨none, some 10, .binOp .add 3 (.tmp 9) (.const (.int .i64 1)) 3⟩,
  ⟨none, some 4, .assign (.tmp 10)⟩]
theorem r9_2_w {E : Env} {fr : Fr} {h : Heap} {Q : Fr → Heap → Prop} : opsW E r9_2 fr h Q = opsW E [⟨none, some 9, .move (.tmp 4)⟩,
  ⟨none, some 10, .binOp .add 3 (.tmp 9) (.const (.int .i64 1)) 3⟩,
  ⟨none, some 4, .assign (.tmp 10)⟩] fr h Q := Eq.trans rfl rfl
def s9_3 : GC := .ops r9_2
theorem s9_3_w {E : Env} {nt : Nat} {rd : Option Nat} {fr : Fr} {h : Heap} {Q : Ex → Fr → Heap → Prop} : s9_3.wp E nt rd fr h Q = (GC.ops r9_2).wp E nt rd fr h Q := Eq.trans rfl rfl
def r9_4 : List GO := [⟨none, some 11, .move (.tmp 3)⟩,
  ⟨none, some 12, .move (.tmp 0)⟩,
  ⟨none, some 13, .move (.tmp 4)⟩,
  ⟨none, some 14, .indexAddr 22 (.tmp 12) (.tmp 13)⟩,
  ⟨none, some 15, .load 23 (.tmp 14)⟩,
  ⟨none, some 16, .call ⟨.value (.func 10), ⟨[.tmp 15]⟩, ⟨[23]⟩⟩⟩,
  ⟨none, some 17, .buildSlice 25 1 ⟨[(0, .tmp 16)]⟩⟩,
  ⟨none, some 18, .call ⟨.builtin .append, ⟨[.tmp 11, .tmp 17]⟩, ⟨[25, 25]⟩⟩⟩,
  ⟨none, some 3, .assign (.tmp 18)⟩]
theorem r9_4_w {E : Env} {fr : Fr} {h : Heap} {Q : Fr → Heap → Prop} : opsW E r9_4 fr h Q = opsW E [⟨none, some 11, .move (.tmp 3)⟩,
  ⟨none, some 12, .move (.tmp 0)⟩,
  ⟨none, some 13, .move (.tmp 4)⟩,
  ⟨none, some 14, .indexAddr 22 (.tmp 12) (.tmp 13)⟩,
  ⟨none, some 15, .load 23 (.tmp 14)⟩,
  ⟨none, some 16, .call ⟨.value (.func 10), ⟨[.tmp 15]⟩, ⟨[23]⟩⟩⟩,
  ⟨none, some 17, .buildSlice 25 1 ⟨[(0, .tmp 16)]⟩⟩,
  ⟨none, some 18, .call ⟨.builtin .append, ⟨[.tmp 11, .tmp 17]⟩, ⟨[25, 25]⟩⟩⟩,
  ⟨none, some 3, .assign (.tmp 18)⟩] fr h Q := Eq.trans rfl rfl
def s9_5 : GC := .ops r9_4
theorem s9_5_w {E : Env} {nt : Nat} {rd : Option Nat} {fr : Fr} {h : Heap} {Q : Ex → Fr → Heap → Prop} : s9_5.wp E nt rd fr h Q = (GC.ops r9_4).wp E nt rd fr h Q := Eq.trans rfl rfl
def s9_6 : GC := .seq (.block 1 s9_5) s9_3
theorem s9_6_w {E : Env} {nt : Nat} {rd : Option Nat} {fr : Fr} {h : Heap} {Q : Ex → Fr → Heap → Prop} : s9_6.wp E nt rd fr h Q = (GC.seq (.block 1 s9_5) s9_3).wp E nt rd fr h Q := Eq.trans rfl rfl
def s9_7 : GC := .cond (.tmp 8) .skip (.exit 0)
theorem s9_7_w {E : Env} {nt : Nat} {rd : Option Nat} {fr : Fr} {h : Heap} {Q : Ex → Fr → Heap → Prop} : s9_7.wp E nt rd fr h Q = (GC.cond (.tmp 8) .skip (.exit 0)).wp E nt rd fr h Q := Eq.trans rfl rfl
def r9_8 : List GO := [⟨none, some 5, .move (.tmp 4)⟩,
  ⟨none, some 6, .move (.tmp 0)⟩,
  ⟨none, some 7, .call ⟨.builtin .len, ⟨[.tmp 6]⟩, ⟨[22]⟩⟩⟩,
  ⟨none, some 8, .binOp .lss 3 (.tmp 5) (.tmp 7) 3⟩]
theorem r9_8_w {E : Env} {fr : Fr} {h : Heap} {Q : Fr → Heap → Prop} : opsW E r9_8 fr h Q = opsW E [⟨none, some 5, .move (.tmp 4)⟩,
  ⟨none, some 6, .move (.tmp 0)⟩,
  ⟨none, some 7, .call ⟨.builtin .len, ⟨[.tmp 6]⟩, ⟨[22]⟩⟩⟩,
  ⟨none, some 8, .binOp .lss 3 (.tmp 5) (.tmp 7) 3⟩] fr h Q := Eq.trans rfl rfl
def s9_9 : GC := .seq (.ops r9_8) s9_7
theorem s9_9_w {E : Env} {nt : Nat} {rd : Option Nat} {fr : Fr} {h : Heap} {Q : Ex → Fr → Heap → Prop} : s9_9.wp E nt rd fr h Q = (GC.seq (.ops r9_8) s9_7).wp E nt rd fr h Q := Eq.trans rfl rfl
def s9_10 : GC := .seq (s9_9) s9_6
theorem s9_10_w {E : Env} {nt : Nat} {rd : Option Nat} {fr : Fr} {h : Heap} {Q : Ex → Fr → Heap → Prop} : s9_10.wp E nt rd fr h Q = (GC.seq (s9_9) s9_6).wp E nt rd fr h Q := Eq.trans rfl rfl
def s9_11 : GC := .loop s9_10
theorem s9_11_w {E : Env} {nt : Nat} {rd : Option Nat} {fr : Fr} {h : Heap} {Q : Ex → Fr → Heap → Prop} : s9_11.wp E nt rd fr h Q = (GC.loop s9_10).wp E nt rd fr h Q := Eq.trans rfl rfl
def s9_12 : GC := .block 0 s9_11
theorem s9_12_w {E : Env} {nt : Nat} {rd : Option Nat} {fr : Fr} {h : Heap} {Q : Ex → Fr → Heap → Prop} : s9_12.wp E nt rd fr h Q = (GC.block 0 s9_11).wp E nt rd fr h Q := Eq.trans rfl rfl
def r9_13 : List GO := [⟨none, some 4, .assign (.const (.int .i64 0))⟩]
theorem r9_13_w {E : Env} {fr : Fr} {h : Heap} {Q : Fr → Heap → Prop} : opsW E r9_13 fr h Q = opsW E [⟨none, some 4, .assign (.const (.int .i64 0))⟩] fr h Q := Eq.trans rfl rfl
def s9_14 : GC := .seq (.ops r9_13) s9_12
theorem s9_14_w {E : Env} {nt : Nat} {rd : Option Nat} {fr : Fr} {h : Heap} {Q : Ex → Fr → Heap → Prop} : s9_14.wp E nt rd fr h Q = (GC.seq (.ops r9_13) s9_12).wp E nt rd fr h Q := Eq.trans rfl rfl
def s9_15 : GC := .seq (s9_14) s9_1
theorem s9_15_w {E : Env} {nt : Nat} {rd : Option Nat} {fr : Fr} {h : Heap} {Q : Ex → Fr → Heap → Prop} : s9_15.wp E nt rd fr h Q = (GC.seq (s9_14) s9_1).wp E nt rd fr h Q := Eq.trans rfl rfl
def r9_16 : List GO := [⟨none, some 3, .assign (.const (.slice none 0 0))⟩]
theorem r9_16_w {E : Env} {fr : Fr} {h : Heap} {Q : Fr → Heap → Prop} : opsW E r9_16 fr h Q = opsW E [⟨none, some 3, .assign (.const (.slice none 0 0))⟩] fr h Q := Eq.trans rfl rfl
def s9_17 : GC := .seq (.ops r9_16) s9_15
theorem s9_17_w {E : Env} {nt : Nat} {rd : Option Nat} {fr : Fr} {h : Heap} {Q : Ex → Fr → Heap → Prop} : s9_17.wp E nt rd fr h Q = (GC.seq (.ops r9_16) s9_15).wp E nt rd fr h Q := Eq.trans rfl rfl
def r9_18 : List GO := [⟨none, some 2, .assign (.const (.slice none 0 0))⟩]
theorem r9_18_w {E : Env} {fr : Fr} {h : Heap} {Q : Fr → Heap → Prop} : opsW E r9_18 fr h Q = opsW E [⟨none, some 2, .assign (.const (.slice none 0 0))⟩] fr h Q := Eq.trans rfl rfl
def s9_19 : GC := .seq (.ops r9_18) s9_17
theorem s9_19_w {E : Env} {nt : Nat} {rd : Option Nat} {fr : Fr} {h : Heap} {Q : Ex → Fr → Heap → Prop} : s9_19.wp E nt rd fr h Q = (GC.seq (.ops r9_18) s9_17).wp E nt rd fr h Q := Eq.trans rfl rfl
theorem c9 : Tryd.f9.body.bind (clean env 20) = some s9_19 := by kernel_rfl
theorem e9 : env.funs.get 9 = some Tryd.f9 := by kernel_rfl
theorem F9 {args : List Value} {h : Heap} {K : Value → Heap → Prop} (hl : args.length = 1) (w : s9_19.wp env 20 none (setAll args 0 .leaf) h (resK env [.tmp 2] K)) : Ret env (.func 9) args h K :=
  Ret.of_body' rfl e9 c9 rfl rfl (by rw [hl]; decide) w
/-! helmsman/helmsmanref31.Sum -/
def r11_0 : List GO := [⟨none, some 23, .move (.tmp 3)⟩,
  ⟨none, some 2, .assign (.tmp 23)⟩]
theorem r11_0_w {E : Env} {fr : Fr} {h : Heap} {Q : Fr → Heap → Prop} : opsW E r11_0 fr h Q = opsW E [⟨none, some 23, .move (.tmp 3)⟩,
  ⟨none, some 2, .assign (.tmp 23)⟩] fr h Q := Eq.trans rfl rfl
def s11_1 : GC := .seq (.ops r11_0) .ret
theorem s11_1_w {E : Env} {nt : Nat} {rd : Option Nat} {fr : Fr} {h : Heap} {Q : Ex → Fr → Heap → Prop} : s11_1.wp E nt rd fr h Q = (GC.seq (.ops r11_0) .ret).wp E nt rd fr h Q := Eq.trans rfl rfl
def r11_2 : List GO := [⟨none, some 15, .move (.tmp 4)⟩,
  ⟨none, some 16, .binOp .add 3 (.tmp 15) (.const (.int .i64 1)) 3⟩,
  ⟨none, some 4, .assign (.tmp 16)⟩]
theorem r11_2_w {E : Env} {fr : Fr} {h : Heap} {Q : Fr → Heap → Prop} : opsW E r11_2 fr h Q = opsW E [⟨none, some 15, .move (.tmp 4)⟩,
  ⟨none, some 16, .binOp .add 3 (.tmp 15) (.const (.int .i64 1)) 3⟩,
  ⟨none, some 4, .assign (.tmp 16)⟩] fr h Q := Eq.trans rfl rfl
def s11_3 : GC := .ops r11_2
theorem s11_3_w {E : Env} {nt : Nat} {rd : Option Nat} {fr : Fr} {h : Heap} {Q : Ex → Fr → Heap → Prop} : s11_3.wp E nt rd fr h Q = (GC.ops r11_2).wp E nt rd fr h Q := Eq.trans rfl rfl
def r11_4 : List GO := [⟨none, some 17, .move (.tmp 3)⟩,
  ⟨none, some 18, .move (.tmp 0)⟩,
  ⟨none, some 19, .move (.tmp 4)⟩,
  ⟨none, some 20, .indexAddr 25 (.tmp 18) (.tmp 19)⟩,
  ⟨none, some 21, .load 27 (.tmp 20)⟩,
  ⟨none, some 22, .binOp .add 27 (.tmp 17) (.tmp 21) 27⟩,
  ⟨none, some 3, .assign (.tmp 22)⟩]
theorem r11_4_w {E : Env} {fr : Fr} {h : Heap} {Q : Fr → Heap → Prop} : opsW E r11_4 fr h Q = opsW E [⟨none, some 17, .move (.tmp 3)⟩,
  ⟨none, some 18, .move (.tmp 0)⟩,
  ⟨none, some 19, .move (.tmp 4)⟩,
  ⟨none, some 20, .indexAddr 25 (.tmp 18) (.tmp 19)⟩,
  ⟨none, some 21, .load 27 (.tmp 20)⟩,
  ⟨none, some 22, .binOp .add 27 (.tmp 17) (.tmp 21) 27⟩,
  ⟨none, some 3, .assign (.tmp 22)⟩] fr h Q := Eq.trans rfl rfl
def s11_5 : GC := .ops r11_4
theorem s11_5_w {E : Env} {nt : Nat} {rd : Option Nat} {fr : Fr} {h : Heap} {Q : Ex → Fr → Heap → Prop} : s11_5.wp E nt rd fr h Q = (GC.ops r11_4).wp E nt rd fr h Q := Eq.trans rfl rfl
def s11_6 : GC := .seq (.block 1 s11_5) s11_3
theorem s11_6_w {E : Env} {nt : Nat} {rd : Option Nat} {fr : Fr} {h : Heap} {Q : Ex → Fr → Heap → Prop} : s11_6.wp E nt rd fr h Q = (GC.seq (.block 1 s11_5) s11_3).wp E nt rd fr h Q := Eq.trans rfl rfl
def s11_7 : GC := .cond (.tmp 14) .skip (.exit 0)
theorem s11_7_w {E : Env} {nt : Nat} {rd : Option Nat} {fr : Fr} {h : Heap} {Q : Ex → Fr → Heap → Prop} : s11_7.wp E nt rd fr h Q = (GC.cond (.tmp 14) .skip (.exit 0)).wp E nt rd fr h Q := Eq.trans rfl rfl
def r11_8 : List GO := [⟨none, some 11, .move (.tmp 4)⟩,
  ⟨none, some 12, .move (.tmp 0)⟩,
  ⟨none, some 13, .call ⟨.builtin .len, ⟨[.tmp 12]⟩, ⟨[25]⟩⟩⟩,
  ⟨none, some 14, .binOp .lss 3 (.tmp 11) (.tmp 13) 3⟩]
theorem r11_8_w {E : Env} {fr : Fr} {h : Heap} {Q : Fr → Heap → Prop} : opsW E r11_8 fr h Q = opsW E [⟨none, some 11, .move (.tmp 4)⟩,
  ⟨none, some 12, .move (.tmp 0)⟩,
  ⟨none, some 13, .call ⟨.builtin .len, ⟨[.tmp 12]⟩, ⟨[25]⟩⟩⟩,
  ⟨none, some 14, .binOp .lss 3 (.tmp 11) (.tmp 13) 3⟩] fr h Q := Eq.trans rfl rfl
def s11_9 : GC := .seq (.ops r11_8) s11_7
theorem s11_9_w {E : Env} {nt : Nat} {rd : Option Nat} {fr : Fr} {h : Heap} {Q : Ex → Fr → Heap → Prop} : s11_9.wp E nt rd fr h Q = (GC.seq (.ops r11_8) s11_7).wp E nt rd fr h Q := Eq.trans rfl rfl
def s11_10 : GC := .seq (s11_9) s11_6
theorem s11_10_w {E : Env} {nt : Nat} {rd : Option Nat} {fr : Fr} {h : Heap} {Q : Ex → Fr → Heap → Prop} : s11_10.wp E nt rd fr h Q = (GC.seq (s11_9) s11_6).wp E nt rd fr h Q := Eq.trans rfl rfl
def s11_11 : GC := .loop s11_10
theorem s11_11_w {E : Env} {nt : Nat} {rd : Option Nat} {fr : Fr} {h : Heap} {Q : Ex → Fr → Heap → Prop} : s11_11.wp E nt rd fr h Q = (GC.loop s11_10).wp E nt rd fr h Q := Eq.trans rfl rfl
def s11_12 : GC := .block 0 s11_11
theorem s11_12_w {E : Env} {nt : Nat} {rd : Option Nat} {fr : Fr} {h : Heap} {Q : Ex → Fr → Heap → Prop} : s11_12.wp E nt rd fr h Q = (GC.block 0 s11_11).wp E nt rd fr h Q := Eq.trans rfl rfl
def r11_13 : List GO := [⟨none, some 4, .assign (.const (.int .i64 1))⟩]
theorem r11_13_w {E : Env} {fr : Fr} {h : Heap} {Q : Fr → Heap → Prop} : opsW E r11_13 fr h Q = opsW E [⟨none, some 4, .assign (.const (.int .i64 1))⟩] fr h Q := Eq.trans rfl rfl
def s11_14 : GC := .seq (.ops r11_13) s11_12
theorem s11_14_w {E : Env} {nt : Nat} {rd : Option Nat} {fr : Fr} {h : Heap} {Q : Ex → Fr → Heap → Prop} : s11_14.wp E nt rd fr h Q = (GC.seq (.ops r11_13) s11_12).wp E nt rd fr h Q := Eq.trans rfl rfl
def s11_15 : GC := .seq (s11_14) s11_1
theorem s11_15_w {E : Env} {nt : Nat} {rd : Option Nat} {fr : Fr} {h : Heap} {Q : Ex → Fr → Heap → Prop} : s11_15.wp E nt rd fr h Q = (GC.seq (s11_14) s11_1).wp E nt rd fr h Q := Eq.trans rfl rfl
def r11_16 : List GO := [⟨none, some 8, .move (.tmp 0)⟩,
  ⟨none, some 9, .indexAddr 25 (.tmp 8) (.const (.int .i64 0))⟩,
  ⟨none, some 10, .load 27 (.tmp 9)⟩,
  ⟨none, some 3, .assign (.tmp 10)⟩]
theorem r11_16_w {E : Env} {fr : Fr} {h : Heap} {Q : Fr → Heap → Prop} : opsW E r11_16 fr h Q = opsW E [⟨none, some 8, .move (.tmp 0)⟩,
  ⟨none, some 9, .indexAddr 25 (.tmp 8) (.const (.int .i64 0))⟩,
  ⟨none, some 10, .load 27 (.tmp 9)⟩,
  ⟨none, some 3, .assign (.tmp 10)⟩] fr h Q := Eq.trans rfl rfl
def s11_17 : GC := .seq (.ops r11_16) s11_15
theorem s11_17_w {E : Env} {nt : Nat} {rd : Option Nat} {fr : Fr} {h : Heap} {Q : Ex → Fr → Heap → Prop} : s11_17.wp E nt rd fr h Q = (GC.seq (.ops r11_16) s11_15).wp E nt rd fr h Q := Eq.trans rfl rfl
def r11_18 : List GO := [⟨none, some 2, .assign (.const (.float .f64 0))⟩]
theorem r11_18_w {E : Env} {fr : Fr} {h : Heap} {Q : Fr → Heap → Prop} : opsW E r11_18 fr h Q = opsW E [⟨none, some 2, .assign (.const (.float .f64 0))⟩] fr h Q := Eq.trans rfl rfl
def s11_19 : GC := .seq (.ops r11_18) .ret
theorem s11_19_w {E : Env} {nt : Nat} {rd : Option Nat} {fr : Fr} {h : Heap} {Q : Ex → Fr → Heap → Prop} : s11_19.wp E nt rd fr h Q = (GC.seq (.ops r11_18) .ret).wp E nt rd fr h Q := Eq.trans rfl rfl
def s11_20 : GC := .cond (.tmp 7) s11_19 .skip
theorem s11_20_w {E : Env} {nt : Nat} {rd : Option Nat} {fr : Fr} {h : Heap} {Q : Ex → Fr → Heap → Prop} : s11_20.wp E nt rd fr h Q = (GC.cond (.tmp 7) s11_19 .skip).wp E nt rd fr h Q := Eq.trans rfl rfl
def r11_21 : List GO := [⟨none, some 5, .move (.tmp 0)⟩,
  ⟨none, some 6, .call ⟨.builtin .len, ⟨[.tmp 5]⟩, ⟨[25]⟩⟩⟩,
  ⟨none, some 7, .binOp .eql 3 (.tmp 6) (.const (.int .i64 0)) 3⟩]
theorem r11_21_w {E : Env} {fr : Fr} {h : Heap} {Q : Fr → Heap → Prop} : opsW E r11_21 fr h Q = opsW E [⟨none, some 5, .move (.tmp 0)⟩,
  ⟨none, some 6, .call ⟨.builtin .len, ⟨[.tmp 5]⟩, ⟨[25]⟩⟩⟩,
  ⟨none, some 7, .binOp .eql 3 (.tmp 6) (.const (.int .i64 0)) 3⟩] fr h Q := Eq.trans rfl rfl
def s11_22 : GC := .seq (.ops r11_21) s11_20
theorem s11_22_w {E : Env} {nt : Nat} {rd : Option Nat} {fr : Fr} {h : Heap} {Q : Ex → Fr → Heap → Prop} : s11_22.wp E nt rd fr h Q = (GC.seq (.ops r11_21) s11_20).wp E nt rd fr h Q := Eq.trans rfl rfl
def s11_23 : GC := .seq (s11_22) s11_17
theorem s11_23_w {E : Env} {nt : Nat} {rd : Option Nat} {fr : Fr} {h : Heap} {Q : Ex → Fr → Heap → Prop} : s11_23.wp E nt rd fr h Q = (GC.seq (s11_22) s11_17).wp E nt rd fr h Q := Eq.trans rfl rfl
def r11_24 : List GO := [⟨none, some 2, .assign (.const (.float .f64 0))⟩]
theorem r11_24_w {E : Env} {fr : Fr} {h : Heap} {Q : Fr → Heap → Prop} : opsW E r11_24 fr h Q = opsW E [⟨none, some 2, .assign (.const (.float .f64 0))⟩] fr h Q := Eq.trans rfl rfl
def s11_25 : GC := .seq (.ops r11_24) s11_23
theorem s11_25_w {E : Env} {nt : Nat} {rd : Option Nat} {fr : Fr} {h : Heap} {Q : Ex → Fr → Heap → Prop} : s11_25.wp E nt rd fr h Q = (GC.seq (.ops r11_24) s11_23).wp E nt rd fr h Q := Eq.trans rfl rfl
theorem c11 : Tryd.f11.body.bind (clean env 24) = some s11_25 := by kernel_rfl
theorem e11 : env.funs.get 11 = some Tryd.f11 := by kernel_rfl
theorem F11 {args : List Value} {h : Heap} {K : Value → Heap → Prop} (hl : args.length = 1) (w : s11_25.wp env 24 none (setAll args 0 .leaf) h (resK env [.tmp 2] K)) : Ret env (.func 11) args h K :=
  Ret.of_body' rfl e11 c11 rfl rfl (by rw [hl]; decide) w
/-! helmsman/helmsmanref31.Same -/
def r12_0 : List GO := [⟨none, some 5, .move (.tmp 0)⟩,
  ⟨none, some 6, .call ⟨.value (.func 19), ⟨[.tmp 5]⟩, ⟨[27]⟩⟩⟩,
  ⟨none, some 7, .move (.tmp 6)⟩,
  ⟨some (7, true), some 8, .move (.tmp 1)⟩,
  ⟨some (7, true), some 9, .call ⟨.value (.func 19), ⟨[.tmp 8]⟩, ⟨[27]⟩⟩⟩,
  ⟨none, some 10, .pick (.tmp 7) (.tmp 9) (.const (.bool false))⟩,
  ⟨none, some 11, .move (.tmp 10)⟩,
  ⟨some (11, false), some 12, .move (.tmp 0)⟩,
  ⟨some (11, false), some 13, .call ⟨.value (.func 18), ⟨[.tmp 12]⟩, ⟨[27]⟩⟩⟩,
  ⟨some (11, false), some 14, .move (.tmp 1)⟩,
  ⟨some (11, false), some 15, .call ⟨.value (.func 18), ⟨[.tmp 14]⟩, ⟨[27]⟩⟩⟩,
  ⟨some (11, false), some 16, .binOp .eql 23 (.tmp 13) (.tmp 15) 23⟩,
  ⟨none, some 17, .pick (.tmp 11) (.const (.bool true)) (.tmp 16)⟩,
  ⟨none, some 4, .assign (.tmp 17)⟩]
theorem r12_0_w {E : Env} {fr : Fr} {h : Heap} {Q : Fr → Heap → Prop} : opsW E r12_0 fr h Q = opsW E [⟨none, some 5, .move (.tmp 0)⟩,
  ⟨none, some 6, .call ⟨.value (.func 19), ⟨[.tmp 5]⟩, ⟨[27]⟩⟩⟩,
  ⟨none, some 7, .move (.tmp 6)⟩,
  ⟨some (7, true), some 8, .move (.tmp 1)⟩,
  ⟨some (7, true), some 9, .call ⟨.value (.func 19), ⟨[.tmp 8]⟩, ⟨[27]⟩⟩⟩,
  ⟨none, some 10, .pick (.tmp 7) (.tmp 9) (.const (.bool false))⟩,
  ⟨none, some 11, .move (.tmp 10)⟩,
  ⟨some (11, false), some 12, .move (.tmp 0)⟩,
  ⟨some (11, false), some 13, .call ⟨.value (.func 18), ⟨[.tmp 12]⟩, ⟨[27]⟩⟩⟩,
  ⟨some (11, false), some 14, .move (.tmp 1)⟩,
  ⟨some (11, false), some 15, .call ⟨.value (.func 18), ⟨[.tmp 14]⟩, ⟨[27]⟩⟩⟩,
  ⟨some (11, false), some 16, .binOp .eql 23 (.tmp 13) (.tmp 15) 23⟩,
  ⟨none, some 17, .pick (.tmp 11) (.const (.bool true)) (.tmp 16)⟩,
  ⟨none, some 4, .assign (.tmp 17)⟩] fr h Q := Eq.trans rfl rfl
def s12_1 : GC := .seq (.ops r12_0) .ret
theorem s12_1_w {E : Env} {nt : Nat} {rd : Option Nat} {fr : Fr} {h : Heap} {Q : Ex → Fr → Heap → Prop} : s12_1.wp E nt rd fr h Q = (GC.seq (.ops r12_0) .ret).wp E nt rd fr h Q := Eq.trans rfl rfl
def r12_2 : List GO := [⟨none, some 4, .assign (.const (.bool false))⟩]
theorem r12_2_w {E : Env} {fr : Fr} {h : Heap} {Q : Fr → Heap → Prop} : opsW E r12_2 fr h Q = opsW E [⟨none, some 4, .assign (.const (.bool false))⟩] fr h Q := Eq.trans rfl rfl
def s12_3 : GC := .seq (.ops r12_2) s12_1
theorem s12_3_w {E : Env} {nt : Nat} {rd : Option Nat} {fr : Fr} {h : Heap} {Q : Ex → Fr → Heap → Prop} : s12_3.wp E nt rd fr h Q = (GC.seq (.ops r12_2) s12_1).wp E nt rd fr h Q := Eq.trans rfl rfl
theorem c12 : Tryd.f12.body.bind (clean env 18) = some s12_3 := by kernel_rfl
theorem e12 : env.funs.get 12 = some Tryd.f12 := by kernel_rfl
theorem F12 {args : List Value} {h : Heap} {K : Value → Heap → Prop} (hl : args.length = 2) (w : s12_3.wp env 18 none (setAll args 0 .leaf) h (resK env [.tmp 4] K)) : Ret env (.func 12) args h K :=
  Ret.of_body' rfl e12 c12 rfl rfl (by rw [hl]; decide) w
/-! helmsman/share.Sum -/
def r13_0 : List GO := [⟨none, some 23, .move (.tmp 3)⟩,
  ⟨none, some 2, .assign (.tmp 23)⟩]
theorem r13_0_w {E : Env} {fr : Fr} {h : Heap} {Q : Fr → Heap → Prop} : opsW E r13_0 fr h Q = opsW E [⟨none, some 23, .move (.tmp 3)⟩,
  ⟨none, some 2, .assign (.tmp 23)⟩] fr h Q := Eq.trans rfl rfl
def s13_1 : GC := .seq (.ops r13_0) .ret
theorem s13_1_w {E : Env} {nt : Nat} {rd : Option Nat} {fr : Fr} {h : Heap} {Q : Ex → Fr → Heap → Prop} : s13_1.wp E nt rd fr h Q = (GC.seq (.ops r13_0) .ret).wp E nt rd fr h Q := Eq.trans rfl rfl
def r13_2 : List GO := [⟨none, some 22, .binOp .add 3 (.tmp 15) (.const (.int .i64 1)) 3⟩,
  ⟨none, some 15, .move (.tmp 22)⟩]
theorem r13_2_w {E : Env} {fr : Fr} {h : Heap} {Q : Fr → Heap → Prop} : opsW E r13_2 fr h Q = opsW E [⟨none, some 22, .binOp .add 3 (.tmp 15) (.const (.int .i64 1)) 3⟩,
  ⟨none, some 15, .move (.tmp 22)⟩] fr h Q := Eq.trans rfl rfl
def s13_3 : GC := .ops r13_2
theorem s13_3_w {E : Env} {nt : Nat} {rd : Option Nat} {fr : Fr} {h : Heap} {Q : Ex → Fr → Heap → Prop} : s13_3.wp E nt rd fr h Q = (GC.ops r13_2).wp E nt rd fr h Q := Eq.trans rfl rfl
def r13_4 : List GO := [⟨none, some 19, .move (.tmp 3)⟩,
  ⟨none, some 20, .move (.tmp 5)⟩,
  ⟨none, some 21, .binOp .add 27 (.tmp 19) (.tmp 20) 27⟩,
  ⟨none, some 3, .assign (.tmp 21)⟩]
theorem r13_4_w {E : Env} {fr : Fr} {h : Heap} {Q : Fr → Heap → Prop} : opsW E r13_4 fr h Q = opsW E [⟨none, some 19, .move (.tmp 3)⟩,
  ⟨none, some 20, .move (.tmp 5)⟩,
  ⟨none, some 21, .binOp .add 27 (.tmp 19) (.tmp 20) 27⟩,
  ⟨none, some 3, .assign (.tmp 21)⟩] fr h Q := Eq.trans rfl rfl
def s13_5 : GC := .ops r13_4
theorem s13_5_w {E : Env} {nt : Nat} {rd : Option Nat} {fr : Fr} {h : Heap} {Q : Ex → Fr → Heap → Prop} : s13_5.wp E nt rd fr h Q = (GC.ops r13_4).wp E nt rd fr h Q := Eq.trans rfl rfl
def r13_6 : List GO := [⟨none, some 17, .indexAddr 25 (.tmp 13) (.tmp 15)⟩,
  ⟨none, some 18, .load 27 (.tmp 17)⟩,
  ⟨none, some 5, .assign (.tmp 18)⟩]
theorem r13_6_w {E : Env} {fr : Fr} {h : Heap} {Q : Fr → Heap → Prop} : opsW E r13_6 fr h Q = opsW E [⟨none, some 17, .indexAddr 25 (.tmp 13) (.tmp 15)⟩,
  ⟨none, some 18, .load 27 (.tmp 17)⟩,
  ⟨none, some 5, .assign (.tmp 18)⟩] fr h Q := Eq.trans rfl rfl
def s13_7 : GC := .seq (.ops r13_6) s13_5
theorem s13_7_w {E : Env} {nt : Nat} {rd : Option Nat} {fr : Fr} {h : Heap} {Q : Ex → Fr → Heap → Prop} : s13_7.wp E nt rd fr h Q = (GC.seq (.ops r13_6) s13_5).wp E nt rd fr h Q := Eq.trans rfl rfl
def s13_8 : GC := .seq (.block 1 s13_7) s13_3
theorem s13_8_w {E : Env} {nt : Nat} {rd : Option Nat} {fr : Fr} {h : Heap} {Q : Ex → Fr → Heap → Prop} : s13_8.wp E nt rd fr h Q = (GC.seq (.block 1 s13_7) s13_3).wp E nt rd fr h Q := Eq.trans rfl rfl
def s13_9 : GC := .cond (.tmp 16) .skip (.exit 0)
theorem s13_9_w {E : Env} {nt : Nat} {rd : Option Nat} {fr : Fr} {h : Heap} {Q : Ex → Fr → Heap → Prop} : s13_9.wp E nt rd fr h Q = (GC.cond (.tmp 16) .skip (.exit 0)).wp E nt rd fr h Q := Eq.trans rfl rfl
def s13_10 : GC := .seq (s13_9) s13_8
theorem s13_10_w {E : Env} {nt : Nat} {rd : Option Nat} {fr : Fr} {h : Heap} {Q : Ex → Fr → Heap → Prop} : s13_10.wp E nt rd fr h Q = (GC.seq (s13_9) s13_8).wp E nt rd fr h Q := Eq.trans rfl rfl
def r13_11 : List GO := [⟨none, some 16, .binOp .lss 3 (.tmp 15) (.tmp 14) 3⟩]
theorem r13_11_w {E : Env} {fr : Fr} {h : Heap} {Q : Fr → Heap → Prop} : opsW E r13_11 fr h Q = opsW E [⟨none, some 16, .binOp .lss 3 (.tmp 15) (.tmp 14) 3⟩] fr h Q := Eq.trans rfl rfl
def s13_12 : GC := .seq (.ops r13_11) s13_10
theorem s13_12_w {E : Env} {nt : Nat} {rd : Option Nat} {fr : Fr} {h : Heap} {Q : Ex → Fr → Heap → Prop} : s13_12.wp E nt rd fr h Q = (GC.seq (.ops r13_11) s13_10).wp E nt rd fr h Q := Eq.trans rfl rfl
def s13_13 : GC := .loop s13_12
theorem s13_13_w {E : Env} {nt : Nat} {rd : Option Nat} {fr : Fr} {h : Heap} {Q : Ex → Fr → Heap → Prop} : s13_13.wp E nt rd fr h Q = (GC.loop s13_12).wp E nt rd fr h Q := Eq.trans rfl rfl
def s13_14 : GC := .block 0 s13_13
theorem s13_14_w {E : Env} {nt : Nat} {rd : Option Nat} {fr : Fr} {h : Heap} {Q : Ex → Fr → Heap → Prop} : s13_14.wp E nt rd fr h Q = (GC.block 0 s13_13).wp E nt rd fr h Q := Eq.trans rfl rfl
def r13_15 : List GO := [⟨none, some 12, .move (.tmp 0)⟩,
  ⟨none, some 13, .slice 25 (.tmp 12) (some (.const (.int .i64 1))) none none⟩,
  ⟨none, some 14, .call ⟨.builtin .len, ⟨[.tmp 13]⟩, ⟨[25]⟩⟩⟩,
  ⟨none, some 15, .move (.const (.int .i64 0))⟩]
theorem r13_15_w {E : Env} {fr : Fr} {h : Heap} {Q : Fr → Heap → Prop} : opsW E r13_15 fr h Q = opsW E [⟨none, some 12, .move (.tmp 0)⟩,
  ⟨none, some 13, .slice 25 (.tmp 12) (some (.const (.int .i64 1))) none none⟩,
  ⟨none, some 14, .call ⟨.builtin .len, ⟨[.tmp 13]⟩, ⟨[25]⟩⟩⟩,
  ⟨none, some 15, .move (.const (.int .i64 0))⟩] fr h Q := Eq.trans rfl rfl
def s13_16 : GC := .seq (.ops r13_15) s13_14
theorem s13_16_w {E : Env} {nt : Nat} {rd : Option Nat} {fr : Fr} {h : Heap} {Q : Ex → Fr → Heap → Prop} : s13_16.wp E nt rd fr h Q = (GC.seq (.ops r13_15) s13_14).wp E nt rd fr h Q := Eq.trans rfl rfl
def s13_17 : GC := .seq (s13_16) s13_1
theorem s13_17_w {E : Env} {nt : Nat} {rd : Option Nat} {fr : Fr} {h : Heap} {Q : Ex → Fr → Heap → Prop} : s13_17.wp E nt rd fr h Q = (GC.seq (s13_16) s13_1).wp E nt rd fr h Q := Eq.trans rfl rfl
def r13_18 : List GO := [⟨none, some 9, .move (.tmp 0)⟩,
  ⟨none, some 10, .indexAddr 25 (.tmp 9) (.const (.int .i64 0))⟩,
  ⟨none, some 11, .load 27 (.tmp 10)⟩,
  ⟨none, some 3, .assign (.tmp 11)⟩]
theorem r13_18_w {E : Env} {fr : Fr} {h : Heap} {Q : Fr → Heap → Prop} : opsW E r13_18 fr h Q = opsW E [⟨none, some 9, .move (.tmp 0)⟩,
  ⟨none, some 10, .indexAddr 25 (.tmp 9) (.const (.int .i64 0))⟩,
  ⟨none, some 11, .load 27 (.tmp 10)⟩,
  ⟨none, some 3, .assign (.tmp 11)⟩] fr h Q := Eq.trans rfl rfl
def s13_19 : GC := .seq (.ops r13_18) s13_17
theorem s13_19_w {E : Env} {nt : Nat} {rd : Option Nat} {fr : Fr} {h : Heap} {Q : Ex → Fr → Heap → Prop} : s13_19.wp E nt rd fr h Q = (GC.seq (.ops r13_18) s13_17).wp E nt rd fr h Q := Eq.trans rfl rfl
def r13_20 : List GO := [⟨none, some 2, .assign (.const (.float .f64 0))⟩]
theorem r13_20_w {E : Env} {fr : Fr} {h : Heap} {Q : Fr → Heap → Prop} : opsW E r13_20 fr h Q = opsW E [⟨none, some 2, .assign (.const (.float .f64 0))⟩] fr h Q := Eq.trans rfl rfl
def s13_21 : GC := .seq (.ops r13_20) .ret
theorem s13_21_w {E : Env} {nt : Nat} {rd : Option Nat} {fr : Fr} {h : Heap} {Q : Ex → Fr → Heap → Prop} : s13_21.wp E nt rd fr h Q = (GC.seq (.ops r13_20) .ret).wp E nt rd fr h Q := Eq.trans rfl rfl
def s13_22 : GC := .cond (.tmp 8) s13_21 .skip
theorem s13_22_w {E : Env} {nt : Nat} {rd : Option Nat} {fr : Fr} {h : Heap} {Q : Ex → Fr → Heap → Prop} : s13_22.wp E nt rd fr h Q = (GC.cond (.tmp 8) s13_21 .skip).wp E nt rd fr h Q := Eq.trans rfl rfl
def r13_23 : List GO := [⟨none, some 6, .move (.tmp 0)⟩,
  ⟨none, some 7, .call ⟨.builtin .len, ⟨[.tmp 6]⟩, ⟨[25]⟩⟩⟩,
  ⟨none, some 8, .binOp .eql 3 (.tmp 7) (.const (.int .i64 0)) 3⟩]
theorem r13_23_w {E : Env} {fr : Fr} {h : Heap} {Q : Fr → Heap → Prop} : opsW E r13_23 fr h Q = opsW E [⟨none, some 6, .move (.tmp 0)⟩,
  ⟨none, some 7, .call ⟨.builtin .len, ⟨[.tmp 6]⟩, ⟨[25]⟩⟩⟩,
  ⟨none, some 8, .binOp .eql 3 (.tmp 7) (.const (.int .i64 0)) 3⟩] fr h Q := Eq.trans rfl rfl
def s13_24 : GC := .seq (.ops r13_23) s13_22
theorem s13_24_w {E : Env} {nt : Nat} {rd : Option Nat} {fr : Fr} {h : Heap} {Q : Ex → Fr → Heap → Prop} : s13_24.wp E nt rd fr h Q = (GC.seq (.ops r13_23) s13_22).wp E nt rd fr h Q := Eq.trans rfl rfl
def s13_25 : GC := .seq (s13_24) s13_19
theorem s13_25_w {E : Env} {nt : Nat} {rd : Option Nat} {fr : Fr} {h : Heap} {Q : Ex → Fr → Heap → Prop} : s13_25.wp E nt rd fr h Q = (GC.seq (s13_24) s13_19).wp E nt rd fr h Q := Eq.trans rfl rfl
def r13_26 : List GO := [⟨none, some 2, .assign (.const (.float .f64 0))⟩]
theorem r13_26_w {E : Env} {fr : Fr} {h : Heap} {Q : Fr → Heap → Prop} : opsW E r13_26 fr h Q = opsW E [⟨none, some 2, .assign (.const (.float .f64 0))⟩] fr h Q := Eq.trans rfl rfl
def s13_27 : GC := .seq (.ops r13_26) s13_25
theorem s13_27_w {E : Env} {nt : Nat} {rd : Option Nat} {fr : Fr} {h : Heap} {Q : Ex → Fr → Heap → Prop} : s13_27.wp E nt rd fr h Q = (GC.seq (.ops r13_26) s13_25).wp E nt rd fr h Q := Eq.trans rfl rfl
theorem c13 : Tryd.f13.body.bind (clean env 24) = some s13_27 := by kernel_rfl
theorem e13 : env.funs.get 13 = some Tryd.f13 := by kernel_rfl
theorem F13 {args : List Value} {h : Heap} {K : Value → Heap → Prop} (hl : args.length = 1) (w : s13_27.wp env 24 none (setAll args 0 .leaf) h (resK env [.tmp 2] K)) : Ret env (.func 13) args h K :=
  Ret.of_body' rfl e13 c13 rfl rfl (by rw [hl]; decide) w
/-! helmsman/share.Mean -/
def r14_0 : List GO := [⟨none, some 3, .move (.tmp 0)⟩,
  ⟨none, some 4, .call ⟨.value (.func 13), ⟨[.tmp 3]⟩, ⟨[25]⟩⟩⟩,
  ⟨none, some 5, .move (.tmp 0)⟩,
  ⟨none, some 6, .call ⟨.builtin .len, ⟨[.tmp 5]⟩, ⟨[25]⟩⟩⟩,
  ⟨none, some 7, .convert 3 27 (.tmp 6)⟩,
  ⟨none, some 8, .call ⟨.value (.func 17), ⟨[.tmp 4, .tmp 7]⟩, ⟨[27, 27]⟩⟩⟩,
  ⟨none, some 2, .assign (.tmp 8)⟩]
theorem r14_0_w {E : Env} {fr : Fr} {h : Heap} {Q : Fr → Heap → Prop} : opsW E r14_0 fr h Q = opsW E [⟨none, some 3, .move (.tmp 0)⟩,
  ⟨none, some 4, .call ⟨.value (.func 13), ⟨[.tmp 3]⟩, ⟨[25]⟩⟩⟩,
  ⟨none, some 5, .move (.tmp 0)⟩,
  ⟨none, some 6, .call ⟨.builtin .len, ⟨[.tmp 5]⟩, ⟨[25]⟩⟩⟩,
  ⟨none, some 7, .convert 3 27 (.tmp 6)⟩,
  ⟨none, some 8, .call ⟨.value (.func 17), ⟨[.tmp 4, .tmp 7]⟩, ⟨[27, 27]⟩⟩⟩,
  ⟨none, some 2, .assign (.tmp 8)⟩] fr h Q := Eq.trans rfl rfl
def s14_1 : GC := .seq (.ops r14_0) .ret
theorem s14_1_w {E : Env} {nt : Nat} {rd : Option Nat} {fr : Fr} {h : Heap} {Q : Ex → Fr → Heap → Prop} : s14_1.wp E nt rd fr h Q = (GC.seq (.ops r14_0) .ret).wp E nt rd fr h Q := Eq.trans rfl rfl
def r14_2 : List GO := [⟨none, some 2, .assign (.const (.float .f64 0))⟩]
theorem r14_2_w {E : Env} {fr : Fr} {h : Heap} {Q : Fr → Heap → Prop} : opsW E r14_2 fr h Q = opsW E [⟨none, some 2, .assign (.const (.float .f64 0))⟩] fr h Q := Eq.trans rfl rfl
def s14_3 : GC := .seq (.ops r14_2) s14_1
theorem s14_3_w {E : Env} {nt : Nat} {rd : Option Nat} {fr : Fr} {h : Heap} {Q : Ex → Fr → Heap → Prop} : s14_3.wp E nt rd fr h Q = (GC.seq (.ops r14_2) s14_1).wp E nt rd fr h Q := Eq.trans rfl rfl
theorem c14 : Tryd.f14.body.bind (clean env 9) = some s14_3 := by kernel_rfl
theorem e14 : env.funs.get 14 = some Tryd.f14 := by kernel_rfl
theorem F14 {args : List Value} {h : Heap} {K : Value → Heap → Prop} (hl : args.length = 1) (w : s14_3.wp env 9 none (setAll args 0 .leaf) h (resK env [.tmp 2] K)) : Ret env (.func 14) args h K :=
  Ret.of_body' rfl e14 c14 rfl rfl (by rw [hl]; decide) w
/-! helmsman/share.Jain -/
def r15_0 : List GO := [⟨none, some 22, .move (.tmp 6)⟩,
  ⟨none, some 23, .move (.tmp 6)⟩,
  ⟨none, some 24, .binOp .mul 27 (.tmp 22) (.tmp 23) 27⟩,
  ⟨none, some 25, .move (.tmp 0)⟩,
  ⟨none, some 26, .call ⟨.builtin .len, ⟨[.tmp 25]⟩, ⟨[25]⟩⟩⟩,
  ⟨none, some 27, .convert 3 27 (.tmp 26)⟩,
  ⟨none, some 28, .move (.tmp 3)⟩,
  ⟨none, some 29, .call ⟨.value (.func 13), ⟨[.tmp 28]⟩, ⟨[25]⟩⟩⟩,
  ⟨none, some 30, .binOp .mul 27 (.tmp 27) (.tmp 29) 27⟩,
  ⟨none, some 31, .call ⟨.value (.func 17), ⟨[.tmp 24, .tmp 30]⟩, ⟨[27, 27]⟩⟩⟩,
  ⟨none, some 2, .assign (.tmp 31)⟩]
theorem r15_0_w {E : Env} {fr : Fr} {h : Heap} {Q : Fr → Heap → Prop} : opsW E r15_0 fr h Q = opsW E [⟨none, some 22, .move (.tmp 6)⟩,
  ⟨none, some 23, .move (.tmp 6)⟩,
  ⟨none, some 24, .binOp .mul 27 (.tmp 22) (.tmp 23) 27⟩,
  ⟨none, some 25, .move (.tmp 0)⟩,
  ⟨none, some 26, .call ⟨.builtin .len, ⟨[.tmp 25]⟩, ⟨[25]⟩⟩⟩,
  ⟨none, some 27, .convert 3 27 (.tmp 26)⟩,
  ⟨none, some 28, .move (.tmp 3)⟩,
  ⟨none, some 29, .call ⟨.value (.func 13), ⟨[.tmp 28]⟩, ⟨[25]⟩⟩⟩,
  ⟨none, some 30, .binOp .mul 27 (.tmp 27) (.tmp 29) 27⟩,
  ⟨none, some 31, .call ⟨.value (.func 17), ⟨[.tmp 24, .tmp 30]⟩, ⟨[27, 27]⟩⟩⟩,
  ⟨none, some 2, .assign (.tmp 31)⟩] fr h Q := Eq.trans rfl rfl
def s15_1 : GC := .seq (.ops r15_0) .ret
theorem s15_1_w {E : Env} {nt : Nat} {rd : Option Nat} {fr : Fr} {h : Heap} {Q : Ex → Fr → Heap → Prop} : s15_1.wp E nt rd fr h Q = (GC.seq (.ops r15_0) .ret).wp E nt rd fr h Q := Eq.trans rfl rfl
def r15_2 : List GO := [⟨none, some 20, .move (.tmp 0)⟩,
  ⟨none, some 21, .call ⟨.value (.func 13), ⟨[.tmp 20]⟩, ⟨[25]⟩⟩⟩,
  ⟨none, some 6, .assign (.tmp 21)⟩]
theorem r15_2_w {E : Env} {fr : Fr} {h : Heap} {Q : Fr → Heap → Prop} : opsW E r15_2 fr h Q = opsW E [⟨none, some 20, .move (.tmp 0)⟩,
  ⟨none, some 21, .call ⟨.value (.func 13), ⟨[.tmp 20]⟩, ⟨[25]⟩⟩⟩,
  ⟨none, some 6, .assign (.tmp 21)⟩] fr h Q := Eq.trans rfl rfl
def s15_3 : GC := .seq (.ops r15_2) s15_1
theorem s15_3_w {E : Env} {nt : Nat} {rd : Option Nat} {fr : Fr} {h : Heap} {Q : Ex → Fr → Heap → Prop} : s15_3.wp E nt rd fr h Q = (GC.seq (.ops r15_2) s15_1).wp E nt rd fr h Q := Eq.trans rfl rfl
def r15_4 : List GO := [⟨none, some 19, .binOp .add 3 (.tmp 9) (.const (.int .i64 1)) 3⟩,
  ⟨none, some 9, .move (.tmp 19)⟩]
theorem r15_4_w {E : Env} {fr : Fr} {h : Heap} {Q : Fr → Heap → Prop} : opsW E r15_4 fr h Q = opsW E [⟨none, some 19, .binOp .add 3 (.tmp 9) (.const (.int .i64 1)) 3⟩,
  ⟨none, some 9, .move (.tmp 19)⟩] fr h Q := Eq.trans rfl rfl
def s15_5 : GC := .ops r15_4
theorem s15_5_w {E : Env} {nt : Nat} {rd : Option Nat} {fr : Fr} {h : Heap} {Q : Ex → Fr → Heap → Prop} : s15_5.wp E nt rd fr h Q = (GC.ops r15_4).wp E nt rd fr h Q := Eq.trans rfl rfl
def r15_6 : List GO := [⟨none, some 13, .move (.tmp 3)⟩,
  ⟨none, some 14, .move (.tmp 5)⟩,
  ⟨none, some 15, .move (.tmp 5)⟩,
  ⟨none, some 16, .binOp .mul 27 (.tmp 14) (.tmp 15) 27⟩,
  ⟨none, some 17, .buildSlice 25 1 ⟨[(0, .tmp 16)]⟩⟩,
  ⟨none, some 18, .call ⟨.builtin .append, ⟨[.tmp 13, .tmp 17]⟩, ⟨[25, 25]⟩⟩⟩,
  ⟨none, some 3, .assign (.tmp 18)⟩]
theorem r15_6_w {E : Env} {fr : Fr} {h : Heap} {Q : Fr → Heap → Prop} : opsW E r15_6 fr h Q = opsW E [⟨none, some 13, .move (.tmp 3)⟩,
  ⟨none, some 14, .move (.tmp 5)⟩,
  ⟨none, some 15, .move (.tmp 5)⟩,
  ⟨none, some 16, .binOp .mul 27 (.tmp 14) (.tmp 15) 27⟩,
  ⟨none, some 17, .buildSlice 25 1 ⟨[(0, .tmp 16)]⟩⟩,
  ⟨none, some 18, .call ⟨.builtin .append, ⟨[.tmp 13, .tmp 17]⟩, ⟨[25, 25]⟩⟩⟩,
  ⟨none, some 3, .assign (.tmp 18)⟩] fr h Q := Eq.trans rfl rfl
def s15_7 : GC := .ops r15_6
theorem s15_7_w {E : Env} {nt : Nat} {rd : Option Nat} {fr : Fr} {h : Heap} {Q : Ex → Fr → Heap → Prop} : s15_7.wp E nt rd fr h Q = (GC.ops r15_6).wp E nt rd fr h Q := Eq.trans rfl rfl
def r15_8 : List GO := [⟨none, some 11, .indexAddr 25 (.tmp 7) (.tmp 9)⟩,
  ⟨none, some 12, .load 27 (.tmp 11)⟩,
  ⟨none, some 5, .assign (.tmp 12)⟩]
theorem r15_8_w {E : Env} {fr : Fr} {h : Heap} {Q : Fr → Heap → Prop} : opsW E r15_8 fr h Q = opsW E [⟨none, some 11, .indexAddr 25 (.tmp 7) (.tmp 9)⟩,
  ⟨none, some 12, .load 27 (.tmp 11)⟩,
  ⟨none, some 5, .assign (.tmp 12)⟩] fr h Q := Eq.trans rfl rfl
def s15_9 : GC := .seq (.ops r15_8) s15_7
theorem s15_9_w {E : Env} {nt : Nat} {rd : Option Nat} {fr : Fr} {h : Heap} {Q : Ex → Fr → Heap → Prop} : s15_9.wp E nt rd fr h Q = (GC.seq (.ops r15_8) s15_7).wp E nt rd fr h Q := Eq.trans rfl rfl
def s15_10 : GC := .seq (.block 1 s15_9) s15_5
theorem s15_10_w {E : Env} {nt : Nat} {rd : Option Nat} {fr : Fr} {h : Heap} {Q : Ex → Fr → Heap → Prop} : s15_10.wp E nt rd fr h Q = (GC.seq (.block 1 s15_9) s15_5).wp E nt rd fr h Q := Eq.trans rfl rfl
def s15_11 : GC := .cond (.tmp 10) .skip (.exit 0)
theorem s15_11_w {E : Env} {nt : Nat} {rd : Option Nat} {fr : Fr} {h : Heap} {Q : Ex → Fr → Heap → Prop} : s15_11.wp E nt rd fr h Q = (GC.cond (.tmp 10) .skip (.exit 0)).wp E nt rd fr h Q := Eq.trans rfl rfl
def s15_12 : GC := .seq (s15_11) s15_10
theorem s15_12_w {E : Env} {nt : Nat} {rd : Option Nat} {fr : Fr} {h : Heap} {Q : Ex → Fr → Heap → Prop} : s15_12.wp E nt rd fr h Q = (GC.seq (s15_11) s15_10).wp E nt rd fr h Q := Eq.trans rfl rfl
def r15_13 : List GO := [⟨none, some 10, .binOp .lss 3 (.tmp 9) (.tmp 8) 3⟩]
theorem r15_13_w {E : Env} {fr : Fr} {h : Heap} {Q : Fr → Heap → Prop} : opsW E r15_13 fr h Q = opsW E [⟨none, some 10, .binOp .lss 3 (.tmp 9) (.tmp 8) 3⟩] fr h Q := Eq.trans rfl rfl
def s15_14 : GC := .seq (.ops r15_13) s15_12
theorem s15_14_w {E : Env} {nt : Nat} {rd : Option Nat} {fr : Fr} {h : Heap} {Q : Ex → Fr → Heap → Prop} : s15_14.wp E nt rd fr h Q = (GC.seq (.ops r15_13) s15_12).wp E nt rd fr h Q := Eq.trans rfl rfl
def s15_15 : GC := .loop s15_14
theorem s15_15_w {E : Env} {nt : Nat} {rd : Option Nat} {fr : Fr} {h : Heap} {Q : Ex → Fr → Heap → Prop} : s15_15.wp E nt rd fr h Q = (GC.loop s15_14).wp E nt rd fr h Q := Eq.trans rfl rfl
def s15_16 : GC := .block 0 s15_15
theorem s15_16_w {E : Env} {nt : Nat} {rd : Option Nat} {fr : Fr} {h : Heap} {Q : Ex → Fr → Heap → Prop} : s15_16.wp E nt rd fr h Q = (GC.block 0 s15_15).wp E nt rd fr h Q := Eq.trans rfl rfl
def r15_17 : List GO := [⟨none, some 7, .move (.tmp 0)⟩,
  ⟨none, some 8, .call ⟨.builtin .len, ⟨[.tmp 7]⟩, ⟨[25]⟩⟩⟩,
  ⟨none, some 9, .move (.const (.int .i64 0))⟩]
theorem r15_17_w {E : Env} {fr : Fr} {h : Heap} {Q : Fr → Heap → Prop} : opsW E r15_17 fr h Q = opsW E [⟨none, some 7, .move (.tmp 0)⟩,
  ⟨none, some 8, .call ⟨.builtin .len, ⟨[.tmp 7]⟩, ⟨[25]⟩⟩⟩,
  ⟨none, some 9, .move (.const (.int .i64 0))⟩] fr h Q := Eq.trans rfl rfl
def s15_18 : GC := .seq (.ops r15_17) s15_16
theorem s15_18_w {E : Env} {nt : Nat} {rd : Option Nat} {fr : Fr} {h : Heap} {Q : Ex → Fr → Heap → Prop} : s15_18.wp E nt rd fr h Q = (GC.seq (.ops r15_17) s15_16).wp E nt rd fr h Q := Eq.trans rfl rfl
def s15_19 : GC := .seq (s15_18) s15_3
theorem s15_19_w {E : Env} {nt : Nat} {rd : Option Nat} {fr : Fr} {h : Heap} {Q : Ex → Fr → Heap → Prop} : s15_19.wp E nt rd fr h Q = (GC.seq (s15_18) s15_3).wp E nt rd fr h Q := Eq.trans rfl rfl
def r15_20 : List GO := [⟨none, some 3, .assign (.const (.slice none 0 0))⟩]
theorem r15_20_w {E : Env} {fr : Fr} {h : Heap} {Q : Fr → Heap → Prop} : opsW E r15_20 fr h Q = opsW E [⟨none, some 3, .assign (.const (.slice none 0 0))⟩] fr h Q := Eq.trans rfl rfl
def s15_21 : GC := .seq (.ops r15_20) s15_19
theorem s15_21_w {E : Env} {nt : Nat} {rd : Option Nat} {fr : Fr} {h : Heap} {Q : Ex → Fr → Heap → Prop} : s15_21.wp E nt rd fr h Q = (GC.seq (.ops r15_20) s15_19).wp E nt rd fr h Q := Eq.trans rfl rfl
def r15_22 : List GO := [⟨none, some 2, .assign (.const (.float .f64 0))⟩]
theorem r15_22_w {E : Env} {fr : Fr} {h : Heap} {Q : Fr → Heap → Prop} : opsW E r15_22 fr h Q = opsW E [⟨none, some 2, .assign (.const (.float .f64 0))⟩] fr h Q := Eq.trans rfl rfl
def s15_23 : GC := .seq (.ops r15_22) s15_21
theorem s15_23_w {E : Env} {nt : Nat} {rd : Option Nat} {fr : Fr} {h : Heap} {Q : Ex → Fr → Heap → Prop} : s15_23.wp E nt rd fr h Q = (GC.seq (.ops r15_22) s15_21).wp E nt rd fr h Q := Eq.trans rfl rfl
theorem c15 : Tryd.f15.body.bind (clean env 32) = some s15_23 := by kernel_rfl
theorem e15 : env.funs.get 15 = some Tryd.f15 := by kernel_rfl
theorem F15 {args : List Value} {h : Heap} {K : Value → Heap → Prop} (hl : args.length = 1) (w : s15_23.wp env 32 none (setAll args 0 .leaf) h (resK env [.tmp 2] K)) : Ret env (.func 15) args h K :=
  Ret.of_body' rfl e15 c15 rfl rfl (by rw [hl]; decide) w
/-! helmsman/helmsmanref31.Jain -/
def r16_0 : List GO := [⟨none, some 40, .move (.tmp 7)⟩,
  ⟨none, some 41, .move (.tmp 8)⟩,
  ⟨none, some 42, .binOp .quo 27 (.tmp 40) (.tmp 41) 27⟩,
  ⟨none, some 2, .assign (.tmp 42)⟩]
theorem r16_0_w {E : Env} {fr : Fr} {h : Heap} {Q : Fr → Heap → Prop} : opsW E r16_0 fr h Q = opsW E [⟨none, some 40, .move (.tmp 7)⟩,
  ⟨none, some 41, .move (.tmp 8)⟩,
  ⟨none, some 42, .binOp .quo 27 (.tmp 40) (.tmp 41) 27⟩,
  ⟨none, some 2, .assign (.tmp 42)⟩] fr h Q := Eq.trans rfl rfl
def s16_1 : GC := .seq (.ops r16_0) .ret
theorem s16_1_w {E : Env} {nt : Nat} {rd : Option Nat} {fr : Fr} {h : Heap} {Q : Ex → Fr → Heap → Prop} : s16_1.wp E nt rd fr h Q = (GC.seq (.ops r16_0) .ret).wp E nt rd fr h Q := Eq.trans rfl rfl
def r16_2 : List GO := [⟨none, some 35, .move (.tmp 0)⟩,
  ⟨none, some 36, .call ⟨.builtin .len, ⟨[.tmp 35]⟩, ⟨[25]⟩⟩⟩,
  ⟨none, some 37, .convert 3 27 (.tmp 36)⟩,
  ⟨none, some 38, .move (.tmp 3)⟩,
  ⟨none, some 39, .binOp .mul 27 (.tmp 37) (.tmp 38) 27⟩,
  ⟨none, some 8, .assign (.tmp 39)⟩]
theorem r16_2_w {E : Env} {fr : Fr} {h : Heap} {Q : Fr → Heap → Prop} : opsW E r16_2 fr h Q = opsW E [⟨none, some 35, .move (.tmp 0)⟩,
  ⟨none, some 36, .call ⟨.builtin .len, ⟨[.tmp 35]⟩, ⟨[25]⟩⟩⟩,
  ⟨none, some 37, .convert 3 27 (.tmp 36)⟩,
  ⟨none, some 38, .move (.tmp 3)⟩,
  ⟨none, some 39, .binOp .mul 27 (.tmp 37) (.tmp 38) 27⟩,
  ⟨none, some 8, .assign (.tmp 39)⟩] fr h Q := Eq.trans rfl rfl
def s16_3 : GC := .seq (.ops r16_2) s16_1
theorem s16_3_w {E : Env} {nt : Nat} {rd : Option Nat} {fr : Fr} {h : Heap} {Q : Ex → Fr → Heap → Prop} : s16_3.wp E nt rd fr h Q = (GC.seq (.ops r16_2) s16_1).wp E nt rd fr h Q := Eq.trans rfl rfl
def r16_4 : List GO := [⟨none, some 32, .move (.tmp 6)⟩,
  ⟨none, some 33, .move (.tmp 6)⟩,
  ⟨none, some 34, .binOp .mul 27 (.tmp 32) (.tmp 33) 27⟩,
  ⟨none, some 7, .assign (.tmp 34)⟩]
theorem r16_4_w {E : Env} {fr : Fr} {h : Heap} {Q : Fr → Heap → Prop} : opsW E r16_4 fr h Q = opsW E [⟨none, some 32, .move (.tmp 6)⟩,
  ⟨none, some 33, .move (.tmp 6)⟩,
  ⟨none, some 34, .binOp .mul 27 (.tmp 32) (.tmp 33) 27⟩,
  ⟨none, some 7, .assign (.tmp 34)⟩] fr h Q := Eq.trans rfl rfl
def s16_5 : GC := .seq (.ops r16_4) s16_3
theorem s16_5_w {E : Env} {nt : Nat} {rd : Option Nat} {fr : Fr} {h : Heap} {Q : Ex → Fr → Heap → Prop} : s16_5.wp E nt rd fr h Q = (GC.seq (.ops r16_4) s16_3).wp E nt rd fr h Q := Eq.trans rfl rfl
def r16_6 : List GO := [⟨none, some 30, .move (.tmp 0)⟩,
  ⟨none, some 31, .call ⟨.value (.func 11), ⟨[.tmp 30]⟩, ⟨[25]⟩⟩⟩,
  ⟨none, some 6, .assign (.tmp 31)⟩]
theorem r16_6_w {E : Env} {fr : Fr} {h : Heap} {Q : Fr → Heap → Prop} : opsW E r16_6 fr h Q = opsW E [⟨none, some 30, .move (.tmp 0)⟩,
  ⟨none, some 31, .call ⟨.value (.func 11), ⟨[.tmp 30]⟩, ⟨[25]⟩⟩⟩,
  ⟨none, some 6, .assign (.tmp 31)⟩] fr h Q := Eq.trans rfl rfl
def s16_7 : GC := .seq (.ops r16_6) s16_5
theorem s16_7_w {E : Env} {nt : Nat} {rd : Option Nat} {fr : Fr} {h : Heap} {Q : Ex → Fr → Heap → Prop} : s16_7.wp E nt rd fr h Q = (GC.seq (.ops r16_6) s16_5).wp E nt rd fr h Q := Eq.trans rfl rfl
def r16_8 : List GO := [⟨none, some 13, .move (.tmp 4)⟩,
  ⟨none, some 14, .binOp .add 3 (.tmp 13) (.const (.int .i64 1)) 3⟩,
  ⟨none, some 4, .assign (.tmp 14)⟩]
theorem r16_8_w {E : Env} {fr : Fr} {h : Heap} {Q : Fr → Heap → Prop} : opsW E r16_8 fr h Q = opsW E [⟨none, some 13, .move (.tmp 4)⟩,
  ⟨none, some 14, .binOp .add 3 (.tmp 13) (.const (.int .i64 1)) 3⟩,
  ⟨none, some 4, .assign (.tmp 14)⟩] fr h Q := Eq.trans rfl rfl
def s16_9 : GC := .ops r16_8
theorem s16_9_w {E : Env} {nt : Nat} {rd : Option Nat} {fr : Fr} {h : Heap} {Q : Ex → Fr → Heap → Prop} : s16_9.wp E nt rd fr h Q = (GC.ops r16_8).wp E nt rd fr h Q := Eq.trans rfl rfl
def r16_10 : List GO := [⟨none, some 26, .move (.tmp 5)⟩,
  ⟨none, some 3, .assign (.tmp 26)⟩]
theorem r16_10_w {E : Env} {fr : Fr} {h : Heap} {Q : Fr → Heap → Prop} : opsW E r16_10 fr h Q = opsW E [⟨none, some 26, .move (.tmp 5)⟩,
  ⟨none, some 3, .assign (.tmp 26)⟩] fr h Q := Eq.trans rfl rfl
def s16_11 : GC := .ops r16_10
theorem s16_11_w {E : Env} {nt : Nat} {rd : Option Nat} {fr : Fr} {h : Heap} {Q : Ex → Fr → Heap → Prop} : s16_11.wp E nt rd fr h Q = (GC.ops r16_10).wp E nt rd fr h Q := Eq.trans rfl rfl
def r16_12 : List GO := [⟨none, some 27, .move (.tmp 3)⟩,
  ⟨none, some 28, .move (.tmp 5)⟩,
  ⟨none, some 29, .binOp .add 27 (.tmp 27) (.tmp 28) 27⟩,
  ⟨none, some 3, .assign (.tmp 29)⟩]
theorem r16_12_w {E : Env} {fr : Fr} {h : Heap} {Q : Fr → Heap → Prop} : opsW E r16_12 fr h Q = opsW E [⟨none, some 27, .move (.tmp 3)⟩,
  ⟨none, some 28, .move (.tmp 5)⟩,
  ⟨none, some 29, .binOp .add 27 (.tmp 27) (.tmp 28) 27⟩,
  ⟨none, some 3, .assign (.tmp 29)⟩] fr h Q := Eq.trans rfl rfl
def s16_13 : GC := .ops r16_12
theorem s16_13_w {E : Env} {nt : Nat} {rd : Option Nat} {fr : Fr} {h : Heap} {Q : Ex → Fr → Heap → Prop} : s16_13.wp E nt rd fr h Q = (GC.ops r16_12).wp E nt rd fr h Q := Eq.trans rfl rfl
def s16_14 : GC := .cond (.tmp 25) s16_11 s16_13
theorem s16_14_w {E : Env} {nt : Nat} {rd : Option Nat} {fr : Fr} {h : Heap} {Q : Ex → Fr → Heap → Prop} : s16_14.wp E nt rd fr h Q = (GC.cond (.tmp 25) s16_11 s16_13).wp E nt rd fr h Q := Eq.trans rfl rfl
def r16_15 : List GO := [⟨none, some 24, .move (.tmp 4)⟩,
  ⟨none, some 25, .binOp .eql 3 (.tmp 24) (.const (.int .i64 0)) 3⟩]
theorem r16_15_w {E : Env} {fr : Fr} {h : Heap} {Q : Fr → Heap → Prop} : opsW E r16_15 fr h Q = opsW E [⟨none, some 24, .move (.tmp 4)⟩,
  ⟨none, some 25, .binOp .eql 3 (.tmp 24) (.const (.int .i64 0)) 3⟩] fr h Q := Eq.trans rfl rfl
def s16_16 : GC := .seq (.ops r16_15) s16_14
theorem s16_16_w {E : Env} {nt : Nat} {rd : Option Nat} {fr : Fr} {h : Heap} {Q : Ex → Fr → Heap → Prop} : s16_16.wp E nt rd fr h Q = (GC.seq (.ops r16_15) s16_14).wp E nt rd fr h Q := Eq.trans rfl rfl
def p16_17 : List (GO × List GO) := [(⟨none, some 15, .move (.tmp 0)⟩, []),
  (⟨none, some 16, .move (.tmp 4)⟩, []),
  (⟨none, some 17, .indexAddr 25 (.tmp 15) (.tmp 16)⟩, []),
  (⟨none, some 18, .load 27 (.tmp 17)⟩, []),
  (⟨none, some 19, .move (.tmp 0)⟩, []),
  (⟨none, some 20, .move (.tmp 4)⟩, []),
  (⟨none, some 21, .indexAddr 25 (.tmp 19) (.tmp 20)⟩, []),
  (⟨none, some 22, .load 27 (.tmp 21)⟩, []),
  (⟨none, some 23, .binOp .mul 27 (.tmp 18) (.tmp 22) 27⟩, []),
  (⟨none, some 5, .assign (.tmp 23)⟩, [])]
theorem p16_17_w {E : Env} {fr : Fr} {h : Heap} {Q : Fr → Heap → Prop} : planW E p16_17 fr h Q = planW E [(⟨none, some 15, .move (.tmp 0)⟩, []),
  (⟨none, some 16, .move (.tmp 4)⟩, []),
  (⟨none, some 17, .indexAddr 25 (.tmp 15) (.tmp 16)⟩, []),
  (⟨none, some 18, .load 27 (.tmp 17)⟩, []),
  (⟨none, some 19, .move (.tmp 0)⟩, []),
  (⟨none, some 20, .move (.tmp 4)⟩, []),
  (⟨none, some 21, .indexAddr 25 (.tmp 19) (.tmp 20)⟩, []),
  (⟨none, some 22, .load 27 (.tmp 21)⟩, []),
  (⟨none, some 23, .binOp .mul 27 (.tmp 18) (.tmp 22) 27⟩, []),
  (⟨none, some 5, .assign (.tmp 23)⟩, [])] fr h Q := Eq.trans rfl rfl
def s16_18 : GC := .seq (.plan p16_17) s16_16
theorem s16_18_w {E : Env} {nt : Nat} {rd : Option Nat} {fr : Fr} {h : Heap} {Q : Ex → Fr → Heap → Prop} : s16_18.wp E nt rd fr h Q = (GC.seq (.plan p16_17) s16_16).wp E nt rd fr h Q := Eq.trans rfl rfl
def s16_19 : GC := .seq (.block 1 s16_18) s16_9
theorem s16_19_w {E : Env} {nt : Nat} {rd : Option Nat} {fr : Fr} {h : Heap} {Q : Ex → Fr → Heap → Prop} : s16_19.wp E nt rd fr h Q = (GC.seq (.block 1 s16_18) s16_9).wp E nt rd fr h Q := Eq.trans rfl rfl
def s16_20 : GC := .cond (.tmp 12) .skip (.exit 0)
theorem s16_20_w {E : Env} {nt : Nat} {rd : Option Nat} {fr : Fr} {h : Heap} {Q : Ex → Fr → Heap → Prop} : s16_20.wp E nt rd fr h Q = (GC.cond (.tmp 12) .skip (.exit 0)).wp E nt rd fr h Q := Eq.trans rfl rfl
def r16_21 : List GO := [⟨none, some 9, .move (.tmp 4)⟩,
  ⟨none, some 10, .move (.tmp 0)⟩,
  ⟨none, some 11, .call ⟨.builtin .len, ⟨[.tmp 10]⟩, ⟨[25]⟩⟩⟩,
  ⟨none, some 12, .binOp .lss 3 (.tmp 9) (.tmp 11) 3⟩]
theorem r16_21_w {E : Env} {fr : Fr} {h : Heap} {Q : Fr → Heap → Prop} : opsW E r16_21 fr h Q = opsW E [⟨none, some 9, .move (.tmp 4)⟩,
  ⟨none, some 10, .move (.tmp 0)⟩,
  ⟨none, some 11, .call ⟨.builtin .len, ⟨[.tmp 10]⟩, ⟨[25]⟩⟩⟩,
  ⟨none, some 12, .binOp .lss 3 (.tmp 9) (.tmp 11) 3⟩] fr h Q := Eq.trans rfl rfl
def s16_22 : GC := .seq (.ops r16_21) s16_20
theorem s16_22_w {E : Env} {nt : Nat} {rd : Option Nat} {fr : Fr} {h : Heap} {Q : Ex → Fr → Heap → Prop} : s16_22.wp E nt rd fr h Q = (GC.seq (.ops r16_21) s16_20).wp E nt rd fr h Q := Eq.trans rfl rfl
def s16_23 : GC := .seq (s16_22) s16_19
theorem s16_23_w {E : Env} {nt : Nat} {rd : Option Nat} {fr : Fr} {h : Heap} {Q : Ex → Fr → Heap → Prop} : s16_23.wp E nt rd fr h Q = (GC.seq (s16_22) s16_19).wp E nt rd fr h Q := Eq.trans rfl rfl
def s16_24 : GC := .loop s16_23
theorem s16_24_w {E : Env} {nt : Nat} {rd : Option Nat} {fr : Fr} {h : Heap} {Q : Ex → Fr → Heap → Prop} : s16_24.wp E nt rd fr h Q = (GC.loop s16_23).wp E nt rd fr h Q := Eq.trans rfl rfl
def s16_25 : GC := .block 0 s16_24
theorem s16_25_w {E : Env} {nt : Nat} {rd : Option Nat} {fr : Fr} {h : Heap} {Q : Ex → Fr → Heap → Prop} : s16_25.wp E nt rd fr h Q = (GC.block 0 s16_24).wp E nt rd fr h Q := Eq.trans rfl rfl
def r16_26 : List GO := [⟨none, some 4, .assign (.const (.int .i64 0))⟩]
theorem r16_26_w {E : Env} {fr : Fr} {h : Heap} {Q : Fr → Heap → Prop} : opsW E r16_26 fr h Q = opsW E [⟨none, some 4, .assign (.const (.int .i64 0))⟩] fr h Q := Eq.trans rfl rfl
def s16_27 : GC := .seq (.ops r16_26) s16_25
theorem s16_27_w {E : Env} {nt : Nat} {rd : Option Nat} {fr : Fr} {h : Heap} {Q : Ex → Fr → Heap → Prop} : s16_27.wp E nt rd fr h Q = (GC.seq (.ops r16_26) s16_25).wp E nt rd fr h Q := Eq.trans rfl rfl
def s16_28 : GC := .seq (s16_27) s16_7
theorem s16_28_w {E : Env} {nt : Nat} {rd : Option Nat} {fr : Fr} {h : Heap} {Q : Ex → Fr → Heap → Prop} : s16_28.wp E nt rd fr h Q = (GC.seq (s16_27) s16_7).wp E nt rd fr h Q := Eq.trans rfl rfl
def r16_29 : List GO := [⟨none, some 3, .assign (.const (.float .f64 0))⟩]
theorem r16_29_w {E : Env} {fr : Fr} {h : Heap} {Q : Fr → Heap → Prop} : opsW E r16_29 fr h Q = opsW E [⟨none, some 3, .assign (.const (.float .f64 0))⟩] fr h Q := Eq.trans rfl rfl
def s16_30 : GC := .seq (.ops r16_29) s16_28
theorem s16_30_w {E : Env} {nt : Nat} {rd : Option Nat} {fr : Fr} {h : Heap} {Q : Ex → Fr → Heap → Prop} : s16_30.wp E nt rd fr h Q = (GC.seq (.ops r16_29) s16_28).wp E nt rd fr h Q := Eq.trans rfl rfl
def r16_31 : List GO := [⟨none, some 2, .assign (.const (.float .f64 0))⟩]
theorem r16_31_w {E : Env} {fr : Fr} {h : Heap} {Q : Fr → Heap → Prop} : opsW E r16_31 fr h Q = opsW E [⟨none, some 2, .assign (.const (.float .f64 0))⟩] fr h Q := Eq.trans rfl rfl
def s16_32 : GC := .seq (.ops r16_31) s16_30
theorem s16_32_w {E : Env} {nt : Nat} {rd : Option Nat} {fr : Fr} {h : Heap} {Q : Ex → Fr → Heap → Prop} : s16_32.wp E nt rd fr h Q = (GC.seq (.ops r16_31) s16_30).wp E nt rd fr h Q := Eq.trans rfl rfl
theorem c16 : Tryd.f16.body.bind (clean env 43) = some s16_32 := by kernel_rfl
theorem e16 : env.funs.get 16 = some Tryd.f16 := by kernel_rfl
theorem F16 {args : List Value} {h : Heap} {K : Value → Heap → Prop} (hl : args.length = 1) (w : s16_32.wp env 43 none (setAll args 0 .leaf) h (resK env [.tmp 2] K)) : Ret env (.func 16) args h K :=
  Ret.of_body' rfl e16 c16 rfl rfl (by rw [hl]; decide) w
/-! helmsman/share.Ratio -/
def r17_0 : List GO := [⟨none, some 5, .move (.tmp 0)⟩,
  ⟨none, some 6, .move (.tmp 1)⟩,
  ⟨none, some 7, .binOp .quo 27 (.tmp 5) (.tmp 6) 27⟩,
  ⟨none, some 4, .assign (.tmp 7)⟩]
theorem r17_0_w {E : Env} {fr : Fr} {h : Heap} {Q : Fr → Heap → Prop} : opsW E r17_0 fr h Q = opsW E [⟨none, some 5, .move (.tmp 0)⟩,
  ⟨none, some 6, .move (.tmp 1)⟩,
  ⟨none, some 7, .binOp .quo 27 (.tmp 5) (.tmp 6) 27⟩,
  ⟨none, some 4, .assign (.tmp 7)⟩] fr h Q := Eq.trans rfl rfl
def s17_1 : GC := .seq (.ops r17_0) .ret
theorem s17_1_w {E : Env} {nt : Nat} {rd : Option Nat} {fr : Fr} {h : Heap} {Q : Ex → Fr → Heap → Prop} : s17_1.wp E nt rd fr h Q = (GC.seq (.ops r17_0) .ret).wp E nt rd fr h Q := Eq.trans rfl rfl
def r17_2 : List GO := [⟨none, some 4, .assign (.const (.float .f64 0))⟩]
theorem r17_2_w {E : Env} {fr : Fr} {h : Heap} {Q : Fr → Heap → Prop} : opsW E r17_2 fr h Q = opsW E [⟨none, some 4, .assign (.const (.float .f64 0))⟩] fr h Q := Eq.trans rfl rfl
def s17_3 : GC := .seq (.ops r17_2) s17_1
theorem s17_3_w {E : Env} {nt : Nat} {rd : Option Nat} {fr : Fr} {h : Heap} {Q : Ex → Fr → Heap → Prop} : s17_3.wp E nt rd fr h Q = (GC.seq (.ops r17_2) s17_1).wp E nt rd fr h Q := Eq.trans rfl rfl
theorem c17 : Tryd.f17.body.bind (clean env 8) = some s17_3 := by kernel_rfl
theorem e17 : env.funs.get 17 = some Tryd.f17 := by kernel_rfl
theorem F17 {args : List Value} {h : Heap} {K : Value → Heap → Prop} (hl : args.length = 2) (w : s17_3.wp env 8 none (setAll args 0 .leaf) h (resK env [.tmp 4] K)) : Ret env (.func 17) args h K :=
  Ret.of_body' rfl e17 c17 rfl rfl (by rw [hl]; decide) w

end Go.Proofs.YtjcmcoabckkjoaaDoor
