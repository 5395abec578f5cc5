/- The dump's numbers are of one kind. -/
import Derived.Test.YtjcmcoabckkjoaaDoorZLib2
import Derived.Test.YtjcmcoabckkjoaaDoorChecked
import Derived.KernelRfl
set_option linter.unusedSimpArgs false
set_option linter.unusedVariables false
namespace Go.Proofs.YtjcmcoabckkjoaaDoor.Na
open Go.Ev
set_option maxRecDepth 100000
noncomputable def env : Env := envOf Tryd.prog 0 (extFl 18 10 fun _ _ _ => none)
section
variable {fr : Fr} {h : Heap} {K : Value → Heap → Prop} {x y z : Operand} {ps : List (Nat × Operand)}
theorem cv_23_3 : opW env (.convert 23 3 x) fr h K = evK env fr x fun v => cintK .i64 v fun u => K u h := opW_cint (k' := .u64) (by kernel_rfl) (by kernel_rfl)
end
/-! helmsman/helmsmanref31.NaN -/
def r19_0 : List GO := [⟨none, some 12, .move (.tmp 4)⟩,
  ⟨none, some 13, .binOp .eql 3 (.tmp 12) (.const (.int .i64 2047)) 3⟩,
  ⟨none, some 14, .move (.tmp 13)⟩,
  ⟨some (14, true), some 15, .move (.tmp 5)⟩,
  ⟨some (14, true), some 16, .binOp .gtr 23 (.tmp 15) (.const (.int .u64 0)) 23⟩,
  ⟨none, some 17, .pick (.tmp 14) (.tmp 16) (.const (.bool false))⟩,
  ⟨none, some 2, .assign (.tmp 17)⟩]
theorem r19_0_w {E : Env} {fr : Fr} {h : Heap} {Q : Fr → Heap → Prop} : opsW E r19_0 fr h Q = opsW E [⟨none, some 12, .move (.tmp 4)⟩,
  ⟨none, some 13, .binOp .eql 3 (.tmp 12) (.const (.int .i64 2047)) 3⟩,
  ⟨none, some 14, .move (.tmp 13)⟩,
  ⟨some (14, true), some 15, .move (.tmp 5)⟩,
  ⟨some (14, true), some 16, .binOp .gtr 23 (.tmp 15) (.const (.int .u64 0)) 23⟩,
  ⟨none, some 17, .pick (.tmp 14) (.tmp 16) (.const (.bool false))⟩,
  ⟨none, some 2, .assign (.tmp 17)⟩] fr h Q := Eq.trans rfl rfl
def s19_1 : GC := .seq (.ops r19_0) .ret
theorem s19_1_w {E : Env} {nt : Nat} {rd : Option Nat} {fr : Fr} {h : Heap} {Q : Ex → Fr → Heap → Prop} : s19_1.wp E nt rd fr h Q = (GC.seq (.ops r19_0) .ret).wp E nt rd fr h Q := Eq.trans rfl rfl
def r19_2 : List GO := [⟨none, some 7, .move (.tmp 0)⟩,
  ⟨none, some 8, .call ⟨.value (.func 40), ⟨[.tmp 7]⟩, ⟨[27]⟩⟩⟩,
  ⟨none, some 6, .move (.tmp 8)⟩,
  ⟨none, some 9, .extract (.tmp 6) 0⟩,
  ⟨none, some 10, .extract (.tmp 6) 1⟩,
  ⟨none, some 11, .extract (.tmp 6) 2⟩,
  ⟨none, some 3, .assign (.tmp 9)⟩,
  ⟨none, some 4, .assign (.tmp 10)⟩,
  ⟨none, some 5, .assign (.tmp 11)⟩]
theorem r19_2_w {E : Env} {fr : Fr} {h : Heap} {Q : Fr → Heap → Prop} : opsW E r19_2 fr h Q = opsW E [⟨none, some 7, .move (.tmp 0)⟩,
  ⟨none, some 8, .call ⟨.value (.func 40), ⟨[.tmp 7]⟩, ⟨[27]⟩⟩⟩,
  ⟨none, some 6, .move (.tmp 8)⟩,
  ⟨none, some 9, .extract (.tmp 6) 0⟩,
  ⟨none, some 10, .extract (.tmp 6) 1⟩,
  ⟨none, some 11, .extract (.tmp 6) 2⟩,
  ⟨none, some 3, .assign (.tmp 9)⟩,
  ⟨none, some 4, .assign (.tmp 10)⟩,
  ⟨none, some 5, .assign (.tmp 11)⟩] fr h Q := Eq.trans rfl rfl
def s19_3 : GC := .seq (.ops r19_2) s19_1
theorem s19_3_w {E : Env} {nt : Nat} {rd : Option Nat} {fr : Fr} {h : Heap} {Q : Ex → Fr → Heap → Prop} : s19_3.wp E nt rd fr h Q = (GC.seq (.ops r19_2) s19_1).wp E nt rd fr h Q := Eq.trans rfl rfl
def r19_4 : List GO := [⟨none, some 2, .assign (.const (.bool false))⟩]
theorem r19_4_w {E : Env} {fr : Fr} {h : Heap} {Q : Fr → Heap → Prop} : opsW E r19_4 fr h Q = opsW E [⟨none, some 2, .assign (.const (.bool false))⟩] fr h Q := Eq.trans rfl rfl
def s19_5 : GC := .seq (.ops r19_4) s19_3
theorem s19_5_w {E : Env} {nt : Nat} {rd : Option Nat} {fr : Fr} {h : Heap} {Q : Ex → Fr → Heap → Prop} : s19_5.wp E nt rd fr h Q = (GC.seq (.ops r19_4) s19_3).wp E nt rd fr h Q := Eq.trans rfl rfl
theorem c19 : Tryd.f19.body.bind (clean env 18) = some s19_5 := by kernel_rfl
theorem e19 : env.funs.get 19 = some Tryd.f19 := by kernel_rfl
theorem F19 {args : List Value} {h : Heap} {K : Value → Heap → Prop} (hl : args.length = 1) (w : s19_5.wp env 18 none (setAll args 0 .leaf) h (resK env [.tmp 2] K)) : Ret env (.func 19) args h K :=
  Ret.of_body' rfl e19 c19 rfl rfl (by rw [hl]; decide) w
/-! helmsman/helmsmanref31.parts -/
def r40_0 : List GO := [⟨none, some 8, .move (.tmp 5)⟩,
  ⟨none, some 9, .binOp .gtr 23 (.tmp 8) (.const (.int .u64 9223372036854775807)) 23⟩,
  ⟨none, some 10, .move (.tmp 5)⟩,
  ⟨none, some 11, .binOp .quo 23 (.tmp 10) (.const (.int .u64 4503599627370496)) 23⟩,
  ⟨none, some 12, .binOp .rem 23 (.tmp 11) (.const (.int .u64 2048)) 23⟩,
  ⟨none, some 13, .convert 23 3 (.tmp 12)⟩,
  ⟨none, some 14, .move (.tmp 5)⟩,
  ⟨none, some 15, .binOp .rem 23 (.tmp 14) (.const (.int .u64 4503599627370496)) 23⟩,
  ⟨none, some 2, .assign (.tmp 9)⟩,
  ⟨none, some 3, .assign (.tmp 13)⟩,
  ⟨none, some 4, .assign (.tmp 15)⟩]
theorem r40_0_w {E : Env} {fr : Fr} {h : Heap} {Q : Fr → Heap → Prop} : opsW E r40_0 fr h Q = opsW E [⟨none, some 8, .move (.tmp 5)⟩,
  ⟨none, some 9, .binOp .gtr 23 (.tmp 8) (.const (.int .u64 9223372036854775807)) 23⟩,
  ⟨none, some 10, .move (.tmp 5)⟩,
  ⟨none, some 11, .binOp .quo 23 (.tmp 10) (.const (.int .u64 4503599627370496)) 23⟩,
  ⟨none, some 12, .binOp .rem 23 (.tmp 11) (.const (.int .u64 2048)) 23⟩,
  ⟨none, some 13, .convert 23 3 (.tmp 12)⟩,
  ⟨none, some 14, .move (.tmp 5)⟩,
  ⟨none, some 15, .binOp .rem 23 (.tmp 14) (.const (.int .u64 4503599627370496)) 23⟩,
  ⟨none, some 2, .assign (.tmp 9)⟩,
  ⟨none, some 3, .assign (.tmp 13)⟩,
  ⟨none, some 4, .assign (.tmp 15)⟩] fr h Q := Eq.trans rfl rfl
def s40_1 : GC := .seq (.ops r40_0) .ret
theorem s40_1_w {E : Env} {nt : Nat} {rd : Option Nat} {fr : Fr} {h : Heap} {Q : Ex → Fr → Heap → Prop} : s40_1.wp E nt rd fr h Q = (GC.seq (.ops r40_0) .ret).wp E nt rd fr h Q := Eq.trans rfl rfl
def r40_2 : List GO := [⟨none, some 6, .move (.tmp 0)⟩,
  ⟨none, some 7, .call ⟨.value (.func 18), ⟨[.tmp 6]⟩, ⟨[27]⟩⟩⟩,
  ⟨none, some 5, .assign (.tmp 7)⟩]
theorem r40_2_w {E : Env} {fr : Fr} {h : Heap} {Q : Fr → Heap → Prop} : opsW E r40_2 fr h Q = opsW E [⟨none, some 6, .move (.tmp 0)⟩,
  ⟨none, some 7, .call ⟨.value (.func 18), ⟨[.tmp 6]⟩, ⟨[27]⟩⟩⟩,
  ⟨none, some 5, .assign (.tmp 7)⟩] fr h Q := Eq.trans rfl rfl
def s40_3 : GC := .seq (.ops r40_2) s40_1
theorem s40_3_w {E : Env} {nt : Nat} {rd : Option Nat} {fr : Fr} {h : Heap} {Q : Ex → Fr → Heap → Prop} : s40_3.wp E nt rd fr h Q = (GC.seq (.ops r40_2) s40_1).wp E nt rd fr h Q := Eq.trans rfl rfl
def r40_4 : List GO := [⟨none, some 2, .assign (.const (.bool false))⟩,
  ⟨none, some 3, .assign (.const (.int .i64 0))⟩,
  ⟨none, some 4, .assign (.const (.int .u64 0))⟩]
theorem r40_4_w {E : Env} {fr : Fr} {h : Heap} {Q : Fr → Heap → Prop} : opsW E r40_4 fr h Q = opsW E [⟨none, some 2, .assign (.const (.bool false))⟩,
  ⟨none, some 3, .assign (.const (.int .i64 0))⟩,
  ⟨none, some 4, .assign (.const (.int .u64 0))⟩] fr h Q := Eq.trans rfl rfl
def s40_5 : GC := .seq (.ops r40_4) s40_3
theorem s40_5_w {E : Env} {nt : Nat} {rd : Option Nat} {fr : Fr} {h : Heap} {Q : Ex → Fr → Heap → Prop} : s40_5.wp E nt rd fr h Q = (GC.seq (.ops r40_4) s40_3).wp E nt rd fr h Q := Eq.trans rfl rfl
theorem c40 : Tryd.f40.body.bind (clean env 16) = some s40_5 := by kernel_rfl
theorem e40 : env.funs.get 40 = some Tryd.f40 := by kernel_rfl
theorem F40 {args : List Value} {h : Heap} {K : Value → Heap → Prop} (hl : args.length = 1) (w : s40_5.wp env 16 none (setAll args 0 .leaf) h (resK env [.tmp 2, .tmp 3, .tmp 4] K)) : Ret env (.func 40) args h K :=
  Ret.of_body' rfl e40 c40 rfl rfl (by rw [hl]; decide) w
/-! helmsman/helmsmanref31.Text -/
def r36_0 : List GO := [⟨none, some 67, .move (.tmp 6)⟩,
  ⟨none, some 2, .assign (.tmp 67)⟩]
theorem r36_0_w {E : Env} {fr : Fr} {h : Heap} {Q : Fr → Heap → Prop} : opsW E r36_0 fr h Q = opsW E [⟨none, some 67, .move (.tmp 6)⟩,
  ⟨none, some 2, .assign (.tmp 67)⟩] fr h Q := Eq.trans rfl rfl
def s36_1 : GC := .seq (.ops r36_0) .ret
theorem s36_1_w {E : Env} {nt : Nat} {rd : Option Nat} {fr : Fr} {h : Heap} {Q : Ex → Fr → Heap → Prop} : s36_1.wp E nt rd fr h Q = (GC.seq (.ops r36_0) .ret).wp E nt rd fr h Q := Eq.trans rfl rfl
def r36_2 : List GO := [⟨none, some 61, .move (.tmp 6)⟩,
  ⟨none, some 62, .binOp .add 9 (.tmp 61) (.const (.string ⟨⟨[47, 50, 94]⟩⟩)) 9⟩,
  ⟨none, some 63, .move (.tmp 8)⟩,
  ⟨none, some 64, .unOp .neg 3 (.tmp 63)⟩,
  ⟨none, some 65, .call ⟨.value (.func 52), ⟨[.tmp 64]⟩, ⟨[3]⟩⟩⟩,
  ⟨none, some 66, .binOp .add 9 (.tmp 62) (.tmp 65) 9⟩,
  ⟨none, some 2, .assign (.tmp 66)⟩]
theorem r36_2_w {E : Env} {fr : Fr} {h : Heap} {Q : Fr → Heap → Prop} : opsW E r36_2 fr h Q = opsW E [⟨none, some 61, .move (.tmp 6)⟩,
  ⟨none, some 62, .binOp .add 9 (.tmp 61) (.const (.string ⟨⟨[47, 50, 94]⟩⟩)) 9⟩,
  ⟨none, some 63, .move (.tmp 8)⟩,
  ⟨none, some 64, .unOp .neg 3 (.tmp 63)⟩,
  ⟨none, some 65, .call ⟨.value (.func 52), ⟨[.tmp 64]⟩, ⟨[3]⟩⟩⟩,
  ⟨none, some 66, .binOp .add 9 (.tmp 62) (.tmp 65) 9⟩,
  ⟨none, some 2, .assign (.tmp 66)⟩] fr h Q := Eq.trans rfl rfl
def s36_3 : GC := .seq (.ops r36_2) .ret
theorem s36_3_w {E : Env} {nt : Nat} {rd : Option Nat} {fr : Fr} {h : Heap} {Q : Ex → Fr → Heap → Prop} : s36_3.wp E nt rd fr h Q = (GC.seq (.ops r36_2) .ret).wp E nt rd fr h Q := Eq.trans rfl rfl
def s36_4 : GC := .cond (.tmp 60) s36_3 .skip
theorem s36_4_w {E : Env} {nt : Nat} {rd : Option Nat} {fr : Fr} {h : Heap} {Q : Ex → Fr → Heap → Prop} : s36_4.wp E nt rd fr h Q = (GC.cond (.tmp 60) s36_3 .skip).wp E nt rd fr h Q := Eq.trans rfl rfl
def r36_5 : List GO := [⟨none, some 59, .move (.tmp 8)⟩,
  ⟨none, some 60, .binOp .lss 3 (.tmp 59) (.const (.int .i64 0)) 3⟩]
theorem r36_5_w {E : Env} {fr : Fr} {h : Heap} {Q : Fr → Heap → Prop} : opsW E r36_5 fr h Q = opsW E [⟨none, some 59, .move (.tmp 8)⟩,
  ⟨none, some 60, .binOp .lss 3 (.tmp 59) (.const (.int .i64 0)) 3⟩] fr h Q := Eq.trans rfl rfl
def s36_6 : GC := .seq (.ops r36_5) s36_4
theorem s36_6_w {E : Env} {nt : Nat} {rd : Option Nat} {fr : Fr} {h : Heap} {Q : Ex → Fr → Heap → Prop} : s36_6.wp E nt rd fr h Q = (GC.seq (.ops r36_5) s36_4).wp E nt rd fr h Q := Eq.trans rfl rfl
def s36_7 : GC := .seq (s36_6) s36_1
theorem s36_7_w {E : Env} {nt : Nat} {rd : Option Nat} {fr : Fr} {h : Heap} {Q : Ex → Fr → Heap → Prop} : s36_7.wp E nt rd fr h Q = (GC.seq (s36_6) s36_1).wp E nt rd fr h Q := Eq.trans rfl rfl
def r36_8 : List GO := [⟨none, some 54, .move (.tmp 6)⟩,
  ⟨none, some 55, .binOp .add 9 (.tmp 54) (.const (.string ⟨⟨[42, 50, 94]⟩⟩)) 9⟩,
  ⟨none, some 56, .move (.tmp 8)⟩,
  ⟨none, some 57, .call ⟨.value (.func 52), ⟨[.tmp 56]⟩, ⟨[3]⟩⟩⟩,
  ⟨none, some 58, .binOp .add 9 (.tmp 55) (.tmp 57) 9⟩,
  ⟨none, some 2, .assign (.tmp 58)⟩]
theorem r36_8_w {E : Env} {fr : Fr} {h : Heap} {Q : Fr → Heap → Prop} : opsW E r36_8 fr h Q = opsW E [⟨none, some 54, .move (.tmp 6)⟩,
  ⟨none, some 55, .binOp .add 9 (.tmp 54) (.const (.string ⟨⟨[42, 50, 94]⟩⟩)) 9⟩,
  ⟨none, some 56, .move (.tmp 8)⟩,
  ⟨none, some 57, .call ⟨.value (.func 52), ⟨[.tmp 56]⟩, ⟨[3]⟩⟩⟩,
  ⟨none, some 58, .binOp .add 9 (.tmp 55) (.tmp 57) 9⟩,
  ⟨none, some 2, .assign (.tmp 58)⟩] fr h Q := Eq.trans rfl rfl
def s36_9 : GC := .seq (.ops r36_8) .ret
theorem s36_9_w {E : Env} {nt : Nat} {rd : Option Nat} {fr : Fr} {h : Heap} {Q : Ex → Fr → Heap → Prop} : s36_9.wp E nt rd fr h Q = (GC.seq (.ops r36_8) .ret).wp E nt rd fr h Q := Eq.trans rfl rfl
def s36_10 : GC := .cond (.tmp 53) s36_9 .skip
theorem s36_10_w {E : Env} {nt : Nat} {rd : Option Nat} {fr : Fr} {h : Heap} {Q : Ex → Fr → Heap → Prop} : s36_10.wp E nt rd fr h Q = (GC.cond (.tmp 53) s36_9 .skip).wp E nt rd fr h Q := Eq.trans rfl rfl
def r36_11 : List GO := [⟨none, some 52, .move (.tmp 8)⟩,
  ⟨none, some 53, .binOp .gtr 3 (.tmp 52) (.const (.int .i64 0)) 3⟩]
theorem r36_11_w {E : Env} {fr : Fr} {h : Heap} {Q : Fr → Heap → Prop} : opsW E r36_11 fr h Q = opsW E [⟨none, some 52, .move (.tmp 8)⟩,
  ⟨none, some 53, .binOp .gtr 3 (.tmp 52) (.const (.int .i64 0)) 3⟩] fr h Q := Eq.trans rfl rfl
def s36_12 : GC := .seq (.ops r36_11) s36_10
theorem s36_12_w {E : Env} {nt : Nat} {rd : Option Nat} {fr : Fr} {h : Heap} {Q : Ex → Fr → Heap → Prop} : s36_12.wp E nt rd fr h Q = (GC.seq (.ops r36_11) s36_10).wp E nt rd fr h Q := Eq.trans rfl rfl
def s36_13 : GC := .seq (s36_12) s36_7
theorem s36_13_w {E : Env} {nt : Nat} {rd : Option Nat} {fr : Fr} {h : Heap} {Q : Ex → Fr → Heap → Prop} : s36_13.wp E nt rd fr h Q = (GC.seq (s36_12) s36_7).wp E nt rd fr h Q := Eq.trans rfl rfl
def r36_14 : List GO := [⟨none, some 48, .move (.tmp 6)⟩,
  ⟨none, some 49, .move (.tmp 7)⟩,
  ⟨none, some 50, .call ⟨.value (.func 53), ⟨[.tmp 49]⟩, ⟨[23]⟩⟩⟩,
  ⟨none, some 51, .binOp .add 9 (.tmp 48) (.tmp 50) 9⟩,
  ⟨none, some 6, .assign (.tmp 51)⟩]
theorem r36_14_w {E : Env} {fr : Fr} {h : Heap} {Q : Fr → Heap → Prop} : opsW E r36_14 fr h Q = opsW E [⟨none, some 48, .move (.tmp 6)⟩,
  ⟨none, some 49, .move (.tmp 7)⟩,
  ⟨none, some 50, .call ⟨.value (.func 53), ⟨[.tmp 49]⟩, ⟨[23]⟩⟩⟩,
  ⟨none, some 51, .binOp .add 9 (.tmp 48) (.tmp 50) 9⟩,
  ⟨none, some 6, .assign (.tmp 51)⟩] fr h Q := Eq.trans rfl rfl
def s36_15 : GC := .seq (.ops r36_14) s36_13
theorem s36_15_w {E : Env} {nt : Nat} {rd : Option Nat} {fr : Fr} {h : Heap} {Q : Ex → Fr → Heap → Prop} : s36_15.wp E nt rd fr h Q = (GC.seq (.ops r36_14) s36_13).wp E nt rd fr h Q := Eq.trans rfl rfl
def r36_16 : List GO := [⟨none, some 46, .move (.tmp 8)⟩,
  ⟨none, some 47, .binOp .add 3 (.tmp 46) (.const (.int .i64 1)) 3⟩,
  ⟨none, some 8, .assign (.tmp 47)⟩]
theorem r36_16_w {E : Env} {fr : Fr} {h : Heap} {Q : Fr → Heap → Prop} : opsW E r36_16 fr h Q = opsW E [⟨none, some 46, .move (.tmp 8)⟩,
  ⟨none, some 47, .binOp .add 3 (.tmp 46) (.const (.int .i64 1)) 3⟩,
  ⟨none, some 8, .assign (.tmp 47)⟩] fr h Q := Eq.trans rfl rfl
def s36_17 : GC := .ops r36_16
theorem s36_17_w {E : Env} {nt : Nat} {rd : Option Nat} {fr : Fr} {h : Heap} {Q : Ex → Fr → Heap → Prop} : s36_17.wp E nt rd fr h Q = (GC.ops r36_16).wp E nt rd fr h Q := Eq.trans rfl rfl
def r36_18 : List GO := [⟨none, some 44, .move (.tmp 7)⟩,
  ⟨none, some 45, .binOp .quo 23 (.tmp 44) (.const (.int .u64 2)) 23⟩,
  ⟨none, some 7, .assign (.tmp 45)⟩]
theorem r36_18_w {E : Env} {fr : Fr} {h : Heap} {Q : Fr → Heap → Prop} : opsW E r36_18 fr h Q = opsW E [⟨none, some 44, .move (.tmp 7)⟩,
  ⟨none, some 45, .binOp .quo 23 (.tmp 44) (.const (.int .u64 2)) 23⟩,
  ⟨none, some 7, .assign (.tmp 45)⟩] fr h Q := Eq.trans rfl rfl
def s36_19 : GC := .seq (.ops r36_18) s36_17
theorem s36_19_w {E : Env} {nt : Nat} {rd : Option Nat} {fr : Fr} {h : Heap} {Q : Ex → Fr → Heap → Prop} : s36_19.wp E nt rd fr h Q = (GC.seq (.ops r36_18) s36_17).wp E nt rd fr h Q := Eq.trans rfl rfl
def s36_20 : GC := .block 1 s36_19
theorem s36_20_w {E : Env} {nt : Nat} {rd : Option Nat} {fr : Fr} {h : Heap} {Q : Ex → Fr → Heap → Prop} : s36_20.wp E nt rd fr h Q = (GC.block 1 s36_19).wp E nt rd fr h Q := Eq.trans rfl rfl
def s36_21 : GC := .cond (.tmp 43) .skip (.exit 0)
theorem s36_21_w {E : Env} {nt : Nat} {rd : Option Nat} {fr : Fr} {h : Heap} {Q : Ex → Fr → Heap → Prop} : s36_21.wp E nt rd fr h Q = (GC.cond (.tmp 43) .skip (.exit 0)).wp E nt rd fr h Q := Eq.trans rfl rfl
def r36_22 : List GO := [⟨none, some 41, .move (.tmp 7)⟩,
  ⟨none, some 42, .binOp .rem 23 (.tmp 41) (.const (.int .u64 2)) 23⟩,
  ⟨none, some 43, .binOp .eql 23 (.tmp 42) (.const (.int .u64 0)) 23⟩]
theorem r36_22_w {E : Env} {fr : Fr} {h : Heap} {Q : Fr → Heap → Prop} : opsW E r36_22 fr h Q = opsW E [⟨none, some 41, .move (.tmp 7)⟩,
  ⟨none, some 42, .binOp .rem 23 (.tmp 41) (.const (.int .u64 2)) 23⟩,
  ⟨none, some 43, .binOp .eql 23 (.tmp 42) (.const (.int .u64 0)) 23⟩] fr h Q := Eq.trans rfl rfl
def s36_23 : GC := .seq (.ops r36_22) s36_21
theorem s36_23_w {E : Env} {nt : Nat} {rd : Option Nat} {fr : Fr} {h : Heap} {Q : Ex → Fr → Heap → Prop} : s36_23.wp E nt rd fr h Q = (GC.seq (.ops r36_22) s36_21).wp E nt rd fr h Q := Eq.trans rfl rfl
def s36_24 : GC := .seq (s36_23) s36_20
theorem s36_24_w {E : Env} {nt : Nat} {rd : Option Nat} {fr : Fr} {h : Heap} {Q : Ex → Fr → Heap → Prop} : s36_24.wp E nt rd fr h Q = (GC.seq (s36_23) s36_20).wp E nt rd fr h Q := Eq.trans rfl rfl
def s36_25 : GC := .loop s36_24
theorem s36_25_w {E : Env} {nt : Nat} {rd : Option Nat} {fr : Fr} {h : Heap} {Q : Ex → Fr → Heap → Prop} : s36_25.wp E nt rd fr h Q = (GC.loop s36_24).wp E nt rd fr h Q := Eq.trans rfl rfl
def s36_26 : GC := .seq (.block 0 s36_25) s36_15
theorem s36_26_w {E : Env} {nt : Nat} {rd : Option Nat} {fr : Fr} {h : Heap} {Q : Ex → Fr → Heap → Prop} : s36_26.wp E nt rd fr h Q = (GC.seq (.block 0 s36_25) s36_15).wp E nt rd fr h Q := Eq.trans rfl rfl
def r36_27 : List GO := [⟨none, some 39, .move (.tmp 4)⟩,
  ⟨none, some 40, .binOp .sub 3 (.tmp 39) (.const (.int .i64 1075)) 3⟩,
  ⟨none, some 8, .assign (.tmp 40)⟩]
theorem r36_27_w {E : Env} {fr : Fr} {h : Heap} {Q : Fr → Heap → Prop} : opsW E r36_27 fr h Q = opsW E [⟨none, some 39, .move (.tmp 4)⟩,
  ⟨none, some 40, .binOp .sub 3 (.tmp 39) (.const (.int .i64 1075)) 3⟩,
  ⟨none, some 8, .assign (.tmp 40)⟩] fr h Q := Eq.trans rfl rfl
def s36_28 : GC := .ops r36_27
theorem s36_28_w {E : Env} {nt : Nat} {rd : Option Nat} {fr : Fr} {h : Heap} {Q : Ex → Fr → Heap → Prop} : s36_28.wp E nt rd fr h Q = (GC.ops r36_27).wp E nt rd fr h Q := Eq.trans rfl rfl
def r36_29 : List GO := [⟨none, some 37, .move (.tmp 5)⟩,
  ⟨none, some 38, .binOp .add 23 (.tmp 37) (.const (.int .u64 4503599627370496)) 23⟩,
  ⟨none, some 7, .assign (.tmp 38)⟩]
theorem r36_29_w {E : Env} {fr : Fr} {h : Heap} {Q : Fr → Heap → Prop} : opsW E r36_29 fr h Q = opsW E [⟨none, some 37, .move (.tmp 5)⟩,
  ⟨none, some 38, .binOp .add 23 (.tmp 37) (.const (.int .u64 4503599627370496)) 23⟩,
  ⟨none, some 7, .assign (.tmp 38)⟩] fr h Q := Eq.trans rfl rfl
def s36_30 : GC := .seq (.ops r36_29) s36_28
theorem s36_30_w {E : Env} {nt : Nat} {rd : Option Nat} {fr : Fr} {h : Heap} {Q : Ex → Fr → Heap → Prop} : s36_30.wp E nt rd fr h Q = (GC.seq (.ops r36_29) s36_28).wp E nt rd fr h Q := Eq.trans rfl rfl
def s36_31 : GC := .cond (.tmp 36) s36_30 .skip
theorem s36_31_w {E : Env} {nt : Nat} {rd : Option Nat} {fr : Fr} {h : Heap} {Q : Ex → Fr → Heap → Prop} : s36_31.wp E nt rd fr h Q = (GC.cond (.tmp 36) s36_30 .skip).wp E nt rd fr h Q := Eq.trans rfl rfl
def r36_32 : List GO := [⟨none, some 35, .move (.tmp 4)⟩,
  ⟨none, some 36, .binOp .gtr 3 (.tmp 35) (.const (.int .i64 0)) 3⟩]
theorem r36_32_w {E : Env} {fr : Fr} {h : Heap} {Q : Fr → Heap → Prop} : opsW E r36_32 fr h Q = opsW E [⟨none, some 35, .move (.tmp 4)⟩,
  ⟨none, some 36, .binOp .gtr 3 (.tmp 35) (.const (.int .i64 0)) 3⟩] fr h Q := Eq.trans rfl rfl
def s36_33 : GC := .seq (.ops r36_32) s36_31
theorem s36_33_w {E : Env} {nt : Nat} {rd : Option Nat} {fr : Fr} {h : Heap} {Q : Ex → Fr → Heap → Prop} : s36_33.wp E nt rd fr h Q = (GC.seq (.ops r36_32) s36_31).wp E nt rd fr h Q := Eq.trans rfl rfl
def s36_34 : GC := .seq (s36_33) s36_26
theorem s36_34_w {E : Env} {nt : Nat} {rd : Option Nat} {fr : Fr} {h : Heap} {Q : Ex → Fr → Heap → Prop} : s36_34.wp E nt rd fr h Q = (GC.seq (s36_33) s36_26).wp E nt rd fr h Q := Eq.trans rfl rfl
def r36_35 : List GO := [⟨none, some 34, .move (.tmp 5)⟩,
  ⟨none, some 7, .assign (.tmp 34)⟩,
  ⟨none, some 8, .assign (.const (.int .i64 (-1074)))⟩]
theorem r36_35_w {E : Env} {fr : Fr} {h : Heap} {Q : Fr → Heap → Prop} : opsW E r36_35 fr h Q = opsW E [⟨none, some 34, .move (.tmp 5)⟩,
  ⟨none, some 7, .assign (.tmp 34)⟩,
  ⟨none, some 8, .assign (.const (.int .i64 (-1074)))⟩] fr h Q := Eq.trans rfl rfl
def s36_36 : GC := .seq (.ops r36_35) s36_34
theorem s36_36_w {E : Env} {nt : Nat} {rd : Option Nat} {fr : Fr} {h : Heap} {Q : Ex → Fr → Heap → Prop} : s36_36.wp E nt rd fr h Q = (GC.seq (.ops r36_35) s36_34).wp E nt rd fr h Q := Eq.trans rfl rfl
def r36_37 : List GO := [⟨none, some 32, .move (.tmp 6)⟩,
  ⟨none, some 33, .binOp .add 9 (.tmp 32) (.const (.string ⟨⟨[48]⟩⟩)) 9⟩,
  ⟨none, some 2, .assign (.tmp 33)⟩]
theorem r36_37_w {E : Env} {fr : Fr} {h : Heap} {Q : Fr → Heap → Prop} : opsW E r36_37 fr h Q = opsW E [⟨none, some 32, .move (.tmp 6)⟩,
  ⟨none, some 33, .binOp .add 9 (.tmp 32) (.const (.string ⟨⟨[48]⟩⟩)) 9⟩,
  ⟨none, some 2, .assign (.tmp 33)⟩] fr h Q := Eq.trans rfl rfl
def s36_38 : GC := .seq (.ops r36_37) .ret
theorem s36_38_w {E : Env} {nt : Nat} {rd : Option Nat} {fr : Fr} {h : Heap} {Q : Ex → Fr → Heap → Prop} : s36_38.wp E nt rd fr h Q = (GC.seq (.ops r36_37) .ret).wp E nt rd fr h Q := Eq.trans rfl rfl
def s36_39 : GC := .cond (.tmp 31) s36_38 .skip
theorem s36_39_w {E : Env} {nt : Nat} {rd : Option Nat} {fr : Fr} {h : Heap} {Q : Ex → Fr → Heap → Prop} : s36_39.wp E nt rd fr h Q = (GC.cond (.tmp 31) s36_38 .skip).wp E nt rd fr h Q := Eq.trans rfl rfl
def r36_40 : List GO := [⟨none, some 26, .move (.tmp 4)⟩,
  ⟨none, some 27, .binOp .eql 3 (.tmp 26) (.const (.int .i64 0)) 3⟩,
  ⟨none, some 28, .move (.tmp 27)⟩,
  ⟨some (28, true), some 29, .move (.tmp 5)⟩,
  ⟨some (28, true), some 30, .binOp .eql 23 (.tmp 29) (.const (.int .u64 0)) 23⟩,
  ⟨none, some 31, .pick (.tmp 28) (.tmp 30) (.const (.bool false))⟩]
theorem r36_40_w {E : Env} {fr : Fr} {h : Heap} {Q : Fr → Heap → Prop} : opsW E r36_40 fr h Q = opsW E [⟨none, some 26, .move (.tmp 4)⟩,
  ⟨none, some 27, .binOp .eql 3 (.tmp 26) (.const (.int .i64 0)) 3⟩,
  ⟨none, some 28, .move (.tmp 27)⟩,
  ⟨some (28, true), some 29, .move (.tmp 5)⟩,
  ⟨some (28, true), some 30, .binOp .eql 23 (.tmp 29) (.const (.int .u64 0)) 23⟩,
  ⟨none, some 31, .pick (.tmp 28) (.tmp 30) (.const (.bool false))⟩] fr h Q := Eq.trans rfl rfl
def s36_41 : GC := .seq (.ops r36_40) s36_39
theorem s36_41_w {E : Env} {nt : Nat} {rd : Option Nat} {fr : Fr} {h : Heap} {Q : Ex → Fr → Heap → Prop} : s36_41.wp E nt rd fr h Q = (GC.seq (.ops r36_40) s36_39).wp E nt rd fr h Q := Eq.trans rfl rfl
def s36_42 : GC := .seq (s36_41) s36_36
theorem s36_42_w {E : Env} {nt : Nat} {rd : Option Nat} {fr : Fr} {h : Heap} {Q : Ex → Fr → Heap → Prop} : s36_42.wp E nt rd fr h Q = (GC.seq (s36_41) s36_36).wp E nt rd fr h Q := Eq.trans rfl rfl
def r36_43 : List GO := [⟨none, some 24, .move (.tmp 6)⟩,
  ⟨none, some 25, .binOp .add 9 (.tmp 24) (.const (.string ⟨⟨[105, 110, 102]⟩⟩)) 9⟩,
  ⟨none, some 2, .assign (.tmp 25)⟩]
theorem r36_43_w {E : Env} {fr : Fr} {h : Heap} {Q : Fr → Heap → Prop} : opsW E r36_43 fr h Q = opsW E [⟨none, some 24, .move (.tmp 6)⟩,
  ⟨none, some 25, .binOp .add 9 (.tmp 24) (.const (.string ⟨⟨[105, 110, 102]⟩⟩)) 9⟩,
  ⟨none, some 2, .assign (.tmp 25)⟩] fr h Q := Eq.trans rfl rfl
def s36_44 : GC := .seq (.ops r36_43) .ret
theorem s36_44_w {E : Env} {nt : Nat} {rd : Option Nat} {fr : Fr} {h : Heap} {Q : Ex → Fr → Heap → Prop} : s36_44.wp E nt rd fr h Q = (GC.seq (.ops r36_43) .ret).wp E nt rd fr h Q := Eq.trans rfl rfl
def s36_45 : GC := .cond (.tmp 23) s36_44 .skip
theorem s36_45_w {E : Env} {nt : Nat} {rd : Option Nat} {fr : Fr} {h : Heap} {Q : Ex → Fr → Heap → Prop} : s36_45.wp E nt rd fr h Q = (GC.cond (.tmp 23) s36_44 .skip).wp E nt rd fr h Q := Eq.trans rfl rfl
def r36_46 : List GO := [⟨none, some 22, .move (.tmp 4)⟩,
  ⟨none, some 23, .binOp .eql 3 (.tmp 22) (.const (.int .i64 2047)) 3⟩]
theorem r36_46_w {E : Env} {fr : Fr} {h : Heap} {Q : Fr → Heap → Prop} : opsW E r36_46 fr h Q = opsW E [⟨none, some 22, .move (.tmp 4)⟩,
  ⟨none, some 23, .binOp .eql 3 (.tmp 22) (.const (.int .i64 2047)) 3⟩] fr h Q := Eq.trans rfl rfl
def s36_47 : GC := .seq (.ops r36_46) s36_45
theorem s36_47_w {E : Env} {nt : Nat} {rd : Option Nat} {fr : Fr} {h : Heap} {Q : Ex → Fr → Heap → Prop} : s36_47.wp E nt rd fr h Q = (GC.seq (.ops r36_46) s36_45).wp E nt rd fr h Q := Eq.trans rfl rfl
def s36_48 : GC := .seq (s36_47) s36_42
theorem s36_48_w {E : Env} {nt : Nat} {rd : Option Nat} {fr : Fr} {h : Heap} {Q : Ex → Fr → Heap → Prop} : s36_48.wp E nt rd fr h Q = (GC.seq (s36_47) s36_42).wp E nt rd fr h Q := Eq.trans rfl rfl
def r36_49 : List GO := [⟨none, some 2, .assign (.const (.string ⟨⟨[110, 97, 110]⟩⟩))⟩]
theorem r36_49_w {E : Env} {fr : Fr} {h : Heap} {Q : Fr → Heap → Prop} : opsW E r36_49 fr h Q = opsW E [⟨none, some 2, .assign (.const (.string ⟨⟨[110, 97, 110]⟩⟩))⟩] fr h Q := Eq.trans rfl rfl
def s36_50 : GC := .seq (.ops r36_49) .ret
theorem s36_50_w {E : Env} {nt : Nat} {rd : Option Nat} {fr : Fr} {h : Heap} {Q : Ex → Fr → Heap → Prop} : s36_50.wp E nt rd fr h Q = (GC.seq (.ops r36_49) .ret).wp E nt rd fr h Q := Eq.trans rfl rfl
def s36_51 : GC := .cond (.tmp 21) s36_50 .skip
theorem s36_51_w {E : Env} {nt : Nat} {rd : Option Nat} {fr : Fr} {h : Heap} {Q : Ex → Fr → Heap → Prop} : s36_51.wp E nt rd fr h Q = (GC.cond (.tmp 21) s36_50 .skip).wp E nt rd fr h Q := Eq.trans rfl rfl
def r36_52 : List GO := [⟨none, some 16, .move (.tmp 4)⟩,
  ⟨none, some 17, .binOp .eql 3 (.tmp 16) (.const (.int .i64 2047)) 3⟩,
  ⟨none, some 18, .move (.tmp 17)⟩,
  ⟨some (18, true), some 19, .move (.tmp 5)⟩,
  ⟨some (18, true), some 20, .binOp .gtr 23 (.tmp 19) (.const (.int .u64 0)) 23⟩,
  ⟨none, some 21, .pick (.tmp 18) (.tmp 20) (.const (.bool false))⟩]
theorem r36_52_w {E : Env} {fr : Fr} {h : Heap} {Q : Fr → Heap → Prop} : opsW E r36_52 fr h Q = opsW E [⟨none, some 16, .move (.tmp 4)⟩,
  ⟨none, some 17, .binOp .eql 3 (.tmp 16) (.const (.int .i64 2047)) 3⟩,
  ⟨none, some 18, .move (.tmp 17)⟩,
  ⟨some (18, true), some 19, .move (.tmp 5)⟩,
  ⟨some (18, true), some 20, .binOp .gtr 23 (.tmp 19) (.const (.int .u64 0)) 23⟩,
  ⟨none, some 21, .pick (.tmp 18) (.tmp 20) (.const (.bool false))⟩] fr h Q := Eq.trans rfl rfl
def s36_53 : GC := .seq (.ops r36_52) s36_51
theorem s36_53_w {E : Env} {nt : Nat} {rd : Option Nat} {fr : Fr} {h : Heap} {Q : Ex → Fr → Heap → Prop} : s36_53.wp E nt rd fr h Q = (GC.seq (.ops r36_52) s36_51).wp E nt rd fr h Q := Eq.trans rfl rfl
def s36_54 : GC := .seq (s36_53) s36_48
theorem s36_54_w {E : Env} {nt : Nat} {rd : Option Nat} {fr : Fr} {h : Heap} {Q : Ex → Fr → Heap → Prop} : s36_54.wp E nt rd fr h Q = (GC.seq (s36_53) s36_48).wp E nt rd fr h Q := Eq.trans rfl rfl
def r36_55 : List GO := [⟨none, some 6, .assign (.const (.string ⟨⟨[45]⟩⟩))⟩]
theorem r36_55_w {E : Env} {fr : Fr} {h : Heap} {Q : Fr → Heap → Prop} : opsW E r36_55 fr h Q = opsW E [⟨none, some 6, .assign (.const (.string ⟨⟨[45]⟩⟩))⟩] fr h Q := Eq.trans rfl rfl
def s36_56 : GC := .ops r36_55
theorem s36_56_w {E : Env} {nt : Nat} {rd : Option Nat} {fr : Fr} {h : Heap} {Q : Ex → Fr → Heap → Prop} : s36_56.wp E nt rd fr h Q = (GC.ops r36_55).wp E nt rd fr h Q := Eq.trans rfl rfl
def s36_57 : GC := .cond (.tmp 15) s36_56 .skip
theorem s36_57_w {E : Env} {nt : Nat} {rd : Option Nat} {fr : Fr} {h : Heap} {Q : Ex → Fr → Heap → Prop} : s36_57.wp E nt rd fr h Q = (GC.cond (.tmp 15) s36_56 .skip).wp E nt rd fr h Q := Eq.trans rfl rfl
def r36_58 : List GO := [⟨none, some 15, .move (.tmp 3)⟩]
theorem r36_58_w {E : Env} {fr : Fr} {h : Heap} {Q : Fr → Heap → Prop} : opsW E r36_58 fr h Q = opsW E [⟨none, some 15, .move (.tmp 3)⟩] fr h Q := Eq.trans rfl rfl
def s36_59 : GC := .seq (.ops r36_58) s36_57
theorem s36_59_w {E : Env} {nt : Nat} {rd : Option Nat} {fr : Fr} {h : Heap} {Q : Ex → Fr → Heap → Prop} : s36_59.wp E nt rd fr h Q = (GC.seq (.ops r36_58) s36_57).wp E nt rd fr h Q := Eq.trans rfl rfl
def s36_60 : GC := .seq (s36_59) s36_54
theorem s36_60_w {E : Env} {nt : Nat} {rd : Option Nat} {fr : Fr} {h : Heap} {Q : Ex → Fr → Heap → Prop} : s36_60.wp E nt rd fr h Q = (GC.seq (s36_59) s36_54).wp E nt rd fr h Q := Eq.trans rfl rfl
def r36_61 : List GO := [⟨none, some 6, .assign (.const (.string ⟨⟨[]⟩⟩))⟩]
theorem r36_61_w {E : Env} {fr : Fr} {h : Heap} {Q : Fr → Heap → Prop} : opsW E r36_61 fr h Q = opsW E [⟨none, some 6, .assign (.const (.string ⟨⟨[]⟩⟩))⟩] fr h Q := Eq.trans rfl rfl
def s36_62 : GC := .seq (.ops r36_61) s36_60
theorem s36_62_w {E : Env} {nt : Nat} {rd : Option Nat} {fr : Fr} {h : Heap} {Q : Ex → Fr → Heap → Prop} : s36_62.wp E nt rd fr h Q = (GC.seq (.ops r36_61) s36_60).wp E nt rd fr h Q := Eq.trans rfl rfl
def r36_63 : List GO := [⟨none, some 10, .move (.tmp 0)⟩,
  ⟨none, some 11, .call ⟨.value (.func 40), ⟨[.tmp 10]⟩, ⟨[27]⟩⟩⟩,
  ⟨none, some 9, .move (.tmp 11)⟩,
  ⟨none, some 12, .extract (.tmp 9) 0⟩,
  ⟨none, some 13, .extract (.tmp 9) 1⟩,
  ⟨none, some 14, .extract (.tmp 9) 2⟩,
  ⟨none, some 3, .assign (.tmp 12)⟩,
  ⟨none, some 4, .assign (.tmp 13)⟩,
  ⟨none, some 5, .assign (.tmp 14)⟩]
theorem r36_63_w {E : Env} {fr : Fr} {h : Heap} {Q : Fr → Heap → Prop} : opsW E r36_63 fr h Q = opsW E [⟨none, some 10, .move (.tmp 0)⟩,
  ⟨none, some 11, .call ⟨.value (.func 40), ⟨[.tmp 10]⟩, ⟨[27]⟩⟩⟩,
  ⟨none, some 9, .move (.tmp 11)⟩,
  ⟨none, some 12, .extract (.tmp 9) 0⟩,
  ⟨none, some 13, .extract (.tmp 9) 1⟩,
  ⟨none, some 14, .extract (.tmp 9) 2⟩,
  ⟨none, some 3, .assign (.tmp 12)⟩,
  ⟨none, some 4, .assign (.tmp 13)⟩,
  ⟨none, some 5, .assign (.tmp 14)⟩] fr h Q := Eq.trans rfl rfl
def s36_64 : GC := .seq (.ops r36_63) s36_62
theorem s36_64_w {E : Env} {nt : Nat} {rd : Option Nat} {fr : Fr} {h : Heap} {Q : Ex → Fr → Heap → Prop} : s36_64.wp E nt rd fr h Q = (GC.seq (.ops r36_63) s36_62).wp E nt rd fr h Q := Eq.trans rfl rfl
def r36_65 : List GO := [⟨none, some 2, .assign (.const (.string ⟨⟨[]⟩⟩))⟩]
theorem r36_65_w {E : Env} {fr : Fr} {h : Heap} {Q : Fr → Heap → Prop} : opsW E r36_65 fr h Q = opsW E [⟨none, some 2, .assign (.const (.string ⟨⟨[]⟩⟩))⟩] fr h Q := Eq.trans rfl rfl
def s36_66 : GC := .seq (.ops r36_65) s36_64
theorem s36_66_w {E : Env} {nt : Nat} {rd : Option Nat} {fr : Fr} {h : Heap} {Q : Ex → Fr → Heap → Prop} : s36_66.wp E nt rd fr h Q = (GC.seq (.ops r36_65) s36_64).wp E nt rd fr h Q := Eq.trans rfl rfl
theorem c36 : Tryd.f36.body.bind (clean env 68) = some s36_66 := by kernel_rfl
theorem e36 : env.funs.get 36 = some Tryd.f36 := by kernel_rfl
theorem F36 {args : List Value} {h : Heap} {K : Value → Heap → Prop} (hl : args.length = 1) (w : s36_66.wp env 68 none (setAll args 0 .leaf) h (resK env [.tmp 2] K)) : Ret env (.func 36) args h K :=
  Ret.of_body' rfl e36 c36 rfl rfl (by rw [hl]; decide) w

end Go.Proofs.YtjcmcoabckkjoaaDoor.Na

