/- Code of the reference's 'NaN', as plain Lean. Conditions: none. -/
import Derived.Test.YtjcmcoabckkjoaaDoorZFl
import Derived.Test.YtjcmcoabckkjoaaDoorChecked
import Derived.KernelRfl
set_option linter.unusedSimpArgs false
set_option linter.unusedVariables false
namespace Go.Proofs.YtjcmcoabckkjoaaDoor.Na
open Go.Ev
set_option maxRecDepth 100000
noncomputable def env : Env := envOf Tryd.prog 0 (extFl 18 10 fun _ _ _ => none)
section
variable {fr : Fr} {h : Heap} {K : Value → Heap → Prop} {x y z : Operand} {ps : List (Nat × Operand)}
theorem cv_23_3 : opW env (.convert 23 3 x) fr h K = evK env fr x fun v => cintK .i64 v fun u => K u h := opW_cint (k' := .u64) (by kernel_rfl) (by kernel_rfl)
end
/-! helmsman/helmsmanref31.NaN -/
def r19_0 : List GO := [⟨none, some 12, .move (.tmp 4)⟩,
  ⟨none, some 13, .binOp .eql 3 (.tmp 12) (.const (.int .i64 2047)) 3⟩,
  ⟨none, some 14, .move (.tmp 13)⟩,
  ⟨some (14, true), some 15, .move (.tmp 5)⟩,
  ⟨some (14, true), some 16, .binOp .gtr 23 (.tmp 15) (.const (.int .u64 0)) 23⟩,
  ⟨none, some 17, .pick (.tmp 14) (.tmp 16) (.const (.bool false))⟩,
  ⟨none, some 2, .assign (.tmp 17)⟩]
theorem r19_0_w {E : Env} {fr : Fr} {h : Heap} {Q : Fr → Heap → Prop} : opsW E r19_0 fr h Q = opsW E [⟨none, some 12, .move (.tmp 4)⟩,
  ⟨none, some 13, .binOp .eql 3 (.tmp 12) (.const (.int .i64 2047)) 3⟩,
  ⟨none, some 14, .move (.tmp 13)⟩,
  ⟨some (14, true), some 15, .move (.tmp 5)⟩,
  ⟨some (14, true), some 16, .binOp .gtr 23 (.tmp 15) (.const (.int .u64 0)) 23⟩,
  ⟨none, some 17, .pick (.tmp 14) (.tmp 16) (.const (.bool false))⟩,
  ⟨none, some 2, .assign (.tmp 17)⟩] fr h Q := Eq.trans rfl rfl
def s19_1 : GC := .seq (.ops r19_0) .ret
theorem s19_1_w {E : Env} {nt : Nat} {rd : Option Nat} {fr : Fr} {h : Heap} {Q : Ex → Fr → Heap → Prop} : s19_1.wp E nt rd fr h Q = (GC.seq (.ops r19_0) .ret).wp E nt rd fr h Q := Eq.trans rfl rfl
def r19_2 : List GO := [⟨none, some 7, .move (.tmp 0)⟩,
  ⟨none, some 8, .call ⟨.value (.func 40), ⟨[.tmp 7]⟩, ⟨[27]⟩⟩⟩,
  ⟨none, some 6, .move (.tmp 8)⟩,
  ⟨none, some 9, .extract (.tmp 6) 0⟩,
  ⟨none, some 10, .extract (.tmp 6) 1⟩,
  ⟨none, some 11, .extract (.tmp 6) 2⟩,
  ⟨none, some 3, .assign (.tmp 9)⟩,
  ⟨none, some 4, .assign (.tmp 10)⟩,
  ⟨none, some 5, .assign (.tmp 11)⟩]
theorem r19_2_w {E : Env} {fr : Fr} {h : Heap} {Q : Fr → Heap → Prop} : opsW E r19_2 fr h Q = opsW E [⟨none, some 7, .move (.tmp 0)⟩,
  ⟨none, some 8, .call ⟨.value (.func 40), ⟨[.tmp 7]⟩, ⟨[27]⟩⟩⟩,
  ⟨none, some 6, .move (.tmp 8)⟩,
  ⟨none, some 9, .extract (.tmp 6) 0⟩,
  ⟨none, some 10, .extract (.tmp 6) 1⟩,
  ⟨none, some 11, .extract (.tmp 6) 2⟩,
  ⟨none, some 3, .assign (.tmp 9)⟩,
  ⟨none, some 4, .assign (.tmp 10)⟩,
  ⟨none, some 5, .assign (.tmp 11)⟩] fr h Q := Eq.trans rfl rfl
def s19_3 : GC := .seq (.ops r19_2) s19_1
theorem s19_3_w {E : Env} {nt : Nat} {rd : Option Nat} {fr : Fr} {h : Heap} {Q : Ex → Fr → Heap → Prop} : s19_3.wp E nt rd fr h Q = (GC.seq (.ops r19_2) s19_1).wp E nt rd fr h Q := Eq.trans rfl rfl
def r19_4 : List GO := [⟨none, some 2, .assign (.const (.bool false))⟩]
theorem r19_4_w {E : Env} {fr : Fr} {h : Heap} {Q : Fr → Heap → Prop} : opsW E r19_4 fr h Q = opsW E [⟨none, some 2, .assign (.const (.bool false))⟩] fr h Q := Eq.trans rfl rfl
def s19_5 : GC := .seq (.ops r19_4) s19_3
theorem s19_5_w {E : Env} {nt : Nat} {rd : Option Nat} {fr : Fr} {h : Heap} {Q : Ex → Fr → Heap → Prop} : s19_5.wp E nt rd fr h Q = (GC.seq (.ops r19_4) s19_3).wp E nt rd fr h Q := Eq.trans rfl rfl
theorem c19 : Tryd.f19.body.bind (clean env 18) = some s19_5 := by kernel_rfl
theorem e19 : env.funs.get 19 = some Tryd.f19 := by kernel_rfl
theorem F19 {args : List Value} {h : Heap} {K : Value → Heap → Prop} (hl : args.length = 1) (w : s19_5.wp env 18 none (setAll args 0 .leaf) h (resK env [.tmp 2] K)) : Ret env (.func 19) args h K :=
  Ret.of_body' rfl e19 c19 rfl rfl (by rw [hl]; decide) w
/-! helmsman/helmsmanref31.parts -/
def r40_0 : List GO := [⟨none, some 8, .move (.tmp 5)⟩,
  ⟨none, some 9, .binOp .gtr 23 (.tmp 8) (.const (.int .u64 9223372036854775807)) 23⟩,
  ⟨none, some 10, .move (.tmp 5)⟩,
  ⟨none, some 11, .binOp .quo 23 (.tmp 10) (.const (.int .u64 4503599627370496)) 23⟩,
  ⟨none, some 12, .binOp .rem 23 (.tmp 11) (.const (.int .u64 2048)) 23⟩,
  ⟨none, some 13, .convert 23 3 (.tmp 12)⟩,
  ⟨none, some 14, .move (.tmp 5)⟩,
  ⟨none, some 15, .binOp .rem 23 (.tmp 14) (.const (.int .u64 4503599627370496)) 23⟩,
  ⟨none, some 2, .assign (.tmp 9)⟩,
  ⟨none, some 3, .assign (.tmp 13)⟩,
  ⟨none, some 4, .assign (.tmp 15)⟩]
theorem r40_0_w {E : Env} {fr : Fr} {h : Heap} {Q : Fr → Heap → Prop} : opsW E r40_0 fr h Q = opsW E [⟨none, some 8, .move (.tmp 5)⟩,
  ⟨none, some 9, .binOp .gtr 23 (.tmp 8) (.const (.int .u64 9223372036854775807)) 23⟩,
  ⟨none, some 10, .move (.tmp 5)⟩,
  ⟨none, some 11, .binOp .quo 23 (.tmp 10) (.const (.int .u64 4503599627370496)) 23⟩,
  ⟨none, some 12, .binOp .rem 23 (.tmp 11) (.const (.int .u64 2048)) 23⟩,
  ⟨none, some 13, .convert 23 3 (.tmp 12)⟩,
  ⟨none, some 14, .move (.tmp 5)⟩,
  ⟨none, some 15, .binOp .rem 23 (.tmp 14) (.const (.int .u64 4503599627370496)) 23⟩,
  ⟨none, some 2, .assign (.tmp 9)⟩,
  ⟨none, some 3, .assign (.tmp 13)⟩,
  ⟨none, some 4, .assign (.tmp 15)⟩] fr h Q := Eq.trans rfl rfl
def s40_1 : GC := .seq (.ops r40_0) .ret
theorem s40_1_w {E : Env} {nt : Nat} {rd : Option Nat} {fr : Fr} {h : Heap} {Q : Ex → Fr → Heap → Prop} : s40_1.wp E nt rd fr h Q = (GC.seq (.ops r40_0) .ret).wp E nt rd fr h Q := Eq.trans rfl rfl
def r40_2 : List GO := [⟨none, some 6, .move (.tmp 0)⟩,
  ⟨none, some 7, .call ⟨.value (.func 18), ⟨[.tmp 6]⟩, ⟨[27]⟩⟩⟩,
  ⟨none, some 5, .assign (.tmp 7)⟩]
theorem r40_2_w {E : Env} {fr : Fr} {h : Heap} {Q : Fr → Heap → Prop} : opsW E r40_2 fr h Q = opsW E [⟨none, some 6, .move (.tmp 0)⟩,
  ⟨none, some 7, .call ⟨.value (.func 18), ⟨[.tmp 6]⟩, ⟨[27]⟩⟩⟩,
  ⟨none, some 5, .assign (.tmp 7)⟩] fr h Q := Eq.trans rfl rfl
def s40_3 : GC := .seq (.ops r40_2) s40_1
theorem s40_3_w {E : Env} {nt : Nat} {rd : Option Nat} {fr : Fr} {h : Heap} {Q : Ex → Fr → Heap → Prop} : s40_3.wp E nt rd fr h Q = (GC.seq (.ops r40_2) s40_1).wp E nt rd fr h Q := Eq.trans rfl rfl
def r40_4 : List GO := [⟨none, some 2, .assign (.const (.bool false))⟩,
  ⟨none, some 3, .assign (.const (.int .i64 0))⟩,
  ⟨none, some 4, .assign (.const (.int .u64 0))⟩]
theorem r40_4_w {E : Env} {fr : Fr} {h : Heap} {Q : Fr → Heap → Prop} : opsW E r40_4 fr h Q = opsW E [⟨none, some 2, .assign (.const (.bool false))⟩,
  ⟨none, some 3, .assign (.const (.int .i64 0))⟩,
  ⟨none, some 4, .assign (.const (.int .u64 0))⟩] fr h Q := Eq.trans rfl rfl
def s40_5 : GC := .seq (.ops r40_4) s40_3
theorem s40_5_w {E : Env} {nt : Nat} {rd : Option Nat} {fr : Fr} {h : Heap} {Q : Ex → Fr → Heap → Prop} : s40_5.wp E nt rd fr h Q = (GC.seq (.ops r40_4) s40_3).wp E nt rd fr h Q := Eq.trans rfl rfl
theorem c40 : Tryd.f40.body.bind (clean env 16) = some s40_5 := by kernel_rfl
theorem e40 : env.funs.get 40 = some Tryd.f40 := by kernel_rfl
theorem F40 {args : List Value} {h : Heap} {K : Value → Heap → Prop} (hl : args.length = 1) (w : s40_5.wp env 16 none (setAll args 0 .leaf) h (resK env [.tmp 2, .tmp 3, .tmp 4] K)) : Ret env (.func 40) args h K :=
  Ret.of_body' rfl e40 c40 rfl rfl (by rw [hl]; decide) w

end Go.Proofs.YtjcmcoabckkjoaaDoor.Na
