/- THE CODE OF THE FUNCTIONS THAT THE LAW REACHES, AS PLAIN LEAN. Conditions: none. -/
import Derived.Test.YtfneaaapgpgdeaaDoorZTa
import Derived.Test.YtfneaaapgpgdeaaDoorMA
import Derived.Test.YtfneaaapgpgdeaaDoorChecked
import Derived.KernelRfl
set_option linter.unusedSimpArgs false
set_option linter.unusedVariables false
namespace Go.Proofs.YtfneaaapgpgdeaaDoor.Am
open Go.Ev
set_option maxRecDepth 100000
noncomputable def env : Env := envOf Tryd.prog 1 (extTab tabs ext3 7)
section
variable {fr : Fr} {h : Heap} {K : Value → Heap → Prop} {x y z : Operand} {ps : List (Nat × Operand)}
theorem callE : ∀ {f : FuncId} {xs : List Operand} {ts : Array TypeId}, opW env (.call ⟨.value (.func f), ⟨xs⟩, ts⟩) fr h K = evsK env fr xs fun us => Ret env (.func f) us h K := opW_call rfl
theorem bsl_28_7 : opW env (.buildSlice 28 7 ⟨ps⟩) fr h K = evpK env fr ps fun l => bsK 9 1 [.string ⟨⟨[]⟩⟩] 7 l h K := opW_buildSlice (by kernel_rfl) (by decide)
theorem ia_28 : opW env (.indexAddr 28 x y) fr h K = evK env fr x fun v => evK env fr y fun i => idxSK 1 v i fun u => K u h := opW_indexAddrS (by kernel_rfl)
theorem ld_9 : opW env (.load 9 x) fr h K = evK env fr x fun v => ld1K h v fun u => K u h := opW_load1 (by kernel_rfl)
theorem ld_24 : opW env (.load 24 x) fr h K = evK env fr x fun v => ldNK h 2 v fun u => K u h := opW_loadN (by kernel_rfl)
theorem bd_31 : opW env (.build 31 ⟨ps⟩) fr h K = evpK env fr ps fun l => bdK [.int .i64 0, .int .u64 0, .int .i64 0] [(0, 2), (2, 1)] l fun u => K u h := opW_build (by kernel_rfl)
theorem bd_24 : opW env (.build 24 ⟨ps⟩) fr h K = evpK env fr ps fun l => bdK [.int .i64 0, .int .u64 0] [(0, 1), (1, 1)] l fun u => K u h := opW_build (by kernel_rfl)
theorem agl_22 : ∀ {v : Value} {K : Value → Prop}, agL env 22 v h K = ld1K h v K := agL_one (by kernel_rfl)
theorem bd_34 : opW env (.build 34 ⟨ps⟩) fr h K = evpK env fr ps fun l => bdaK [.string ⟨⟨[]⟩⟩, .string ⟨⟨[]⟩⟩, .string ⟨⟨[]⟩⟩, .string ⟨⟨[]⟩⟩, .string ⟨⟨[]⟩⟩, .string ⟨⟨[]⟩⟩] 1 l fun u => K u h := opW_buildA (by kernel_rfl)
theorem al_34 : opW env (.alloc 34) fr h K = K (.pointer (some ⟨h.n, 0, none⟩)) (newBlk h (.cells [.string ⟨⟨[]⟩⟩, .string ⟨⟨[]⟩⟩, .string ⟨⟨[]⟩⟩, .string ⟨⟨[]⟩⟩, .string ⟨⟨[]⟩⟩, .string ⟨⟨[]⟩⟩] 34 true)) := opW_alloc (v := .agg ⟨[.string ⟨⟨[]⟩⟩, .string ⟨⟨[]⟩⟩, .string ⟨⟨[]⟩⟩, .string ⟨⟨[]⟩⟩, .string ⟨⟨[]⟩⟩, .string ⟨⟨[]⟩⟩]⟩) (by kernel_rfl) rfl rfl
theorem st_34 : opW env (.store 34 x y) fr h K = evK env fr x fun p => evK env fr y fun v => stK 6 p v h K := opW_store (by kernel_rfl)
theorem fa_31_1 : opW env (.fieldAddr 31 x 1) fr h K = evK env fr x fun v => fldAK 2 v fun u => K u h := opW_fieldAddr (by kernel_rfl)
theorem ld_27 : opW env (.load 27 x) fr h K = evK env fr x fun v => ld1K h v fun u => K u h := opW_load1 (by kernel_rfl)
theorem ia_34 : opW env (.indexAddr 34 x y) fr h K = evK env fr x fun v => evK env fr y fun i => idxAK 6 1 v i fun u => K u h := opW_indexAddrA (by kernel_rfl)
theorem fa_31_0 : opW env (.fieldAddr 31 x 0) fr h K = evK env fr x fun v => fldAK 0 v fun u => K u h := opW_fieldAddr (by kernel_rfl)
theorem fa_24_0 : opW env (.fieldAddr 24 x 0) fr h K = evK env fr x fun v => fldAK 0 v fun u => K u h := opW_fieldAddr (by kernel_rfl)
theorem ld_3 : opW env (.load 3 x) fr h K = evK env fr x fun v => ld1K h v fun u => K u h := opW_load1 (by kernel_rfl)
theorem fa_24_1 : opW env (.fieldAddr 24 x 1) fr h K = evK env fr x fun v => fldAK 1 v fun u => K u h := opW_fieldAddr (by kernel_rfl)
theorem ld_22 : opW env (.load 22 x) fr h K = evK env fr x fun v => ld1K h v fun u => K u h := opW_load1 (by kernel_rfl)
theorem cv_22_3 : opW env (.convert 22 3 x) fr h K = evK env fr x fun v => cintK .i64 v fun u => K u h := opW_cint (k' := .u64) (by kernel_rfl) (by kernel_rfl)
theorem al_77 : opW env (.alloc 77) fr h K = K (.pointer (some ⟨h.n, 0, none⟩)) (newBlk h (.cells [.int .u8 0, .int .u8 0, .int .u8 0, .int .u8 0, .int .u8 0, .int .u8 0, .int .u8 0, .int .u8 0, .int .u8 0, .int .u8 0, .int .u8 0, .int .u8 0, .int .u8 0, .int .u8 0, .int .u8 0, .int .u8 0, .int .u8 0, .int .u8 0, .int .u8 0, .int .u8 0, .int .u8 0, .int .u8 0, .int .u8 0, .int .u8 0] 77 true)) := opW_alloc (v := .agg ⟨[.int .u8 0, .int .u8 0, .int .u8 0, .int .u8 0, .int .u8 0, .int .u8 0, .int .u8 0, .int .u8 0, .int .u8 0, .int .u8 0, .int .u8 0, .int .u8 0, .int .u8 0, .int .u8 0, .int .u8 0, .int .u8 0, .int .u8 0, .int .u8 0, .int .u8 0, .int .u8 0, .int .u8 0, .int .u8 0, .int .u8 0, .int .u8 0]⟩) (by kernel_rfl) rfl rfl
theorem cv_80_9 : opW env (.convert 80 9 x) fr h K = evK env fr x fun v => bstrK h v fun u => K u h := opW_bstr (by kernel_rfl)
theorem cv_2_22 : opW env (.convert 2 22 x) fr h K = evK env fr x fun v => cintK .u64 v fun u => K u h := opW_cint (k' := .i64) (by kernel_rfl) (by kernel_rfl)
theorem ia_77 : opW env (.indexAddr 77 x y) fr h K = evK env fr x fun v => evK env fr y fun i => idxAK 24 1 v i fun u => K u h := opW_indexAddrA (by kernel_rfl)
theorem st_5 : opW env (.store 5 x y) fr h K = evK env fr x fun p => evK env fr y fun v => stK 1 p v h K := opW_store (by kernel_rfl)
theorem gl_0 : ∀ {K : Value → Prop}, evK env fr (.global 0) K = K (.pointer (some ⟨0, 0, none⟩)) := evK_global rfl
theorem ia_98 : opW env (.indexAddr 98 x y) fr h K = evK env fr x fun v => evK env fr y fun i => idxAK 20 1 v i fun u => K u h := opW_indexAddrA (by kernel_rfl)
end
/-! helmsman/helmsmanlaw28.AuthorityMay -/
def r3_0 : List GO := [⟨none, some 39, .move (.tmp 10)⟩,
  ⟨none, some 40, .binOp .geq 3 (.tmp 39) (.const (.int .i64 3)) 3⟩,
  ⟨none, some 41, .move (.tmp 40)⟩,
  ⟨some (41, true), some 42, .move (.tmp 9)⟩,
  ⟨some (41, true), some 43, .move (.tmp 10)⟩,
  ⟨some (41, true), some 44, .slice 9 (.tmp 42) (some (.tmp 43)) none none⟩,
  ⟨some (41, true), some 45, .move (.tmp 8)⟩,
  ⟨some (41, true), some 46, .binOp .add 9 (.const (.string ⟨⟨[32]⟩⟩)) (.tmp 45) 9⟩,
  ⟨some (41, true), some 47, .binOp .eql 9 (.tmp 44) (.tmp 46) 9⟩,
  ⟨none, some 48, .pick (.tmp 41) (.tmp 47) (.const (.bool false))⟩,
  ⟨none, some 49, .move (.tmp 48)⟩,
  ⟨some (49, true), some 50, .build 24 ⟨[(0, .const (.int .i64 12)), (1, .const (.int .u64 7))]⟩⟩,
  ⟨some (49, true), some 51, .build 31 ⟨[(0, .tmp 50)]⟩⟩,
  ⟨some (49, true), some 52, .call ⟨.value (.func 6), ⟨[.tmp 51]⟩, ⟨[31]⟩⟩⟩,
  ⟨some (49, true), some 53, .binOp .eql 9 (.tmp 52) (.const (.string ⟨⟨[49, 50, 46, 55, 32, 63]⟩⟩)) 9⟩,
  ⟨none, some 54, .pick (.tmp 49) (.tmp 53) (.const (.bool false))⟩,
  ⟨none, some 55, .move (.tmp 54)⟩,
  ⟨some (55, true), some 56, .call ⟨.value (.func 7), ⟨[]⟩, ⟨[]⟩⟩⟩,
  ⟨none, some 57, .pick (.tmp 55) (.tmp 56) (.const (.bool false))⟩,
  ⟨none, some 6, .assign (.tmp 57)⟩]
theorem r3_0_w {E : Env} {fr : Fr} {h : Heap} {Q : Fr → Heap → Prop} : opsW E r3_0 fr h Q = opsW E [⟨none, some 39, .move (.tmp 10)⟩,
  ⟨none, some 40, .binOp .geq 3 (.tmp 39) (.const (.int .i64 3)) 3⟩,
  ⟨none, some 41, .move (.tmp 40)⟩,
  ⟨some (41, true), some 42, .move (.tmp 9)⟩,
  ⟨some (41, true), some 43, .move (.tmp 10)⟩,
  ⟨some (41, true), some 44, .slice 9 (.tmp 42) (some (.tmp 43)) none none⟩,
  ⟨some (41, true), some 45, .move (.tmp 8)⟩,
  ⟨some (41, true), some 46, .binOp .add 9 (.const (.string ⟨⟨[32]⟩⟩)) (.tmp 45) 9⟩,
  ⟨some (41, true), some 47, .binOp .eql 9 (.tmp 44) (.tmp 46) 9⟩,
  ⟨none, some 48, .pick (.tmp 41) (.tmp 47) (.const (.bool false))⟩,
  ⟨none, some 49, .move (.tmp 48)⟩,
  ⟨some (49, true), some 50, .build 24 ⟨[(0, .const (.int .i64 12)), (1, .const (.int .u64 7))]⟩⟩,
  ⟨some (49, true), some 51, .build 31 ⟨[(0, .tmp 50)]⟩⟩,
  ⟨some (49, true), some 52, .call ⟨.value (.func 6), ⟨[.tmp 51]⟩, ⟨[31]⟩⟩⟩,
  ⟨some (49, true), some 53, .binOp .eql 9 (.tmp 52) (.const (.string ⟨⟨[49, 50, 46, 55, 32, 63]⟩⟩)) 9⟩,
  ⟨none, some 54, .pick (.tmp 49) (.tmp 53) (.const (.bool false))⟩,
  ⟨none, some 55, .move (.tmp 54)⟩,
  ⟨some (55, true), some 56, .call ⟨.value (.func 7), ⟨[]⟩, ⟨[]⟩⟩⟩,
  ⟨none, some 57, .pick (.tmp 55) (.tmp 56) (.const (.bool false))⟩,
  ⟨none, some 6, .assign (.tmp 57)⟩] fr h Q := Eq.trans rfl rfl
def s3_1 : GC := .seq (.ops r3_0) .ret
theorem s3_1_w {E : Env} {nt : Nat} {rd : Option Nat} {fr : Fr} {h : Heap} {Q : Ex → Fr → Heap → Prop} : s3_1.wp E nt rd fr h Q = (GC.seq (.ops r3_0) .ret).wp E nt rd fr h Q := Eq.trans rfl rfl
def r3_2 : List GO := [⟨none, some 33, .move (.tmp 9)⟩,
  ⟨none, some 34, .call ⟨.builtin .len, ⟨[.tmp 33]⟩, ⟨[9]⟩⟩⟩,
  ⟨none, some 35, .move (.tmp 8)⟩,
  ⟨none, some 36, .call ⟨.builtin .len, ⟨[.tmp 35]⟩, ⟨[9]⟩⟩⟩,
  ⟨none, some 37, .binOp .sub 3 (.tmp 34) (.tmp 36) 3⟩,
  ⟨none, some 38, .binOp .sub 3 (.tmp 37) (.const (.int .i64 1)) 3⟩,
  ⟨none, some 10, .assign (.tmp 38)⟩]
theorem r3_2_w {E : Env} {fr : Fr} {h : Heap} {Q : Fr → Heap → Prop} : opsW E r3_2 fr h Q = opsW E [⟨none, some 33, .move (.tmp 9)⟩,
  ⟨none, some 34, .call ⟨.builtin .len, ⟨[.tmp 33]⟩, ⟨[9]⟩⟩⟩,
  ⟨none, some 35, .move (.tmp 8)⟩,
  ⟨none, some 36, .call ⟨.builtin .len, ⟨[.tmp 35]⟩, ⟨[9]⟩⟩⟩,
  ⟨none, some 37, .binOp .sub 3 (.tmp 34) (.tmp 36) 3⟩,
  ⟨none, some 38, .binOp .sub 3 (.tmp 37) (.const (.int .i64 1)) 3⟩,
  ⟨none, some 10, .assign (.tmp 38)⟩] fr h Q := Eq.trans rfl rfl
def s3_3 : GC := .seq (.ops r3_2) s3_1
theorem s3_3_w {E : Env} {nt : Nat} {rd : Option Nat} {fr : Fr} {h : Heap} {Q : Ex → Fr → Heap → Prop} : s3_3.wp E nt rd fr h Q = (GC.seq (.ops r3_2) s3_1).wp E nt rd fr h Q := Eq.trans rfl rfl
def r3_4 : List GO := [⟨none, some 29, .load 24 (.tmp 5)⟩,
  ⟨none, some 30, .move (.tmp 1)⟩,
  ⟨none, some 31, .build 31 ⟨[(0, .tmp 29), (1, .tmp 30)]⟩⟩,
  ⟨none, some 32, .call ⟨.value (.func 6), ⟨[.tmp 31]⟩, ⟨[31]⟩⟩⟩,
  ⟨none, some 9, .assign (.tmp 32)⟩]
theorem r3_4_w {E : Env} {fr : Fr} {h : Heap} {Q : Fr → Heap → Prop} : opsW E r3_4 fr h Q = opsW E [⟨none, some 29, .load 24 (.tmp 5)⟩,
  ⟨none, some 30, .move (.tmp 1)⟩,
  ⟨none, some 31, .build 31 ⟨[(0, .tmp 29), (1, .tmp 30)]⟩⟩,
  ⟨none, some 32, .call ⟨.value (.func 6), ⟨[.tmp 31]⟩, ⟨[31]⟩⟩⟩,
  ⟨none, some 9, .assign (.tmp 32)⟩] fr h Q := Eq.trans rfl rfl
def s3_5 : GC := .seq (.ops r3_4) s3_3
theorem s3_5_w {E : Env} {nt : Nat} {rd : Option Nat} {fr : Fr} {h : Heap} {Q : Ex → Fr → Heap → Prop} : s3_5.wp E nt rd fr h Q = (GC.seq (.ops r3_4) s3_3).wp E nt rd fr h Q := Eq.trans rfl rfl
def r3_6 : List GO := [⟨none, some 25, .move (.tmp 7)⟩,
  ⟨none, some 26, .move (.tmp 1)⟩,
  ⟨none, some 27, .indexAddr 28 (.tmp 25) (.tmp 26)⟩,
  ⟨none, some 28, .load 9 (.tmp 27)⟩,
  ⟨none, some 8, .assign (.tmp 28)⟩]
theorem r3_6_w {E : Env} {fr : Fr} {h : Heap} {Q : Fr → Heap → Prop} : opsW E r3_6 fr h Q = opsW E [⟨none, some 25, .move (.tmp 7)⟩,
  ⟨none, some 26, .move (.tmp 1)⟩,
  ⟨none, some 27, .indexAddr 28 (.tmp 25) (.tmp 26)⟩,
  ⟨none, some 28, .load 9 (.tmp 27)⟩,
  ⟨none, some 8, .assign (.tmp 28)⟩] fr h Q := Eq.trans rfl rfl
def s3_7 : GC := .ops r3_6
theorem s3_7_w {E : Env} {nt : Nat} {rd : Option Nat} {fr : Fr} {h : Heap} {Q : Ex → Fr → Heap → Prop} : s3_7.wp E nt rd fr h Q = (GC.ops r3_6).wp E nt rd fr h Q := Eq.trans rfl rfl
def s3_8 : GC := .cond (.tmp 24) s3_7 .skip
theorem s3_8_w {E : Env} {nt : Nat} {rd : Option Nat} {fr : Fr} {h : Heap} {Q : Ex → Fr → Heap → Prop} : s3_8.wp E nt rd fr h Q = (GC.cond (.tmp 24) s3_7 .skip).wp E nt rd fr h Q := Eq.trans rfl rfl
def r3_9 : List GO := [⟨none, some 19, .move (.tmp 1)⟩,
  ⟨none, some 20, .binOp .geq 3 (.tmp 19) (.const (.int .i64 1)) 3⟩,
  ⟨none, some 21, .move (.tmp 20)⟩,
  ⟨some (21, true), some 22, .move (.tmp 1)⟩,
  ⟨some (21, true), some 23, .binOp .leq 3 (.tmp 22) (.const (.int .i64 6)) 3⟩,
  ⟨none, some 24, .pick (.tmp 21) (.tmp 23) (.const (.bool false))⟩]
theorem r3_9_w {E : Env} {fr : Fr} {h : Heap} {Q : Fr → Heap → Prop} : opsW E r3_9 fr h Q = opsW E [⟨none, some 19, .move (.tmp 1)⟩,
  ⟨none, some 20, .binOp .geq 3 (.tmp 19) (.const (.int .i64 1)) 3⟩,
  ⟨none, some 21, .move (.tmp 20)⟩,
  ⟨some (21, true), some 22, .move (.tmp 1)⟩,
  ⟨some (21, true), some 23, .binOp .leq 3 (.tmp 22) (.const (.int .i64 6)) 3⟩,
  ⟨none, some 24, .pick (.tmp 21) (.tmp 23) (.const (.bool false))⟩] fr h Q := Eq.trans rfl rfl
def s3_10 : GC := .seq (.ops r3_9) s3_8
theorem s3_10_w {E : Env} {nt : Nat} {rd : Option Nat} {fr : Fr} {h : Heap} {Q : Ex → Fr → Heap → Prop} : s3_10.wp E nt rd fr h Q = (GC.seq (.ops r3_9) s3_8).wp E nt rd fr h Q := Eq.trans rfl rfl
def s3_11 : GC := .seq (s3_10) s3_5
theorem s3_11_w {E : Env} {nt : Nat} {rd : Option Nat} {fr : Fr} {h : Heap} {Q : Ex → Fr → Heap → Prop} : s3_11.wp E nt rd fr h Q = (GC.seq (s3_10) s3_5).wp E nt rd fr h Q := Eq.trans rfl rfl
def r3_12 : List GO := [⟨none, some 8, .assign (.const (.string ⟨⟨[63]⟩⟩))⟩]
theorem r3_12_w {E : Env} {fr : Fr} {h : Heap} {Q : Fr → Heap → Prop} : opsW E r3_12 fr h Q = opsW E [⟨none, some 8, .assign (.const (.string ⟨⟨[63]⟩⟩))⟩] fr h Q := Eq.trans rfl rfl
def s3_13 : GC := .seq (.ops r3_12) s3_11
theorem s3_13_w {E : Env} {nt : Nat} {rd : Option Nat} {fr : Fr} {h : Heap} {Q : Ex → Fr → Heap → Prop} : s3_13.wp E nt rd fr h Q = (GC.seq (.ops r3_12) s3_11).wp E nt rd fr h Q := Eq.trans rfl rfl
def r3_14 : List GO := [⟨none, some 18, .buildSlice 28 7 ⟨[(0, .const (.string ⟨⟨[63]⟩⟩)), (1, .const (.string ⟨⟨[108, 105, 118, 101]⟩⟩)), (2, .const (.string ⟨⟨[102, 108, 97, 103]⟩⟩)), (3, .const (.string ⟨⟨[112, 97, 114, 107, 101, 100]⟩⟩)), (4, .const (.string ⟨⟨[97, 102, 102, 105, 110, 105, 116, 121]⟩⟩)), (5, .const (.string ⟨⟨[99, 111, 110, 116, 101, 120, 116]⟩⟩)), (6, .const (.string ⟨⟨[100, 111, 109, 97, 105, 110]⟩⟩))]⟩⟩,
  ⟨none, some 7, .assign (.tmp 18)⟩]
theorem r3_14_w {E : Env} {fr : Fr} {h : Heap} {Q : Fr → Heap → Prop} : opsW E r3_14 fr h Q = opsW E [⟨none, some 18, .buildSlice 28 7 ⟨[(0, .const (.string ⟨⟨[63]⟩⟩)), (1, .const (.string ⟨⟨[108, 105, 118, 101]⟩⟩)), (2, .const (.string ⟨⟨[102, 108, 97, 103]⟩⟩)), (3, .const (.string ⟨⟨[112, 97, 114, 107, 101, 100]⟩⟩)), (4, .const (.string ⟨⟨[97, 102, 102, 105, 110, 105, 116, 121]⟩⟩)), (5, .const (.string ⟨⟨[99, 111, 110, 116, 101, 120, 116]⟩⟩)), (6, .const (.string ⟨⟨[100, 111, 109, 97, 105, 110]⟩⟩))]⟩⟩,
  ⟨none, some 7, .assign (.tmp 18)⟩] fr h Q := Eq.trans rfl rfl
def s3_15 : GC := .seq (.ops r3_14) s3_13
theorem s3_15_w {E : Env} {nt : Nat} {rd : Option Nat} {fr : Fr} {h : Heap} {Q : Ex → Fr → Heap → Prop} : s3_15.wp E nt rd fr h Q = (GC.seq (.ops r3_14) s3_13).wp E nt rd fr h Q := Eq.trans rfl rfl
def r3_16 : List GO := [⟨none, some 6, .assign (.const (.bool false))⟩]
theorem r3_16_w {E : Env} {fr : Fr} {h : Heap} {Q : Fr → Heap → Prop} : opsW E r3_16 fr h Q = opsW E [⟨none, some 6, .assign (.const (.bool false))⟩] fr h Q := Eq.trans rfl rfl
def s3_17 : GC := .seq (.ops r3_16) .ret
theorem s3_17_w {E : Env} {nt : Nat} {rd : Option Nat} {fr : Fr} {h : Heap} {Q : Ex → Fr → Heap → Prop} : s3_17.wp E nt rd fr h Q = (GC.seq (.ops r3_16) .ret).wp E nt rd fr h Q := Eq.trans rfl rfl
def s3_18 : GC := .cond (.tmp 17) s3_17 .skip
theorem s3_18_w {E : Env} {nt : Nat} {rd : Option Nat} {fr : Fr} {h : Heap} {Q : Ex → Fr → Heap → Prop} : s3_18.wp E nt rd fr h Q = (GC.cond (.tmp 17) s3_17 .skip).wp E nt rd fr h Q := Eq.trans rfl rfl
def r3_19 : List GO := [⟨none, some 11, .move (.tmp 0)⟩,
  ⟨none, some 12, .move (.tmp 1)⟩,
  ⟨none, some 13, .call ⟨.value (.func 4), ⟨[.tmp 11, .tmp 12]⟩, ⟨[26, 27]⟩⟩⟩,
  ⟨none, some 14, .move (.tmp 0)⟩,
  ⟨none, some 15, .move (.tmp 1)⟩,
  ⟨none, some 16, .call ⟨.value (.func 5), ⟨[.tmp 14, .tmp 15]⟩, ⟨[26, 27]⟩⟩⟩,
  ⟨none, some 17, .binOp .neq 4 (.tmp 13) (.tmp 16) 4⟩]
theorem r3_19_w {E : Env} {fr : Fr} {h : Heap} {Q : Fr → Heap → Prop} : opsW E r3_19 fr h Q = opsW E [⟨none, some 11, .move (.tmp 0)⟩,
  ⟨none, some 12, .move (.tmp 1)⟩,
  ⟨none, some 13, .call ⟨.value (.func 4), ⟨[.tmp 11, .tmp 12]⟩, ⟨[26, 27]⟩⟩⟩,
  ⟨none, some 14, .move (.tmp 0)⟩,
  ⟨none, some 15, .move (.tmp 1)⟩,
  ⟨none, some 16, .call ⟨.value (.func 5), ⟨[.tmp 14, .tmp 15]⟩, ⟨[26, 27]⟩⟩⟩,
  ⟨none, some 17, .binOp .neq 4 (.tmp 13) (.tmp 16) 4⟩] fr h Q := Eq.trans rfl rfl
def s3_20 : GC := .seq (.ops r3_19) s3_18
theorem s3_20_w {E : Env} {nt : Nat} {rd : Option Nat} {fr : Fr} {h : Heap} {Q : Ex → Fr → Heap → Prop} : s3_20.wp E nt rd fr h Q = (GC.seq (.ops r3_19) s3_18).wp E nt rd fr h Q := Eq.trans rfl rfl
def s3_21 : GC := .seq (s3_20) s3_15
theorem s3_21_w {E : Env} {nt : Nat} {rd : Option Nat} {fr : Fr} {h : Heap} {Q : Ex → Fr → Heap → Prop} : s3_21.wp E nt rd fr h Q = (GC.seq (s3_20) s3_15).wp E nt rd fr h Q := Eq.trans rfl rfl
def r3_22 : List GO := [⟨none, some 5, .box 24 (.tmp 2)⟩,
  ⟨none, some 6, .assign (.const (.bool false))⟩]
theorem r3_22_w {E : Env} {fr : Fr} {h : Heap} {Q : Fr → Heap → Prop} : opsW E r3_22 fr h Q = opsW E [⟨none, some 5, .box 24 (.tmp 2)⟩,
  ⟨none, some 6, .assign (.const (.bool false))⟩] fr h Q := Eq.trans rfl rfl
def s3_23 : GC := .seq (.ops r3_22) s3_21
theorem s3_23_w {E : Env} {nt : Nat} {rd : Option Nat} {fr : Fr} {h : Heap} {Q : Ex → Fr → Heap → Prop} : s3_23.wp E nt rd fr h Q = (GC.seq (.ops r3_22) s3_21).wp E nt rd fr h Q := Eq.trans rfl rfl
theorem c3 : Tryd.f3.body.bind (clean env 58) = some s3_23 := by kernel_rfl
theorem e3 : env.funs.get 3 = some Tryd.f3 := by kernel_rfl
theorem F3 {args : List Value} {h : Heap} {K : Value → Heap → Prop} (hl : args.length = 3) (w : s3_23.wp env 58 none (setAll args 0 .leaf) h (resK env [.tmp 6] K)) : Ret env (.func 3) args h K :=
  Ret.of_body' rfl e3 c3 rfl rfl (by rw [hl]; decide) w
/-! helmsman/authority.May -/
def r4_0 : List GO := [⟨none, some 4, .assign (.const (.bool false))⟩]
theorem r4_0_w {E : Env} {fr : Fr} {h : Heap} {Q : Fr → Heap → Prop} : opsW E r4_0 fr h Q = opsW E [⟨none, some 4, .assign (.const (.bool false))⟩] fr h Q := Eq.trans rfl rfl
def s4_1 : GC := .seq (.ops r4_0) .ret
theorem s4_1_w {E : Env} {nt : Nat} {rd : Option Nat} {fr : Fr} {h : Heap} {Q : Ex → Fr → Heap → Prop} : s4_1.wp E nt rd fr h Q = (GC.seq (.ops r4_0) .ret).wp E nt rd fr h Q := Eq.trans rfl rfl
def r4_2 : List GO := [⟨none, some 30, .move (.tmp 1)⟩,
  ⟨none, some 31, .binOp .eql 27 (.tmp 30) (.const (.int .i64 5)) 27⟩,
  ⟨none, some 4, .assign (.tmp 31)⟩]
theorem r4_2_w {E : Env} {fr : Fr} {h : Heap} {Q : Fr → Heap → Prop} : opsW E r4_2 fr h Q = opsW E [⟨none, some 30, .move (.tmp 1)⟩,
  ⟨none, some 31, .binOp .eql 27 (.tmp 30) (.const (.int .i64 5)) 27⟩,
  ⟨none, some 4, .assign (.tmp 31)⟩] fr h Q := Eq.trans rfl rfl
def s4_3 : GC := .seq (.ops r4_2) .ret
theorem s4_3_w {E : Env} {nt : Nat} {rd : Option Nat} {fr : Fr} {h : Heap} {Q : Ex → Fr → Heap → Prop} : s4_3.wp E nt rd fr h Q = (GC.seq (.ops r4_2) .ret).wp E nt rd fr h Q := Eq.trans rfl rfl
def s4_4 : GC := .seq (s4_3) (.exit 0)
theorem s4_4_w {E : Env} {nt : Nat} {rd : Option Nat} {fr : Fr} {h : Heap} {Q : Ex → Fr → Heap → Prop} : s4_4.wp E nt rd fr h Q = (GC.seq (s4_3) (.exit 0)).wp E nt rd fr h Q := Eq.trans rfl rfl
def r4_5 : List GO := [⟨none, some 28, .move (.tmp 1)⟩,
  ⟨none, some 29, .binOp .eql 27 (.tmp 28) (.const (.int .i64 4)) 27⟩,
  ⟨none, some 4, .assign (.tmp 29)⟩]
theorem r4_5_w {E : Env} {fr : Fr} {h : Heap} {Q : Fr → Heap → Prop} : opsW E r4_5 fr h Q = opsW E [⟨none, some 28, .move (.tmp 1)⟩,
  ⟨none, some 29, .binOp .eql 27 (.tmp 28) (.const (.int .i64 4)) 27⟩,
  ⟨none, some 4, .assign (.tmp 29)⟩] fr h Q := Eq.trans rfl rfl
def s4_6 : GC := .seq (.ops r4_5) .ret
theorem s4_6_w {E : Env} {nt : Nat} {rd : Option Nat} {fr : Fr} {h : Heap} {Q : Ex → Fr → Heap → Prop} : s4_6.wp E nt rd fr h Q = (GC.seq (.ops r4_5) .ret).wp E nt rd fr h Q := Eq.trans rfl rfl
def s4_7 : GC := .seq (s4_6) (.exit 0)
theorem s4_7_w {E : Env} {nt : Nat} {rd : Option Nat} {fr : Fr} {h : Heap} {Q : Ex → Fr → Heap → Prop} : s4_7.wp E nt rd fr h Q = (GC.seq (s4_6) (.exit 0)).wp E nt rd fr h Q := Eq.trans rfl rfl
def r4_8 : List GO := [⟨none, some 26, .move (.tmp 1)⟩,
  ⟨none, some 27, .binOp .eql 27 (.tmp 26) (.const (.int .i64 2)) 27⟩,
  ⟨none, some 4, .assign (.tmp 27)⟩]
theorem r4_8_w {E : Env} {fr : Fr} {h : Heap} {Q : Fr → Heap → Prop} : opsW E r4_8 fr h Q = opsW E [⟨none, some 26, .move (.tmp 1)⟩,
  ⟨none, some 27, .binOp .eql 27 (.tmp 26) (.const (.int .i64 2)) 27⟩,
  ⟨none, some 4, .assign (.tmp 27)⟩] fr h Q := Eq.trans rfl rfl
def s4_9 : GC := .seq (.ops r4_8) .ret
theorem s4_9_w {E : Env} {nt : Nat} {rd : Option Nat} {fr : Fr} {h : Heap} {Q : Ex → Fr → Heap → Prop} : s4_9.wp E nt rd fr h Q = (GC.seq (.ops r4_8) .ret).wp E nt rd fr h Q := Eq.trans rfl rfl
def s4_10 : GC := .seq (s4_9) (.exit 0)
theorem s4_10_w {E : Env} {nt : Nat} {rd : Option Nat} {fr : Fr} {h : Heap} {Q : Ex → Fr → Heap → Prop} : s4_10.wp E nt rd fr h Q = (GC.seq (s4_9) (.exit 0)).wp E nt rd fr h Q := Eq.trans rfl rfl
def r4_11 : List GO := [⟨none, some 24, .move (.tmp 1)⟩,
  ⟨none, some 25, .binOp .eql 27 (.tmp 24) (.const (.int .i64 1)) 27⟩,
  ⟨none, some 4, .assign (.tmp 25)⟩]
theorem r4_11_w {E : Env} {fr : Fr} {h : Heap} {Q : Fr → Heap → Prop} : opsW E r4_11 fr h Q = opsW E [⟨none, some 24, .move (.tmp 1)⟩,
  ⟨none, some 25, .binOp .eql 27 (.tmp 24) (.const (.int .i64 1)) 27⟩,
  ⟨none, some 4, .assign (.tmp 25)⟩] fr h Q := Eq.trans rfl rfl
def s4_12 : GC := .seq (.ops r4_11) .ret
theorem s4_12_w {E : Env} {nt : Nat} {rd : Option Nat} {fr : Fr} {h : Heap} {Q : Ex → Fr → Heap → Prop} : s4_12.wp E nt rd fr h Q = (GC.seq (.ops r4_11) .ret).wp E nt rd fr h Q := Eq.trans rfl rfl
def s4_13 : GC := .seq (s4_12) (.exit 0)
theorem s4_13_w {E : Env} {nt : Nat} {rd : Option Nat} {fr : Fr} {h : Heap} {Q : Ex → Fr → Heap → Prop} : s4_13.wp E nt rd fr h Q = (GC.seq (s4_12) (.exit 0)).wp E nt rd fr h Q := Eq.trans rfl rfl
def r4_14 : List GO := [⟨none, some 18, .move (.tmp 1)⟩,
  ⟨none, some 19, .binOp .eql 27 (.tmp 18) (.const (.int .i64 3)) 27⟩,
  ⟨none, some 20, .move (.tmp 19)⟩,
  ⟨some (20, false), some 21, .move (.tmp 1)⟩,
  ⟨some (20, false), some 22, .binOp .eql 27 (.tmp 21) (.const (.int .i64 2)) 27⟩,
  ⟨none, some 23, .pick (.tmp 20) (.const (.bool true)) (.tmp 22)⟩,
  ⟨none, some 4, .assign (.tmp 23)⟩]
theorem r4_14_w {E : Env} {fr : Fr} {h : Heap} {Q : Fr → Heap → Prop} : opsW E r4_14 fr h Q = opsW E [⟨none, some 18, .move (.tmp 1)⟩,
  ⟨none, some 19, .binOp .eql 27 (.tmp 18) (.const (.int .i64 3)) 27⟩,
  ⟨none, some 20, .move (.tmp 19)⟩,
  ⟨some (20, false), some 21, .move (.tmp 1)⟩,
  ⟨some (20, false), some 22, .binOp .eql 27 (.tmp 21) (.const (.int .i64 2)) 27⟩,
  ⟨none, some 23, .pick (.tmp 20) (.const (.bool true)) (.tmp 22)⟩,
  ⟨none, some 4, .assign (.tmp 23)⟩] fr h Q := Eq.trans rfl rfl
def s4_15 : GC := .seq (.ops r4_14) .ret
theorem s4_15_w {E : Env} {nt : Nat} {rd : Option Nat} {fr : Fr} {h : Heap} {Q : Ex → Fr → Heap → Prop} : s4_15.wp E nt rd fr h Q = (GC.seq (.ops r4_14) .ret).wp E nt rd fr h Q := Eq.trans rfl rfl
def s4_16 : GC := .seq (s4_15) (.exit 0)
theorem s4_16_w {E : Env} {nt : Nat} {rd : Option Nat} {fr : Fr} {h : Heap} {Q : Ex → Fr → Heap → Prop} : s4_16.wp E nt rd fr h Q = (GC.seq (s4_15) (.exit 0)).wp E nt rd fr h Q := Eq.trans rfl rfl
def s4_17 : GC := .cond (.tmp 16) (.exit 6) .skip
theorem s4_17_w {E : Env} {nt : Nat} {rd : Option Nat} {fr : Fr} {h : Heap} {Q : Ex → Fr → Heap → Prop} : s4_17.wp E nt rd fr h Q = (GC.cond (.tmp 16) (.exit 6) .skip).wp E nt rd fr h Q := Eq.trans rfl rfl
def r4_18 : List GO := [⟨none, some 17, .binOp .eql 26 (.tmp 5) (.const (.int .i64 11)) 26⟩,
  ⟨none, some 16, .assign (.tmp 17)⟩]
theorem r4_18_w {E : Env} {fr : Fr} {h : Heap} {Q : Fr → Heap → Prop} : opsW E r4_18 fr h Q = opsW E [⟨none, some 17, .binOp .eql 26 (.tmp 5) (.const (.int .i64 11)) 26⟩,
  ⟨none, some 16, .assign (.tmp 17)⟩] fr h Q := Eq.trans rfl rfl
def s4_19 : GC := .seq (.ops r4_18) s4_17
theorem s4_19_w {E : Env} {nt : Nat} {rd : Option Nat} {fr : Fr} {h : Heap} {Q : Ex → Fr → Heap → Prop} : s4_19.wp E nt rd fr h Q = (GC.seq (.ops r4_18) s4_17).wp E nt rd fr h Q := Eq.trans rfl rfl
def s4_20 : GC := .cond (.tmp 14) (.exit 5) .skip
theorem s4_20_w {E : Env} {nt : Nat} {rd : Option Nat} {fr : Fr} {h : Heap} {Q : Ex → Fr → Heap → Prop} : s4_20.wp E nt rd fr h Q = (GC.cond (.tmp 14) (.exit 5) .skip).wp E nt rd fr h Q := Eq.trans rfl rfl
def r4_21 : List GO := [⟨none, some 15, .binOp .eql 26 (.tmp 5) (.const (.int .i64 10)) 26⟩,
  ⟨none, some 14, .assign (.tmp 15)⟩]
theorem r4_21_w {E : Env} {fr : Fr} {h : Heap} {Q : Fr → Heap → Prop} : opsW E r4_21 fr h Q = opsW E [⟨none, some 15, .binOp .eql 26 (.tmp 5) (.const (.int .i64 10)) 26⟩,
  ⟨none, some 14, .assign (.tmp 15)⟩] fr h Q := Eq.trans rfl rfl
def s4_22 : GC := .seq (.ops r4_21) s4_20
theorem s4_22_w {E : Env} {nt : Nat} {rd : Option Nat} {fr : Fr} {h : Heap} {Q : Ex → Fr → Heap → Prop} : s4_22.wp E nt rd fr h Q = (GC.seq (.ops r4_21) s4_20).wp E nt rd fr h Q := Eq.trans rfl rfl
def s4_23 : GC := .seq (s4_22) s4_19
theorem s4_23_w {E : Env} {nt : Nat} {rd : Option Nat} {fr : Fr} {h : Heap} {Q : Ex → Fr → Heap → Prop} : s4_23.wp E nt rd fr h Q = (GC.seq (s4_22) s4_19).wp E nt rd fr h Q := Eq.trans rfl rfl
def s4_24 : GC := .cond (.tmp 12) (.exit 4) .skip
theorem s4_24_w {E : Env} {nt : Nat} {rd : Option Nat} {fr : Fr} {h : Heap} {Q : Ex → Fr → Heap → Prop} : s4_24.wp E nt rd fr h Q = (GC.cond (.tmp 12) (.exit 4) .skip).wp E nt rd fr h Q := Eq.trans rfl rfl
def r4_25 : List GO := [⟨none, some 13, .binOp .eql 26 (.tmp 5) (.const (.int .i64 9)) 26⟩,
  ⟨none, some 12, .assign (.tmp 13)⟩]
theorem r4_25_w {E : Env} {fr : Fr} {h : Heap} {Q : Fr → Heap → Prop} : opsW E r4_25 fr h Q = opsW E [⟨none, some 13, .binOp .eql 26 (.tmp 5) (.const (.int .i64 9)) 26⟩,
  ⟨none, some 12, .assign (.tmp 13)⟩] fr h Q := Eq.trans rfl rfl
def s4_26 : GC := .seq (.ops r4_25) s4_24
theorem s4_26_w {E : Env} {nt : Nat} {rd : Option Nat} {fr : Fr} {h : Heap} {Q : Ex → Fr → Heap → Prop} : s4_26.wp E nt rd fr h Q = (GC.seq (.ops r4_25) s4_24).wp E nt rd fr h Q := Eq.trans rfl rfl
def s4_27 : GC := .seq (s4_26) s4_23
theorem s4_27_w {E : Env} {nt : Nat} {rd : Option Nat} {fr : Fr} {h : Heap} {Q : Ex → Fr → Heap → Prop} : s4_27.wp E nt rd fr h Q = (GC.seq (s4_26) s4_23).wp E nt rd fr h Q := Eq.trans rfl rfl
def s4_28 : GC := .cond (.tmp 10) (.exit 3) .skip
theorem s4_28_w {E : Env} {nt : Nat} {rd : Option Nat} {fr : Fr} {h : Heap} {Q : Ex → Fr → Heap → Prop} : s4_28.wp E nt rd fr h Q = (GC.cond (.tmp 10) (.exit 3) .skip).wp E nt rd fr h Q := Eq.trans rfl rfl
def r4_29 : List GO := [⟨none, some 11, .binOp .eql 26 (.tmp 5) (.const (.int .i64 8)) 26⟩,
  ⟨none, some 10, .assign (.tmp 11)⟩]
theorem r4_29_w {E : Env} {fr : Fr} {h : Heap} {Q : Fr → Heap → Prop} : opsW E r4_29 fr h Q = opsW E [⟨none, some 11, .binOp .eql 26 (.tmp 5) (.const (.int .i64 8)) 26⟩,
  ⟨none, some 10, .assign (.tmp 11)⟩] fr h Q := Eq.trans rfl rfl
def s4_30 : GC := .seq (.ops r4_29) s4_28
theorem s4_30_w {E : Env} {nt : Nat} {rd : Option Nat} {fr : Fr} {h : Heap} {Q : Ex → Fr → Heap → Prop} : s4_30.wp E nt rd fr h Q = (GC.seq (.ops r4_29) s4_28).wp E nt rd fr h Q := Eq.trans rfl rfl
def s4_31 : GC := .seq (s4_30) s4_27
theorem s4_31_w {E : Env} {nt : Nat} {rd : Option Nat} {fr : Fr} {h : Heap} {Q : Ex → Fr → Heap → Prop} : s4_31.wp E nt rd fr h Q = (GC.seq (s4_30) s4_27).wp E nt rd fr h Q := Eq.trans rfl rfl
def s4_32 : GC := .cond (.tmp 8) (.exit 2) .skip
theorem s4_32_w {E : Env} {nt : Nat} {rd : Option Nat} {fr : Fr} {h : Heap} {Q : Ex → Fr → Heap → Prop} : s4_32.wp E nt rd fr h Q = (GC.cond (.tmp 8) (.exit 2) .skip).wp E nt rd fr h Q := Eq.trans rfl rfl
def r4_33 : List GO := [⟨none, some 9, .binOp .eql 26 (.tmp 5) (.const (.int .i64 7)) 26⟩,
  ⟨none, some 8, .assign (.tmp 9)⟩]
theorem r4_33_w {E : Env} {fr : Fr} {h : Heap} {Q : Fr → Heap → Prop} : opsW E r4_33 fr h Q = opsW E [⟨none, some 9, .binOp .eql 26 (.tmp 5) (.const (.int .i64 7)) 26⟩,
  ⟨none, some 8, .assign (.tmp 9)⟩] fr h Q := Eq.trans rfl rfl
def s4_34 : GC := .seq (.ops r4_33) s4_32
theorem s4_34_w {E : Env} {nt : Nat} {rd : Option Nat} {fr : Fr} {h : Heap} {Q : Ex → Fr → Heap → Prop} : s4_34.wp E nt rd fr h Q = (GC.seq (.ops r4_33) s4_32).wp E nt rd fr h Q := Eq.trans rfl rfl
def s4_35 : GC := .seq (s4_34) s4_31
theorem s4_35_w {E : Env} {nt : Nat} {rd : Option Nat} {fr : Fr} {h : Heap} {Q : Ex → Fr → Heap → Prop} : s4_35.wp E nt rd fr h Q = (GC.seq (s4_34) s4_31).wp E nt rd fr h Q := Eq.trans rfl rfl
def s4_36 : GC := .cond (.tmp 6) (.exit 1) .skip
theorem s4_36_w {E : Env} {nt : Nat} {rd : Option Nat} {fr : Fr} {h : Heap} {Q : Ex → Fr → Heap → Prop} : s4_36.wp E nt rd fr h Q = (GC.cond (.tmp 6) (.exit 1) .skip).wp E nt rd fr h Q := Eq.trans rfl rfl
def r4_37 : List GO := [⟨none, some 7, .binOp .eql 26 (.tmp 5) (.const (.int .i64 6)) 26⟩,
  ⟨none, some 6, .assign (.tmp 7)⟩]
theorem r4_37_w {E : Env} {fr : Fr} {h : Heap} {Q : Fr → Heap → Prop} : opsW E r4_37 fr h Q = opsW E [⟨none, some 7, .binOp .eql 26 (.tmp 5) (.const (.int .i64 6)) 26⟩,
  ⟨none, some 6, .assign (.tmp 7)⟩] fr h Q := Eq.trans rfl rfl
def s4_38 : GC := .seq (.ops r4_37) s4_36
theorem s4_38_w {E : Env} {nt : Nat} {rd : Option Nat} {fr : Fr} {h : Heap} {Q : Ex → Fr → Heap → Prop} : s4_38.wp E nt rd fr h Q = (GC.seq (.ops r4_37) s4_36).wp E nt rd fr h Q := Eq.trans rfl rfl
def s4_39 : GC := .seq (s4_38) s4_35
theorem s4_39_w {E : Env} {nt : Nat} {rd : Option Nat} {fr : Fr} {h : Heap} {Q : Ex → Fr → Heap → Prop} : s4_39.wp E nt rd fr h Q = (GC.seq (s4_38) s4_35).wp E nt rd fr h Q := Eq.trans rfl rfl
def s4_40 : GC := .seq (s4_39) (.exit 0)
theorem s4_40_w {E : Env} {nt : Nat} {rd : Option Nat} {fr : Fr} {h : Heap} {Q : Ex → Fr → Heap → Prop} : s4_40.wp E nt rd fr h Q = (GC.seq (s4_39) (.exit 0)).wp E nt rd fr h Q := Eq.trans rfl rfl
def s4_41 : GC := .seq (.block 1 s4_40) s4_16
theorem s4_41_w {E : Env} {nt : Nat} {rd : Option Nat} {fr : Fr} {h : Heap} {Q : Ex → Fr → Heap → Prop} : s4_41.wp E nt rd fr h Q = (GC.seq (.block 1 s4_40) s4_16).wp E nt rd fr h Q := Eq.trans rfl rfl
def s4_42 : GC := .seq (.block 2 s4_41) s4_13
theorem s4_42_w {E : Env} {nt : Nat} {rd : Option Nat} {fr : Fr} {h : Heap} {Q : Ex → Fr → Heap → Prop} : s4_42.wp E nt rd fr h Q = (GC.seq (.block 2 s4_41) s4_13).wp E nt rd fr h Q := Eq.trans rfl rfl
def s4_43 : GC := .block 3 s4_42
theorem s4_43_w {E : Env} {nt : Nat} {rd : Option Nat} {fr : Fr} {h : Heap} {Q : Ex → Fr → Heap → Prop} : s4_43.wp E nt rd fr h Q = (GC.block 3 s4_42).wp E nt rd fr h Q := Eq.trans rfl rfl
def s4_44 : GC := .seq (.block 4 s4_43) s4_10
theorem s4_44_w {E : Env} {nt : Nat} {rd : Option Nat} {fr : Fr} {h : Heap} {Q : Ex → Fr → Heap → Prop} : s4_44.wp E nt rd fr h Q = (GC.seq (.block 4 s4_43) s4_10).wp E nt rd fr h Q := Eq.trans rfl rfl
def s4_45 : GC := .seq (.block 5 s4_44) s4_7
theorem s4_45_w {E : Env} {nt : Nat} {rd : Option Nat} {fr : Fr} {h : Heap} {Q : Ex → Fr → Heap → Prop} : s4_45.wp E nt rd fr h Q = (GC.seq (.block 5 s4_44) s4_7).wp E nt rd fr h Q := Eq.trans rfl rfl
def s4_46 : GC := .seq (.block 6 s4_45) s4_4
theorem s4_46_w {E : Env} {nt : Nat} {rd : Option Nat} {fr : Fr} {h : Heap} {Q : Ex → Fr → Heap → Prop} : s4_46.wp E nt rd fr h Q = (GC.seq (.block 6 s4_45) s4_4).wp E nt rd fr h Q := Eq.trans rfl rfl
def s4_47 : GC := .block 0 s4_46
theorem s4_47_w {E : Env} {nt : Nat} {rd : Option Nat} {fr : Fr} {h : Heap} {Q : Ex → Fr → Heap → Prop} : s4_47.wp E nt rd fr h Q = (GC.block 0 s4_46).wp E nt rd fr h Q := Eq.trans rfl rfl
def r4_48 : List GO := [⟨none, some 5, .move (.tmp 0)⟩]
theorem r4_48_w {E : Env} {fr : Fr} {h : Heap} {Q : Fr → Heap → Prop} : opsW E r4_48 fr h Q = opsW E [⟨none, some 5, .move (.tmp 0)⟩] fr h Q := Eq.trans rfl rfl
def s4_49 : GC := .seq (.ops r4_48) s4_47
theorem s4_49_w {E : Env} {nt : Nat} {rd : Option Nat} {fr : Fr} {h : Heap} {Q : Ex → Fr → Heap → Prop} : s4_49.wp E nt rd fr h Q = (GC.seq (.ops r4_48) s4_47).wp E nt rd fr h Q := Eq.trans rfl rfl
def s4_50 : GC := .seq (s4_49) s4_1
theorem s4_50_w {E : Env} {nt : Nat} {rd : Option Nat} {fr : Fr} {h : Heap} {Q : Ex → Fr → Heap → Prop} : s4_50.wp E nt rd fr h Q = (GC.seq (s4_49) s4_1).wp E nt rd fr h Q := Eq.trans rfl rfl
def r4_51 : List GO := [⟨none, some 4, .assign (.const (.bool false))⟩]
theorem r4_51_w {E : Env} {fr : Fr} {h : Heap} {Q : Fr → Heap → Prop} : opsW E r4_51 fr h Q = opsW E [⟨none, some 4, .assign (.const (.bool false))⟩] fr h Q := Eq.trans rfl rfl
def s4_52 : GC := .seq (.ops r4_51) s4_50
theorem s4_52_w {E : Env} {nt : Nat} {rd : Option Nat} {fr : Fr} {h : Heap} {Q : Ex → Fr → Heap → Prop} : s4_52.wp E nt rd fr h Q = (GC.seq (.ops r4_51) s4_50).wp E nt rd fr h Q := Eq.trans rfl rfl
theorem c4 : Tryd.f4.body.bind (clean env 32) = some s4_52 := by kernel_rfl
theorem e4 : env.funs.get 4 = some Tryd.f4 := by kernel_rfl
theorem F4 {args : List Value} {h : Heap} {K : Value → Heap → Prop} (hl : args.length = 2) (w : s4_52.wp env 32 none (setAll args 0 .leaf) h (resK env [.tmp 4] K)) : Ret env (.func 4) args h K :=
  Ret.of_body' rfl e4 c4 rfl rfl (by rw [hl]; decide) w
/-! helmsman/helmsmanref28.May -/
def r5_0 : List GO := [⟨none, some 5, .move (.tmp 0)⟩,
  ⟨none, some 6, .binOp .eql 26 (.tmp 5) (.const (.int .i64 6)) 26⟩,
  ⟨none, some 7, .move (.tmp 6)⟩,
  ⟨some (7, true), some 8, .move (.tmp 1)⟩,
  ⟨some (7, true), some 9, .binOp .eql 27 (.tmp 8) (.const (.int .i64 3)) 27⟩,
  ⟨some (7, true), some 10, .move (.tmp 9)⟩,
  ⟨some (10, false), some 11, .move (.tmp 1)⟩,
  ⟨some (10, false), some 12, .binOp .eql 27 (.tmp 11) (.const (.int .i64 2)) 27⟩,
  ⟨some (7, true), some 13, .pick (.tmp 10) (.const (.bool true)) (.tmp 12)⟩,
  ⟨none, some 14, .pick (.tmp 7) (.tmp 13) (.const (.bool false))⟩,
  ⟨none, some 15, .move (.tmp 14)⟩,
  ⟨some (15, false), some 16, .move (.tmp 0)⟩,
  ⟨some (15, false), some 17, .binOp .eql 26 (.tmp 16) (.const (.int .i64 7)) 26⟩,
  ⟨some (15, false), some 18, .move (.tmp 17)⟩,
  ⟨some (18, true), some 19, .move (.tmp 1)⟩,
  ⟨some (18, true), some 20, .binOp .eql 27 (.tmp 19) (.const (.int .i64 1)) 27⟩,
  ⟨some (15, false), some 21, .pick (.tmp 18) (.tmp 20) (.const (.bool false))⟩,
  ⟨none, some 22, .pick (.tmp 15) (.const (.bool true)) (.tmp 21)⟩,
  ⟨none, some 23, .move (.tmp 22)⟩,
  ⟨some (23, false), some 24, .move (.tmp 0)⟩,
  ⟨some (23, false), some 25, .binOp .eql 26 (.tmp 24) (.const (.int .i64 8)) 26⟩,
  ⟨some (23, false), some 26, .move (.tmp 25)⟩,
  ⟨some (26, false), some 27, .move (.tmp 0)⟩,
  ⟨some (26, false), some 28, .binOp .eql 26 (.tmp 27) (.const (.int .i64 9)) 26⟩,
  ⟨some (23, false), some 29, .pick (.tmp 26) (.const (.bool true)) (.tmp 28)⟩,
  ⟨some (23, false), some 30, .move (.tmp 29)⟩,
  ⟨some (30, true), some 31, .move (.tmp 1)⟩,
  ⟨some (30, true), some 32, .binOp .eql 27 (.tmp 31) (.const (.int .i64 2)) 27⟩,
  ⟨some (23, false), some 33, .pick (.tmp 30) (.tmp 32) (.const (.bool false))⟩,
  ⟨none, some 34, .pick (.tmp 23) (.const (.bool true)) (.tmp 33)⟩,
  ⟨none, some 35, .move (.tmp 34)⟩,
  ⟨some (35, false), some 36, .move (.tmp 0)⟩,
  ⟨some (35, false), some 37, .binOp .eql 26 (.tmp 36) (.const (.int .i64 10)) 26⟩,
  ⟨some (35, false), some 38, .move (.tmp 37)⟩,
  ⟨some (38, true), some 39, .move (.tmp 1)⟩,
  ⟨some (38, true), some 40, .binOp .eql 27 (.tmp 39) (.const (.int .i64 4)) 27⟩,
  ⟨some (35, false), some 41, .pick (.tmp 38) (.tmp 40) (.const (.bool false))⟩,
  ⟨none, some 42, .pick (.tmp 35) (.const (.bool true)) (.tmp 41)⟩,
  ⟨none, some 43, .move (.tmp 42)⟩,
  ⟨some (43, false), some 44, .move (.tmp 0)⟩,
  ⟨some (43, false), some 45, .binOp .eql 26 (.tmp 44) (.const (.int .i64 11)) 26⟩,
  ⟨some (43, false), some 46, .move (.tmp 45)⟩,
  ⟨some (46, true), some 47, .move (.tmp 1)⟩,
  ⟨some (46, true), some 48, .binOp .eql 27 (.tmp 47) (.const (.int .i64 5)) 27⟩,
  ⟨some (43, false), some 49, .pick (.tmp 46) (.tmp 48) (.const (.bool false))⟩,
  ⟨none, some 50, .pick (.tmp 43) (.const (.bool true)) (.tmp 49)⟩,
  ⟨none, some 4, .assign (.tmp 50)⟩]
theorem r5_0_w {E : Env} {fr : Fr} {h : Heap} {Q : Fr → Heap → Prop} : opsW E r5_0 fr h Q = opsW E [⟨none, some 5, .move (.tmp 0)⟩,
  ⟨none, some 6, .binOp .eql 26 (.tmp 5) (.const (.int .i64 6)) 26⟩,
  ⟨none, some 7, .move (.tmp 6)⟩,
  ⟨some (7, true), some 8, .move (.tmp 1)⟩,
  ⟨some (7, true), some 9, .binOp .eql 27 (.tmp 8) (.const (.int .i64 3)) 27⟩,
  ⟨some (7, true), some 10, .move (.tmp 9)⟩,
  ⟨some (10, false), some 11, .move (.tmp 1)⟩,
  ⟨some (10, false), some 12, .binOp .eql 27 (.tmp 11) (.const (.int .i64 2)) 27⟩,
  ⟨some (7, true), some 13, .pick (.tmp 10) (.const (.bool true)) (.tmp 12)⟩,
  ⟨none, some 14, .pick (.tmp 7) (.tmp 13) (.const (.bool false))⟩,
  ⟨none, some 15, .move (.tmp 14)⟩,
  ⟨some (15, false), some 16, .move (.tmp 0)⟩,
  ⟨some (15, false), some 17, .binOp .eql 26 (.tmp 16) (.const (.int .i64 7)) 26⟩,
  ⟨some (15, false), some 18, .move (.tmp 17)⟩,
  ⟨some (18, true), some 19, .move (.tmp 1)⟩,
  ⟨some (18, true), some 20, .binOp .eql 27 (.tmp 19) (.const (.int .i64 1)) 27⟩,
  ⟨some (15, false), some 21, .pick (.tmp 18) (.tmp 20) (.const (.bool false))⟩,
  ⟨none, some 22, .pick (.tmp 15) (.const (.bool true)) (.tmp 21)⟩,
  ⟨none, some 23, .move (.tmp 22)⟩,
  ⟨some (23, false), some 24, .move (.tmp 0)⟩,
  ⟨some (23, false), some 25, .binOp .eql 26 (.tmp 24) (.const (.int .i64 8)) 26⟩,
  ⟨some (23, false), some 26, .move (.tmp 25)⟩,
  ⟨some (26, false), some 27, .move (.tmp 0)⟩,
  ⟨some (26, false), some 28, .binOp .eql 26 (.tmp 27) (.const (.int .i64 9)) 26⟩,
  ⟨some (23, false), some 29, .pick (.tmp 26) (.const (.bool true)) (.tmp 28)⟩,
  ⟨some (23, false), some 30, .move (.tmp 29)⟩,
  ⟨some (30, true), some 31, .move (.tmp 1)⟩,
  ⟨some (30, true), some 32, .binOp .eql 27 (.tmp 31) (.const (.int .i64 2)) 27⟩,
  ⟨some (23, false), some 33, .pick (.tmp 30) (.tmp 32) (.const (.bool false))⟩,
  ⟨none, some 34, .pick (.tmp 23) (.const (.bool true)) (.tmp 33)⟩,
  ⟨none, some 35, .move (.tmp 34)⟩,
  ⟨some (35, false), some 36, .move (.tmp 0)⟩,
  ⟨some (35, false), some 37, .binOp .eql 26 (.tmp 36) (.const (.int .i64 10)) 26⟩,
  ⟨some (35, false), some 38, .move (.tmp 37)⟩,
  ⟨some (38, true), some 39, .move (.tmp 1)⟩,
  ⟨some (38, true), some 40, .binOp .eql 27 (.tmp 39) (.const (.int .i64 4)) 27⟩,
  ⟨some (35, false), some 41, .pick (.tmp 38) (.tmp 40) (.const (.bool false))⟩,
  ⟨none, some 42, .pick (.tmp 35) (.const (.bool true)) (.tmp 41)⟩,
  ⟨none, some 43, .move (.tmp 42)⟩,
  ⟨some (43, false), some 44, .move (.tmp 0)⟩,
  ⟨some (43, false), some 45, .binOp .eql 26 (.tmp 44) (.const (.int .i64 11)) 26⟩,
  ⟨some (43, false), some 46, .move (.tmp 45)⟩,
  ⟨some (46, true), some 47, .move (.tmp 1)⟩,
  ⟨some (46, true), some 48, .binOp .eql 27 (.tmp 47) (.const (.int .i64 5)) 27⟩,
  ⟨some (43, false), some 49, .pick (.tmp 46) (.tmp 48) (.const (.bool false))⟩,
  ⟨none, some 50, .pick (.tmp 43) (.const (.bool true)) (.tmp 49)⟩,
  ⟨none, some 4, .assign (.tmp 50)⟩] fr h Q := Eq.trans rfl rfl
def s5_1 : GC := .seq (.ops r5_0) .ret
theorem s5_1_w {E : Env} {nt : Nat} {rd : Option Nat} {fr : Fr} {h : Heap} {Q : Ex → Fr → Heap → Prop} : s5_1.wp E nt rd fr h Q = (GC.seq (.ops r5_0) .ret).wp E nt rd fr h Q := Eq.trans rfl rfl
def r5_2 : List GO := [⟨none, some 4, .assign (.const (.bool false))⟩]
theorem r5_2_w {E : Env} {fr : Fr} {h : Heap} {Q : Fr → Heap → Prop} : opsW E r5_2 fr h Q = opsW E [⟨none, some 4, .assign (.const (.bool false))⟩] fr h Q := Eq.trans rfl rfl
def s5_3 : GC := .seq (.ops r5_2) s5_1
theorem s5_3_w {E : Env} {nt : Nat} {rd : Option Nat} {fr : Fr} {h : Heap} {Q : Ex → Fr → Heap → Prop} : s5_3.wp E nt rd fr h Q = (GC.seq (.ops r5_2) s5_1).wp E nt rd fr h Q := Eq.trans rfl rfl
theorem c5 : Tryd.f5.body.bind (clean env 51) = some s5_3 := by kernel_rfl
theorem e5 : env.funs.get 5 = some Tryd.f5 := by kernel_rfl
theorem F5 {args : List Value} {h : Heap} {K : Value → Heap → Prop} (hl : args.length = 2) (w : s5_3.wp env 51 none (setAll args 0 .leaf) h (resK env [.tmp 4] K)) : Ret env (.func 5) args h K :=
  Ret.of_body' rfl e5 c5 rfl rfl (by rw [hl]; decide) w
/-! helmsman/authority.Text -/
def p6_0 : List (GO × List GO) := [(⟨none, some 19, .fieldAddr 31 (.tmp 1) 0⟩, []),
  (⟨none, some 20, .fieldAddr 24 (.tmp 19) 0⟩, []),
  (⟨none, some 21, .load 3 (.tmp 20)⟩, []),
  (⟨none, some 24, .fieldAddr 31 (.tmp 1) 0⟩, []),
  (⟨none, some 25, .fieldAddr 24 (.tmp 24) 1⟩, []),
  (⟨none, some 26, .load 22 (.tmp 25)⟩, []),
  (⟨none, some 30, .move (.tmp 4)⟩, []),
  (⟨none, some 22, .call ⟨.value (.func 8), ⟨[.tmp 21]⟩, ⟨[3]⟩⟩⟩, [⟨none, some 26, .load 22 (.tmp 25)⟩]),
  (⟨none, some 23, .binOp .add 9 (.tmp 22) (.const (.string ⟨⟨[46]⟩⟩)) 9⟩, []),
  (⟨none, some 27, .call ⟨.value (.func 9), ⟨[.tmp 26, .const (.int .i64 10)]⟩, ⟨[22, 3]⟩⟩⟩, []),
  (⟨none, some 28, .binOp .add 9 (.tmp 23) (.tmp 27) 9⟩, []),
  (⟨none, some 29, .binOp .add 9 (.tmp 28) (.const (.string ⟨⟨[32]⟩⟩)) 9⟩, []),
  (⟨none, some 31, .binOp .add 9 (.tmp 29) (.tmp 30) 9⟩, []),
  (⟨none, some 2, .assign (.tmp 31)⟩, [])]
theorem p6_0_w {E : Env} {fr : Fr} {h : Heap} {Q : Fr → Heap → Prop} : planW E p6_0 fr h Q = planW E [(⟨none, some 19, .fieldAddr 31 (.tmp 1) 0⟩, []),
  (⟨none, some 20, .fieldAddr 24 (.tmp 19) 0⟩, []),
  (⟨none, some 21, .load 3 (.tmp 20)⟩, []),
  (⟨none, some 24, .fieldAddr 31 (.tmp 1) 0⟩, []),
  (⟨none, some 25, .fieldAddr 24 (.tmp 24) 1⟩, []),
  (⟨none, some 26, .load 22 (.tmp 25)⟩, []),
  (⟨none, some 30, .move (.tmp 4)⟩, []),
  (⟨none, some 22, .call ⟨.value (.func 8), ⟨[.tmp 21]⟩, ⟨[3]⟩⟩⟩, [⟨none, some 26, .load 22 (.tmp 25)⟩]),
  (⟨none, some 23, .binOp .add 9 (.tmp 22) (.const (.string ⟨⟨[46]⟩⟩)) 9⟩, []),
  (⟨none, some 27, .call ⟨.value (.func 9), ⟨[.tmp 26, .const (.int .i64 10)]⟩, ⟨[22, 3]⟩⟩⟩, []),
  (⟨none, some 28, .binOp .add 9 (.tmp 23) (.tmp 27) 9⟩, []),
  (⟨none, some 29, .binOp .add 9 (.tmp 28) (.const (.string ⟨⟨[32]⟩⟩)) 9⟩, []),
  (⟨none, some 31, .binOp .add 9 (.tmp 29) (.tmp 30) 9⟩, []),
  (⟨none, some 2, .assign (.tmp 31)⟩, [])] fr h Q := Eq.trans rfl rfl
def s6_1 : GC := .seq (.plan p6_0) .ret
theorem s6_1_w {E : Env} {nt : Nat} {rd : Option Nat} {fr : Fr} {h : Heap} {Q : Ex → Fr → Heap → Prop} : s6_1.wp E nt rd fr h Q = (GC.seq (.plan p6_0) .ret).wp E nt rd fr h Q := Eq.trans rfl rfl
def r6_2 : List GO := [⟨none, some 14, .fieldAddr 31 (.tmp 1) 1⟩,
  ⟨none, some 15, .load 27 (.tmp 14)⟩,
  ⟨none, some 16, .binOp .sub 27 (.tmp 15) (.const (.int .i64 1)) 27⟩,
  ⟨none, some 17, .indexAddr 34 (.tmp 3) (.tmp 16)⟩,
  ⟨none, some 18, .load 9 (.tmp 17)⟩,
  ⟨none, some 4, .assign (.tmp 18)⟩]
theorem r6_2_w {E : Env} {fr : Fr} {h : Heap} {Q : Fr → Heap → Prop} : opsW E r6_2 fr h Q = opsW E [⟨none, some 14, .fieldAddr 31 (.tmp 1) 1⟩,
  ⟨none, some 15, .load 27 (.tmp 14)⟩,
  ⟨none, some 16, .binOp .sub 27 (.tmp 15) (.const (.int .i64 1)) 27⟩,
  ⟨none, some 17, .indexAddr 34 (.tmp 3) (.tmp 16)⟩,
  ⟨none, some 18, .load 9 (.tmp 17)⟩,
  ⟨none, some 4, .assign (.tmp 18)⟩] fr h Q := Eq.trans rfl rfl
def s6_3 : GC := .ops r6_2
theorem s6_3_w {E : Env} {nt : Nat} {rd : Option Nat} {fr : Fr} {h : Heap} {Q : Ex → Fr → Heap → Prop} : s6_3.wp E nt rd fr h Q = (GC.ops r6_2).wp E nt rd fr h Q := Eq.trans rfl rfl
def s6_4 : GC := .cond (.tmp 13) s6_3 .skip
theorem s6_4_w {E : Env} {nt : Nat} {rd : Option Nat} {fr : Fr} {h : Heap} {Q : Ex → Fr → Heap → Prop} : s6_4.wp E nt rd fr h Q = (GC.cond (.tmp 13) s6_3 .skip).wp E nt rd fr h Q := Eq.trans rfl rfl
def r6_5 : List GO := [⟨none, some 6, .fieldAddr 31 (.tmp 1) 1⟩,
  ⟨none, some 7, .load 27 (.tmp 6)⟩,
  ⟨none, some 8, .binOp .geq 27 (.tmp 7) (.const (.int .i64 1)) 27⟩,
  ⟨none, some 9, .move (.tmp 8)⟩,
  ⟨some (9, true), some 10, .fieldAddr 31 (.tmp 1) 1⟩,
  ⟨some (9, true), some 11, .load 27 (.tmp 10)⟩,
  ⟨some (9, true), some 12, .binOp .leq 3 (.tmp 11) (.const (.int .i64 6)) 3⟩,
  ⟨none, some 13, .pick (.tmp 9) (.tmp 12) (.const (.bool false))⟩]
theorem r6_5_w {E : Env} {fr : Fr} {h : Heap} {Q : Fr → Heap → Prop} : opsW E r6_5 fr h Q = opsW E [⟨none, some 6, .fieldAddr 31 (.tmp 1) 1⟩,
  ⟨none, some 7, .load 27 (.tmp 6)⟩,
  ⟨none, some 8, .binOp .geq 27 (.tmp 7) (.const (.int .i64 1)) 27⟩,
  ⟨none, some 9, .move (.tmp 8)⟩,
  ⟨some (9, true), some 10, .fieldAddr 31 (.tmp 1) 1⟩,
  ⟨some (9, true), some 11, .load 27 (.tmp 10)⟩,
  ⟨some (9, true), some 12, .binOp .leq 3 (.tmp 11) (.const (.int .i64 6)) 3⟩,
  ⟨none, some 13, .pick (.tmp 9) (.tmp 12) (.const (.bool false))⟩] fr h Q := Eq.trans rfl rfl
def s6_6 : GC := .seq (.ops r6_5) s6_4
theorem s6_6_w {E : Env} {nt : Nat} {rd : Option Nat} {fr : Fr} {h : Heap} {Q : Ex → Fr → Heap → Prop} : s6_6.wp E nt rd fr h Q = (GC.seq (.ops r6_5) s6_4).wp E nt rd fr h Q := Eq.trans rfl rfl
def s6_7 : GC := .seq (s6_6) s6_1
theorem s6_7_w {E : Env} {nt : Nat} {rd : Option Nat} {fr : Fr} {h : Heap} {Q : Ex → Fr → Heap → Prop} : s6_7.wp E nt rd fr h Q = (GC.seq (s6_6) s6_1).wp E nt rd fr h Q := Eq.trans rfl rfl
def r6_8 : List GO := [⟨none, some 4, .assign (.const (.string ⟨⟨[63]⟩⟩))⟩]
theorem r6_8_w {E : Env} {fr : Fr} {h : Heap} {Q : Fr → Heap → Prop} : opsW E r6_8 fr h Q = opsW E [⟨none, some 4, .assign (.const (.string ⟨⟨[63]⟩⟩))⟩] fr h Q := Eq.trans rfl rfl
def s6_9 : GC := .seq (.ops r6_8) s6_7
theorem s6_9_w {E : Env} {nt : Nat} {rd : Option Nat} {fr : Fr} {h : Heap} {Q : Ex → Fr → Heap → Prop} : s6_9.wp E nt rd fr h Q = (GC.seq (.ops r6_8) s6_7).wp E nt rd fr h Q := Eq.trans rfl rfl
def r6_10 : List GO := [⟨none, some 5, .build 34 ⟨[(0, .const (.string ⟨⟨[108, 105, 118, 101]⟩⟩)), (1, .const (.string ⟨⟨[102, 108, 97, 103]⟩⟩)), (2, .const (.string ⟨⟨[112, 97, 114, 107, 101, 100]⟩⟩)), (3, .const (.string ⟨⟨[97, 102, 102, 105, 110, 105, 116, 121]⟩⟩)), (4, .const (.string ⟨⟨[99, 111, 110, 116, 101, 120, 116]⟩⟩)), (5, .const (.string ⟨⟨[100, 111, 109, 97, 105, 110]⟩⟩))]⟩⟩,
  ⟨none, some 3, .alloc 34⟩,
  ⟨none, none, .store 34 (.tmp 3) (.tmp 5)⟩]
theorem r6_10_w {E : Env} {fr : Fr} {h : Heap} {Q : Fr → Heap → Prop} : opsW E r6_10 fr h Q = opsW E [⟨none, some 5, .build 34 ⟨[(0, .const (.string ⟨⟨[108, 105, 118, 101]⟩⟩)), (1, .const (.string ⟨⟨[102, 108, 97, 103]⟩⟩)), (2, .const (.string ⟨⟨[112, 97, 114, 107, 101, 100]⟩⟩)), (3, .const (.string ⟨⟨[97, 102, 102, 105, 110, 105, 116, 121]⟩⟩)), (4, .const (.string ⟨⟨[99, 111, 110, 116, 101, 120, 116]⟩⟩)), (5, .const (.string ⟨⟨[100, 111, 109, 97, 105, 110]⟩⟩))]⟩⟩,
  ⟨none, some 3, .alloc 34⟩,
  ⟨none, none, .store 34 (.tmp 3) (.tmp 5)⟩] fr h Q := Eq.trans rfl rfl
def s6_11 : GC := .seq (.ops r6_10) s6_9
theorem s6_11_w {E : Env} {nt : Nat} {rd : Option Nat} {fr : Fr} {h : Heap} {Q : Ex → Fr → Heap → Prop} : s6_11.wp E nt rd fr h Q = (GC.seq (.ops r6_10) s6_9).wp E nt rd fr h Q := Eq.trans rfl rfl
def r6_12 : List GO := [⟨none, some 1, .box 31 (.tmp 0)⟩,
  ⟨none, some 2, .assign (.const (.string ⟨⟨[]⟩⟩))⟩]
theorem r6_12_w {E : Env} {fr : Fr} {h : Heap} {Q : Fr → Heap → Prop} : opsW E r6_12 fr h Q = opsW E [⟨none, some 1, .box 31 (.tmp 0)⟩,
  ⟨none, some 2, .assign (.const (.string ⟨⟨[]⟩⟩))⟩] fr h Q := Eq.trans rfl rfl
def s6_13 : GC := .seq (.ops r6_12) s6_11
theorem s6_13_w {E : Env} {nt : Nat} {rd : Option Nat} {fr : Fr} {h : Heap} {Q : Ex → Fr → Heap → Prop} : s6_13.wp E nt rd fr h Q = (GC.seq (.ops r6_12) s6_11).wp E nt rd fr h Q := Eq.trans rfl rfl
theorem c6 : Tryd.f6.body.bind (clean env 32) = some s6_13 := by kernel_rfl
theorem e6 : env.funs.get 6 = some Tryd.f6 := by kernel_rfl
theorem F6 {args : List Value} {h : Heap} {K : Value → Heap → Prop} (hl : args.length = 1) (w : s6_13.wp env 32 none (setAll args 0 .leaf) h (resK env [.tmp 2] K)) : Ret env (.func 6) args h K :=
  Ret.of_body' rfl e6 c6 rfl rfl (by rw [hl]; decide) w
/-! strconv.Itoa -/
def r8_0 : List GO := [⟨none, some 3, .move (.tmp 0)⟩,
  ⟨none, some 4, .call ⟨.value (.func 13), ⟨[.tmp 3]⟩, ⟨[3]⟩⟩⟩,
  ⟨none, some 2, .assign (.tmp 4)⟩]
theorem r8_0_w {E : Env} {fr : Fr} {h : Heap} {Q : Fr → Heap → Prop} : opsW E r8_0 fr h Q = opsW E [⟨none, some 3, .move (.tmp 0)⟩,
  ⟨none, some 4, .call ⟨.value (.func 13), ⟨[.tmp 3]⟩, ⟨[3]⟩⟩⟩,
  ⟨none, some 2, .assign (.tmp 4)⟩] fr h Q := Eq.trans rfl rfl
def s8_1 : GC := .seq (.ops r8_0) .ret
theorem s8_1_w {E : Env} {nt : Nat} {rd : Option Nat} {fr : Fr} {h : Heap} {Q : Ex → Fr → Heap → Prop} : s8_1.wp E nt rd fr h Q = (GC.seq (.ops r8_0) .ret).wp E nt rd fr h Q := Eq.trans rfl rfl
def r8_2 : List GO := [⟨none, some 2, .assign (.const (.string ⟨⟨[]⟩⟩))⟩]
theorem r8_2_w {E : Env} {fr : Fr} {h : Heap} {Q : Fr → Heap → Prop} : opsW E r8_2 fr h Q = opsW E [⟨none, some 2, .assign (.const (.string ⟨⟨[]⟩⟩))⟩] fr h Q := Eq.trans rfl rfl
def s8_3 : GC := .seq (.ops r8_2) s8_1
theorem s8_3_w {E : Env} {nt : Nat} {rd : Option Nat} {fr : Fr} {h : Heap} {Q : Ex → Fr → Heap → Prop} : s8_3.wp E nt rd fr h Q = (GC.seq (.ops r8_2) s8_1).wp E nt rd fr h Q := Eq.trans rfl rfl
theorem c8 : Tryd.f8.body.bind (clean env 5) = some s8_3 := by kernel_rfl
theorem e8 : env.funs.get 8 = some Tryd.f8 := by kernel_rfl
theorem F8 {args : List Value} {h : Heap} {K : Value → Heap → Prop} (hl : args.length = 1) (w : s8_3.wp env 5 none (setAll args 0 .leaf) h (resK env [.tmp 2] K)) : Ret env (.func 8) args h K :=
  Ret.of_body' rfl e8 c8 rfl rfl (by rw [hl]; decide) w
/-! strconv.FormatUint -/
def r9_0 : List GO := [⟨none, some 5, .move (.tmp 0)⟩,
  ⟨none, some 6, .move (.tmp 1)⟩,
  ⟨none, some 7, .call ⟨.value (.func 14), ⟨[.tmp 5, .tmp 6]⟩, ⟨[22, 3]⟩⟩⟩,
  ⟨none, some 4, .assign (.tmp 7)⟩]
theorem r9_0_w {E : Env} {fr : Fr} {h : Heap} {Q : Fr → Heap → Prop} : opsW E r9_0 fr h Q = opsW E [⟨none, some 5, .move (.tmp 0)⟩,
  ⟨none, some 6, .move (.tmp 1)⟩,
  ⟨none, some 7, .call ⟨.value (.func 14), ⟨[.tmp 5, .tmp 6]⟩, ⟨[22, 3]⟩⟩⟩,
  ⟨none, some 4, .assign (.tmp 7)⟩] fr h Q := Eq.trans rfl rfl
def s9_1 : GC := .seq (.ops r9_0) .ret
theorem s9_1_w {E : Env} {nt : Nat} {rd : Option Nat} {fr : Fr} {h : Heap} {Q : Ex → Fr → Heap → Prop} : s9_1.wp E nt rd fr h Q = (GC.seq (.ops r9_0) .ret).wp E nt rd fr h Q := Eq.trans rfl rfl
def r9_2 : List GO := [⟨none, some 4, .assign (.const (.string ⟨⟨[]⟩⟩))⟩]
theorem r9_2_w {E : Env} {fr : Fr} {h : Heap} {Q : Fr → Heap → Prop} : opsW E r9_2 fr h Q = opsW E [⟨none, some 4, .assign (.const (.string ⟨⟨[]⟩⟩))⟩] fr h Q := Eq.trans rfl rfl
def s9_3 : GC := .seq (.ops r9_2) s9_1
theorem s9_3_w {E : Env} {nt : Nat} {rd : Option Nat} {fr : Fr} {h : Heap} {Q : Ex → Fr → Heap → Prop} : s9_3.wp E nt rd fr h Q = (GC.seq (.ops r9_2) s9_1).wp E nt rd fr h Q := Eq.trans rfl rfl
theorem c9 : Tryd.f9.body.bind (clean env 8) = some s9_3 := by kernel_rfl
theorem e9 : env.funs.get 9 = some Tryd.f9 := by kernel_rfl
theorem F9 {args : List Value} {h : Heap} {K : Value → Heap → Prop} (hl : args.length = 2) (w : s9_3.wp env 8 none (setAll args 0 .leaf) h (resK env [.tmp 4] K)) : Ret env (.func 9) args h K :=
  Ret.of_body' rfl e9 c9 rfl rfl (by rw [hl]; decide) w
/-! internal/strconv.Itoa -/
def r13_0 : List GO := [⟨none, some 3, .move (.tmp 0)⟩,
  ⟨none, some 4, .call ⟨.value (.func 17), ⟨[.tmp 3, .const (.int .i64 10)]⟩, ⟨[2, 3]⟩⟩⟩,
  ⟨none, some 2, .assign (.tmp 4)⟩]
theorem r13_0_w {E : Env} {fr : Fr} {h : Heap} {Q : Fr → Heap → Prop} : opsW E r13_0 fr h Q = opsW E [⟨none, some 3, .move (.tmp 0)⟩,
  ⟨none, some 4, .call ⟨.value (.func 17), ⟨[.tmp 3, .const (.int .i64 10)]⟩, ⟨[2, 3]⟩⟩⟩,
  ⟨none, some 2, .assign (.tmp 4)⟩] fr h Q := Eq.trans rfl rfl
def s13_1 : GC := .seq (.ops r13_0) .ret
theorem s13_1_w {E : Env} {nt : Nat} {rd : Option Nat} {fr : Fr} {h : Heap} {Q : Ex → Fr → Heap → Prop} : s13_1.wp E nt rd fr h Q = (GC.seq (.ops r13_0) .ret).wp E nt rd fr h Q := Eq.trans rfl rfl
def r13_2 : List GO := [⟨none, some 2, .assign (.const (.string ⟨⟨[]⟩⟩))⟩]
theorem r13_2_w {E : Env} {fr : Fr} {h : Heap} {Q : Fr → Heap → Prop} : opsW E r13_2 fr h Q = opsW E [⟨none, some 2, .assign (.const (.string ⟨⟨[]⟩⟩))⟩] fr h Q := Eq.trans rfl rfl
def s13_3 : GC := .seq (.ops r13_2) s13_1
theorem s13_3_w {E : Env} {nt : Nat} {rd : Option Nat} {fr : Fr} {h : Heap} {Q : Ex → Fr → Heap → Prop} : s13_3.wp E nt rd fr h Q = (GC.seq (.ops r13_2) s13_1).wp E nt rd fr h Q := Eq.trans rfl rfl
theorem c13 : Tryd.f13.body.bind (clean env 5) = some s13_3 := by kernel_rfl
theorem e13 : env.funs.get 13 = some Tryd.f13 := by kernel_rfl
theorem F13 {args : List Value} {h : Heap} {K : Value → Heap → Prop} (hl : args.length = 1) (w : s13_3.wp env 5 none (setAll args 0 .leaf) h (resK env [.tmp 2] K)) : Ret env (.func 13) args h K :=
  Ret.of_body' rfl e13 c13 rfl rfl (by rw [hl]; decide) w
/-! internal/strconv.FormatUint -/
def r14_0 : List GO := [⟨none, some 31, .move (.tmp 8)⟩,
  ⟨none, some 4, .assign (.tmp 31)⟩]
theorem r14_0_w {E : Env} {fr : Fr} {h : Heap} {Q : Fr → Heap → Prop} : opsW E r14_0 fr h Q = opsW E [⟨none, some 31, .move (.tmp 8)⟩,
  ⟨none, some 4, .assign (.tmp 31)⟩] fr h Q := Eq.trans rfl rfl
def s14_1 : GC := .seq (.ops r14_0) .ret
theorem s14_1_w {E : Env} {nt : Nat} {rd : Option Nat} {fr : Fr} {h : Heap} {Q : Ex → Fr → Heap → Prop} : s14_1.wp E nt rd fr h Q = (GC.seq (.ops r14_0) .ret).wp E nt rd fr h Q := Eq.trans rfl rfl
def r14_2 : List GO := [⟨none, some 26, .move (.tmp 0)⟩,
  ⟨none, some 27, .move (.tmp 1)⟩,
  ⟨none, some 28, .call ⟨.value (.func 21), ⟨[.const (.slice none 0 0), .tmp 26, .tmp 27, .const (.bool false), .const (.bool false)]⟩, ⟨[80, 22, 3, 4, 4]⟩⟩⟩,
  ⟨none, some 25, .move (.tmp 28)⟩,
  ⟨none, some 29, .extract (.tmp 25) 0⟩,
  ⟨none, some 30, .extract (.tmp 25) 1⟩,
  ⟨none, some 7, .assign (.tmp 29)⟩,
  ⟨none, some 8, .assign (.tmp 30)⟩]
theorem r14_2_w {E : Env} {fr : Fr} {h : Heap} {Q : Fr → Heap → Prop} : opsW E r14_2 fr h Q = opsW E [⟨none, some 26, .move (.tmp 0)⟩,
  ⟨none, some 27, .move (.tmp 1)⟩,
  ⟨none, some 28, .call ⟨.value (.func 21), ⟨[.const (.slice none 0 0), .tmp 26, .tmp 27, .const (.bool false), .const (.bool false)]⟩, ⟨[80, 22, 3, 4, 4]⟩⟩⟩,
  ⟨none, some 25, .move (.tmp 28)⟩,
  ⟨none, some 29, .extract (.tmp 25) 0⟩,
  ⟨none, some 30, .extract (.tmp 25) 1⟩,
  ⟨none, some 7, .assign (.tmp 29)⟩,
  ⟨none, some 8, .assign (.tmp 30)⟩] fr h Q := Eq.trans rfl rfl
def s14_3 : GC := .seq (.ops r14_2) s14_1
theorem s14_3_w {E : Env} {nt : Nat} {rd : Option Nat} {fr : Fr} {h : Heap} {Q : Ex → Fr → Heap → Prop} : s14_3.wp E nt rd fr h Q = (GC.seq (.ops r14_2) s14_1).wp E nt rd fr h Q := Eq.trans rfl rfl
def r14_4 : List GO := [⟨none, some 22, .move (.tmp 6)⟩,
  ⟨none, some 23, .slice 77 (.tmp 5) none (some (.tmp 22)) none⟩,
  ⟨none, some 24, .convert 80 9 (.tmp 23)⟩,
  ⟨none, some 4, .assign (.tmp 24)⟩]
theorem r14_4_w {E : Env} {fr : Fr} {h : Heap} {Q : Fr → Heap → Prop} : opsW E r14_4 fr h Q = opsW E [⟨none, some 22, .move (.tmp 6)⟩,
  ⟨none, some 23, .slice 77 (.tmp 5) none (some (.tmp 22)) none⟩,
  ⟨none, some 24, .convert 80 9 (.tmp 23)⟩,
  ⟨none, some 4, .assign (.tmp 24)⟩] fr h Q := Eq.trans rfl rfl
def s14_5 : GC := .seq (.ops r14_4) .ret
theorem s14_5_w {E : Env} {nt : Nat} {rd : Option Nat} {fr : Fr} {h : Heap} {Q : Ex → Fr → Heap → Prop} : s14_5.wp E nt rd fr h Q = (GC.seq (.ops r14_4) .ret).wp E nt rd fr h Q := Eq.trans rfl rfl
def r14_6 : List GO := [⟨none, some 18, .move (.tmp 6)⟩,
  ⟨none, some 19, .slice 77 (.tmp 5) none (some (.tmp 18)) none⟩,
  ⟨none, some 20, .move (.tmp 0)⟩,
  ⟨none, some 21, .call ⟨.value (.func 20), ⟨[.tmp 19, .tmp 20]⟩, ⟨[80, 22]⟩⟩⟩]
theorem r14_6_w {E : Env} {fr : Fr} {h : Heap} {Q : Fr → Heap → Prop} : opsW E r14_6 fr h Q = opsW E [⟨none, some 18, .move (.tmp 6)⟩,
  ⟨none, some 19, .slice 77 (.tmp 5) none (some (.tmp 18)) none⟩,
  ⟨none, some 20, .move (.tmp 0)⟩,
  ⟨none, some 21, .call ⟨.value (.func 20), ⟨[.tmp 19, .tmp 20]⟩, ⟨[80, 22]⟩⟩⟩] fr h Q := Eq.trans rfl rfl
def s14_7 : GC := .seq (.ops r14_6) s14_5
theorem s14_7_w {E : Env} {nt : Nat} {rd : Option Nat} {fr : Fr} {h : Heap} {Q : Ex → Fr → Heap → Prop} : s14_7.wp E nt rd fr h Q = (GC.seq (.ops r14_6) s14_5).wp E nt rd fr h Q := Eq.trans rfl rfl
def r14_8 : List GO := [⟨none, some 16, .move (.tmp 0)⟩,
  ⟨none, some 17, .call ⟨.value (.func 19), ⟨[.tmp 16]⟩, ⟨[22]⟩⟩⟩,
  ⟨none, some 6, .assign (.tmp 17)⟩]
theorem r14_8_w {E : Env} {fr : Fr} {h : Heap} {Q : Fr → Heap → Prop} : opsW E r14_8 fr h Q = opsW E [⟨none, some 16, .move (.tmp 0)⟩,
  ⟨none, some 17, .call ⟨.value (.func 19), ⟨[.tmp 16]⟩, ⟨[22]⟩⟩⟩,
  ⟨none, some 6, .assign (.tmp 17)⟩] fr h Q := Eq.trans rfl rfl
def s14_9 : GC := .seq (.ops r14_8) s14_7
theorem s14_9_w {E : Env} {nt : Nat} {rd : Option Nat} {fr : Fr} {h : Heap} {Q : Ex → Fr → Heap → Prop} : s14_9.wp E nt rd fr h Q = (GC.seq (.ops r14_8) s14_7).wp E nt rd fr h Q := Eq.trans rfl rfl
def r14_10 : List GO := [⟨none, some 5, .alloc 77⟩]
theorem r14_10_w {E : Env} {fr : Fr} {h : Heap} {Q : Fr → Heap → Prop} : opsW E r14_10 fr h Q = opsW E [⟨none, some 5, .alloc 77⟩] fr h Q := Eq.trans rfl rfl
def s14_11 : GC := .seq (.ops r14_10) s14_9
theorem s14_11_w {E : Env} {nt : Nat} {rd : Option Nat} {fr : Fr} {h : Heap} {Q : Ex → Fr → Heap → Prop} : s14_11.wp E nt rd fr h Q = (GC.seq (.ops r14_10) s14_9).wp E nt rd fr h Q := Eq.trans rfl rfl
def r14_12 : List GO := [⟨none, some 13, .move (.tmp 0)⟩,
  ⟨none, some 14, .convert 22 3 (.tmp 13)⟩,
  ⟨none, some 15, .call ⟨.value (.func 18), ⟨[.tmp 14]⟩, ⟨[3]⟩⟩⟩,
  ⟨none, some 4, .assign (.tmp 15)⟩]
theorem r14_12_w {E : Env} {fr : Fr} {h : Heap} {Q : Fr → Heap → Prop} : opsW E r14_12 fr h Q = opsW E [⟨none, some 13, .move (.tmp 0)⟩,
  ⟨none, some 14, .convert 22 3 (.tmp 13)⟩,
  ⟨none, some 15, .call ⟨.value (.func 18), ⟨[.tmp 14]⟩, ⟨[3]⟩⟩⟩,
  ⟨none, some 4, .assign (.tmp 15)⟩] fr h Q := Eq.trans rfl rfl
def s14_13 : GC := .seq (.ops r14_12) .ret
theorem s14_13_w {E : Env} {nt : Nat} {rd : Option Nat} {fr : Fr} {h : Heap} {Q : Ex → Fr → Heap → Prop} : s14_13.wp E nt rd fr h Q = (GC.seq (.ops r14_12) .ret).wp E nt rd fr h Q := Eq.trans rfl rfl
def s14_14 : GC := .cond (.tmp 12) s14_13 .skip
theorem s14_14_w {E : Env} {nt : Nat} {rd : Option Nat} {fr : Fr} {h : Heap} {Q : Ex → Fr → Heap → Prop} : s14_14.wp E nt rd fr h Q = (GC.cond (.tmp 12) s14_13 .skip).wp E nt rd fr h Q := Eq.trans rfl rfl
def r14_15 : List GO := [⟨none, some 11, .move (.tmp 0)⟩,
  ⟨none, some 12, .binOp .lss 22 (.tmp 11) (.const (.int .u64 100)) 22⟩]
theorem r14_15_w {E : Env} {fr : Fr} {h : Heap} {Q : Fr → Heap → Prop} : opsW E r14_15 fr h Q = opsW E [⟨none, some 11, .move (.tmp 0)⟩,
  ⟨none, some 12, .binOp .lss 22 (.tmp 11) (.const (.int .u64 100)) 22⟩] fr h Q := Eq.trans rfl rfl
def s14_16 : GC := .seq (.ops r14_15) s14_14
theorem s14_16_w {E : Env} {nt : Nat} {rd : Option Nat} {fr : Fr} {h : Heap} {Q : Ex → Fr → Heap → Prop} : s14_16.wp E nt rd fr h Q = (GC.seq (.ops r14_15) s14_14).wp E nt rd fr h Q := Eq.trans rfl rfl
def s14_17 : GC := .seq (s14_16) s14_11
theorem s14_17_w {E : Env} {nt : Nat} {rd : Option Nat} {fr : Fr} {h : Heap} {Q : Ex → Fr → Heap → Prop} : s14_17.wp E nt rd fr h Q = (GC.seq (s14_16) s14_11).wp E nt rd fr h Q := Eq.trans rfl rfl
def s14_18 : GC := .cond (.tmp 10) s14_17 .skip
theorem s14_18_w {E : Env} {nt : Nat} {rd : Option Nat} {fr : Fr} {h : Heap} {Q : Ex → Fr → Heap → Prop} : s14_18.wp E nt rd fr h Q = (GC.cond (.tmp 10) s14_17 .skip).wp E nt rd fr h Q := Eq.trans rfl rfl
def r14_19 : List GO := [⟨none, some 9, .move (.tmp 1)⟩,
  ⟨none, some 10, .binOp .eql 3 (.tmp 9) (.const (.int .i64 10)) 3⟩]
theorem r14_19_w {E : Env} {fr : Fr} {h : Heap} {Q : Fr → Heap → Prop} : opsW E r14_19 fr h Q = opsW E [⟨none, some 9, .move (.tmp 1)⟩,
  ⟨none, some 10, .binOp .eql 3 (.tmp 9) (.const (.int .i64 10)) 3⟩] fr h Q := Eq.trans rfl rfl
def s14_20 : GC := .seq (.ops r14_19) s14_18
theorem s14_20_w {E : Env} {nt : Nat} {rd : Option Nat} {fr : Fr} {h : Heap} {Q : Ex → Fr → Heap → Prop} : s14_20.wp E nt rd fr h Q = (GC.seq (.ops r14_19) s14_18).wp E nt rd fr h Q := Eq.trans rfl rfl
def s14_21 : GC := .seq (s14_20) s14_3
theorem s14_21_w {E : Env} {nt : Nat} {rd : Option Nat} {fr : Fr} {h : Heap} {Q : Ex → Fr → Heap → Prop} : s14_21.wp E nt rd fr h Q = (GC.seq (s14_20) s14_3).wp E nt rd fr h Q := Eq.trans rfl rfl
def r14_22 : List GO := [⟨none, some 4, .assign (.const (.string ⟨⟨[]⟩⟩))⟩]
theorem r14_22_w {E : Env} {fr : Fr} {h : Heap} {Q : Fr → Heap → Prop} : opsW E r14_22 fr h Q = opsW E [⟨none, some 4, .assign (.const (.string ⟨⟨[]⟩⟩))⟩] fr h Q := Eq.trans rfl rfl
def s14_23 : GC := .seq (.ops r14_22) s14_21
theorem s14_23_w {E : Env} {nt : Nat} {rd : Option Nat} {fr : Fr} {h : Heap} {Q : Ex → Fr → Heap → Prop} : s14_23.wp E nt rd fr h Q = (GC.seq (.ops r14_22) s14_21).wp E nt rd fr h Q := Eq.trans rfl rfl
theorem c14 : Tryd.f14.body.bind (clean env 32) = some s14_23 := by kernel_rfl
theorem e14 : env.funs.get 14 = some Tryd.f14 := by kernel_rfl
theorem F14 {args : List Value} {h : Heap} {K : Value → Heap → Prop} (hl : args.length = 2) (w : s14_23.wp env 32 none (setAll args 0 .leaf) h (resK env [.tmp 4] K)) : Ret env (.func 14) args h K :=
  Ret.of_body' rfl e14 c14 rfl rfl (by rw [hl]; decide) w
/-! internal/strconv.FormatInt -/
def r17_0 : List GO := [⟨none, some 53, .move (.tmp 9)⟩,
  ⟨none, some 4, .assign (.tmp 53)⟩]
theorem r17_0_w {E : Env} {fr : Fr} {h : Heap} {Q : Fr → Heap → Prop} : opsW E r17_0 fr h Q = opsW E [⟨none, some 53, .move (.tmp 9)⟩,
  ⟨none, some 4, .assign (.tmp 53)⟩] fr h Q := Eq.trans rfl rfl
def s17_1 : GC := .seq (.ops r17_0) .ret
theorem s17_1_w {E : Env} {nt : Nat} {rd : Option Nat} {fr : Fr} {h : Heap} {Q : Ex → Fr → Heap → Prop} : s17_1.wp E nt rd fr h Q = (GC.seq (.ops r17_0) .ret).wp E nt rd fr h Q := Eq.trans rfl rfl
def r17_2 : List GO := [⟨none, some 45, .move (.tmp 0)⟩,
  ⟨none, some 46, .convert 2 22 (.tmp 45)⟩,
  ⟨none, some 47, .move (.tmp 1)⟩,
  ⟨none, some 48, .move (.tmp 0)⟩,
  ⟨none, some 49, .binOp .lss 2 (.tmp 48) (.const (.int .i64 0)) 2⟩,
  ⟨none, some 50, .call ⟨.value (.func 21), ⟨[.const (.slice none 0 0), .tmp 46, .tmp 47, .tmp 49, .const (.bool false)]⟩, ⟨[80, 22, 3, 4, 4]⟩⟩⟩,
  ⟨none, some 44, .move (.tmp 50)⟩,
  ⟨none, some 51, .extract (.tmp 44) 0⟩,
  ⟨none, some 52, .extract (.tmp 44) 1⟩,
  ⟨none, some 8, .assign (.tmp 51)⟩,
  ⟨none, some 9, .assign (.tmp 52)⟩]
theorem r17_2_w {E : Env} {fr : Fr} {h : Heap} {Q : Fr → Heap → Prop} : opsW E r17_2 fr h Q = opsW E [⟨none, some 45, .move (.tmp 0)⟩,
  ⟨none, some 46, .convert 2 22 (.tmp 45)⟩,
  ⟨none, some 47, .move (.tmp 1)⟩,
  ⟨none, some 48, .move (.tmp 0)⟩,
  ⟨none, some 49, .binOp .lss 2 (.tmp 48) (.const (.int .i64 0)) 2⟩,
  ⟨none, some 50, .call ⟨.value (.func 21), ⟨[.const (.slice none 0 0), .tmp 46, .tmp 47, .tmp 49, .const (.bool false)]⟩, ⟨[80, 22, 3, 4, 4]⟩⟩⟩,
  ⟨none, some 44, .move (.tmp 50)⟩,
  ⟨none, some 51, .extract (.tmp 44) 0⟩,
  ⟨none, some 52, .extract (.tmp 44) 1⟩,
  ⟨none, some 8, .assign (.tmp 51)⟩,
  ⟨none, some 9, .assign (.tmp 52)⟩] fr h Q := Eq.trans rfl rfl
def s17_3 : GC := .seq (.ops r17_2) s17_1
theorem s17_3_w {E : Env} {nt : Nat} {rd : Option Nat} {fr : Fr} {h : Heap} {Q : Ex → Fr → Heap → Prop} : s17_3.wp E nt rd fr h Q = (GC.seq (.ops r17_2) s17_1).wp E nt rd fr h Q := Eq.trans rfl rfl
def r17_4 : List GO := [⟨none, some 40, .move (.tmp 7)⟩,
  ⟨none, some 41, .binOp .add 3 (.const (.int .i64 1)) (.tmp 40) 3⟩,
  ⟨none, some 42, .slice 77 (.tmp 5) (some (.const (.int .i64 1))) (some (.tmp 41)) none⟩,
  ⟨none, some 43, .convert 80 9 (.tmp 42)⟩,
  ⟨none, some 4, .assign (.tmp 43)⟩]
theorem r17_4_w {E : Env} {fr : Fr} {h : Heap} {Q : Fr → Heap → Prop} : opsW E r17_4 fr h Q = opsW E [⟨none, some 40, .move (.tmp 7)⟩,
  ⟨none, some 41, .binOp .add 3 (.const (.int .i64 1)) (.tmp 40) 3⟩,
  ⟨none, some 42, .slice 77 (.tmp 5) (some (.const (.int .i64 1))) (some (.tmp 41)) none⟩,
  ⟨none, some 43, .convert 80 9 (.tmp 42)⟩,
  ⟨none, some 4, .assign (.tmp 43)⟩] fr h Q := Eq.trans rfl rfl
def s17_5 : GC := .seq (.ops r17_4) .ret
theorem s17_5_w {E : Env} {nt : Nat} {rd : Option Nat} {fr : Fr} {h : Heap} {Q : Ex → Fr → Heap → Prop} : s17_5.wp E nt rd fr h Q = (GC.seq (.ops r17_4) .ret).wp E nt rd fr h Q := Eq.trans rfl rfl
def r17_6 : List GO := [⟨none, some 36, .move (.tmp 7)⟩,
  ⟨none, some 37, .binOp .add 3 (.const (.int .i64 1)) (.tmp 36) 3⟩,
  ⟨none, some 38, .slice 77 (.tmp 5) none (some (.tmp 37)) none⟩,
  ⟨none, some 39, .convert 80 9 (.tmp 38)⟩,
  ⟨none, some 4, .assign (.tmp 39)⟩]
theorem r17_6_w {E : Env} {fr : Fr} {h : Heap} {Q : Fr → Heap → Prop} : opsW E r17_6 fr h Q = opsW E [⟨none, some 36, .move (.tmp 7)⟩,
  ⟨none, some 37, .binOp .add 3 (.const (.int .i64 1)) (.tmp 36) 3⟩,
  ⟨none, some 38, .slice 77 (.tmp 5) none (some (.tmp 37)) none⟩,
  ⟨none, some 39, .convert 80 9 (.tmp 38)⟩,
  ⟨none, some 4, .assign (.tmp 39)⟩] fr h Q := Eq.trans rfl rfl
def s17_7 : GC := .seq (.ops r17_6) .ret
theorem s17_7_w {E : Env} {nt : Nat} {rd : Option Nat} {fr : Fr} {h : Heap} {Q : Ex → Fr → Heap → Prop} : s17_7.wp E nt rd fr h Q = (GC.seq (.ops r17_6) .ret).wp E nt rd fr h Q := Eq.trans rfl rfl
def r17_8 : List GO := [⟨none, some 35, .indexAddr 77 (.tmp 5) (.const (.int .i64 0))⟩,
  ⟨none, none, .store 5 (.tmp 35) (.const (.int .u8 45))⟩]
theorem r17_8_w {E : Env} {fr : Fr} {h : Heap} {Q : Fr → Heap → Prop} : opsW E r17_8 fr h Q = opsW E [⟨none, some 35, .indexAddr 77 (.tmp 5) (.const (.int .i64 0))⟩,
  ⟨none, none, .store 5 (.tmp 35) (.const (.int .u8 45))⟩] fr h Q := Eq.trans rfl rfl
def s17_9 : GC := .seq (.ops r17_8) s17_7
theorem s17_9_w {E : Env} {nt : Nat} {rd : Option Nat} {fr : Fr} {h : Heap} {Q : Ex → Fr → Heap → Prop} : s17_9.wp E nt rd fr h Q = (GC.seq (.ops r17_8) s17_7).wp E nt rd fr h Q := Eq.trans rfl rfl
def s17_10 : GC := .cond (.tmp 34) s17_9 .skip
theorem s17_10_w {E : Env} {nt : Nat} {rd : Option Nat} {fr : Fr} {h : Heap} {Q : Ex → Fr → Heap → Prop} : s17_10.wp E nt rd fr h Q = (GC.cond (.tmp 34) s17_9 .skip).wp E nt rd fr h Q := Eq.trans rfl rfl
def r17_11 : List GO := [⟨none, some 33, .move (.tmp 0)⟩,
  ⟨none, some 34, .binOp .lss 2 (.tmp 33) (.const (.int .i64 0)) 2⟩]
theorem r17_11_w {E : Env} {fr : Fr} {h : Heap} {Q : Fr → Heap → Prop} : opsW E r17_11 fr h Q = opsW E [⟨none, some 33, .move (.tmp 0)⟩,
  ⟨none, some 34, .binOp .lss 2 (.tmp 33) (.const (.int .i64 0)) 2⟩] fr h Q := Eq.trans rfl rfl
def s17_12 : GC := .seq (.ops r17_11) s17_10
theorem s17_12_w {E : Env} {nt : Nat} {rd : Option Nat} {fr : Fr} {h : Heap} {Q : Ex → Fr → Heap → Prop} : s17_12.wp E nt rd fr h Q = (GC.seq (.ops r17_11) s17_10).wp E nt rd fr h Q := Eq.trans rfl rfl
def s17_13 : GC := .seq (s17_12) s17_5
theorem s17_13_w {E : Env} {nt : Nat} {rd : Option Nat} {fr : Fr} {h : Heap} {Q : Ex → Fr → Heap → Prop} : s17_13.wp E nt rd fr h Q = (GC.seq (s17_12) s17_5).wp E nt rd fr h Q := Eq.trans rfl rfl
def r17_14 : List GO := [⟨none, some 28, .move (.tmp 7)⟩,
  ⟨none, some 29, .binOp .add 3 (.const (.int .i64 1)) (.tmp 28) 3⟩,
  ⟨none, some 30, .slice 77 (.tmp 5) (some (.const (.int .i64 1))) (some (.tmp 29)) none⟩,
  ⟨none, some 31, .move (.tmp 6)⟩,
  ⟨none, some 32, .call ⟨.value (.func 20), ⟨[.tmp 30, .tmp 31]⟩, ⟨[80, 22]⟩⟩⟩]
theorem r17_14_w {E : Env} {fr : Fr} {h : Heap} {Q : Fr → Heap → Prop} : opsW E r17_14 fr h Q = opsW E [⟨none, some 28, .move (.tmp 7)⟩,
  ⟨none, some 29, .binOp .add 3 (.const (.int .i64 1)) (.tmp 28) 3⟩,
  ⟨none, some 30, .slice 77 (.tmp 5) (some (.const (.int .i64 1))) (some (.tmp 29)) none⟩,
  ⟨none, some 31, .move (.tmp 6)⟩,
  ⟨none, some 32, .call ⟨.value (.func 20), ⟨[.tmp 30, .tmp 31]⟩, ⟨[80, 22]⟩⟩⟩] fr h Q := Eq.trans rfl rfl
def s17_15 : GC := .seq (.ops r17_14) s17_13
theorem s17_15_w {E : Env} {nt : Nat} {rd : Option Nat} {fr : Fr} {h : Heap} {Q : Ex → Fr → Heap → Prop} : s17_15.wp E nt rd fr h Q = (GC.seq (.ops r17_14) s17_13).wp E nt rd fr h Q := Eq.trans rfl rfl
def r17_16 : List GO := [⟨none, some 26, .move (.tmp 6)⟩,
  ⟨none, some 27, .call ⟨.value (.func 19), ⟨[.tmp 26]⟩, ⟨[22]⟩⟩⟩,
  ⟨none, some 7, .assign (.tmp 27)⟩]
theorem r17_16_w {E : Env} {fr : Fr} {h : Heap} {Q : Fr → Heap → Prop} : opsW E r17_16 fr h Q = opsW E [⟨none, some 26, .move (.tmp 6)⟩,
  ⟨none, some 27, .call ⟨.value (.func 19), ⟨[.tmp 26]⟩, ⟨[22]⟩⟩⟩,
  ⟨none, some 7, .assign (.tmp 27)⟩] fr h Q := Eq.trans rfl rfl
def s17_17 : GC := .seq (.ops r17_16) s17_15
theorem s17_17_w {E : Env} {nt : Nat} {rd : Option Nat} {fr : Fr} {h : Heap} {Q : Ex → Fr → Heap → Prop} : s17_17.wp E nt rd fr h Q = (GC.seq (.ops r17_16) s17_15).wp E nt rd fr h Q := Eq.trans rfl rfl
def r17_18 : List GO := [⟨none, some 24, .move (.tmp 6)⟩,
  ⟨none, some 25, .unOp .neg 22 (.tmp 24)⟩,
  ⟨none, some 6, .assign (.tmp 25)⟩]
theorem r17_18_w {E : Env} {fr : Fr} {h : Heap} {Q : Fr → Heap → Prop} : opsW E r17_18 fr h Q = opsW E [⟨none, some 24, .move (.tmp 6)⟩,
  ⟨none, some 25, .unOp .neg 22 (.tmp 24)⟩,
  ⟨none, some 6, .assign (.tmp 25)⟩] fr h Q := Eq.trans rfl rfl
def s17_19 : GC := .ops r17_18
theorem s17_19_w {E : Env} {nt : Nat} {rd : Option Nat} {fr : Fr} {h : Heap} {Q : Ex → Fr → Heap → Prop} : s17_19.wp E nt rd fr h Q = (GC.ops r17_18).wp E nt rd fr h Q := Eq.trans rfl rfl
def s17_20 : GC := .cond (.tmp 23) s17_19 .skip
theorem s17_20_w {E : Env} {nt : Nat} {rd : Option Nat} {fr : Fr} {h : Heap} {Q : Ex → Fr → Heap → Prop} : s17_20.wp E nt rd fr h Q = (GC.cond (.tmp 23) s17_19 .skip).wp E nt rd fr h Q := Eq.trans rfl rfl
def r17_21 : List GO := [⟨none, some 22, .move (.tmp 0)⟩,
  ⟨none, some 23, .binOp .lss 2 (.tmp 22) (.const (.int .i64 0)) 2⟩]
theorem r17_21_w {E : Env} {fr : Fr} {h : Heap} {Q : Fr → Heap → Prop} : opsW E r17_21 fr h Q = opsW E [⟨none, some 22, .move (.tmp 0)⟩,
  ⟨none, some 23, .binOp .lss 2 (.tmp 22) (.const (.int .i64 0)) 2⟩] fr h Q := Eq.trans rfl rfl
def s17_22 : GC := .seq (.ops r17_21) s17_20
theorem s17_22_w {E : Env} {nt : Nat} {rd : Option Nat} {fr : Fr} {h : Heap} {Q : Ex → Fr → Heap → Prop} : s17_22.wp E nt rd fr h Q = (GC.seq (.ops r17_21) s17_20).wp E nt rd fr h Q := Eq.trans rfl rfl
def s17_23 : GC := .seq (s17_22) s17_17
theorem s17_23_w {E : Env} {nt : Nat} {rd : Option Nat} {fr : Fr} {h : Heap} {Q : Ex → Fr → Heap → Prop} : s17_23.wp E nt rd fr h Q = (GC.seq (s17_22) s17_17).wp E nt rd fr h Q := Eq.trans rfl rfl
def r17_24 : List GO := [⟨none, some 20, .move (.tmp 0)⟩,
  ⟨none, some 21, .convert 2 22 (.tmp 20)⟩,
  ⟨none, some 6, .assign (.tmp 21)⟩]
theorem r17_24_w {E : Env} {fr : Fr} {h : Heap} {Q : Fr → Heap → Prop} : opsW E r17_24 fr h Q = opsW E [⟨none, some 20, .move (.tmp 0)⟩,
  ⟨none, some 21, .convert 2 22 (.tmp 20)⟩,
  ⟨none, some 6, .assign (.tmp 21)⟩] fr h Q := Eq.trans rfl rfl
def s17_25 : GC := .seq (.ops r17_24) s17_23
theorem s17_25_w {E : Env} {nt : Nat} {rd : Option Nat} {fr : Fr} {h : Heap} {Q : Ex → Fr → Heap → Prop} : s17_25.wp E nt rd fr h Q = (GC.seq (.ops r17_24) s17_23).wp E nt rd fr h Q := Eq.trans rfl rfl
def r17_26 : List GO := [⟨none, some 5, .alloc 77⟩]
theorem r17_26_w {E : Env} {fr : Fr} {h : Heap} {Q : Fr → Heap → Prop} : opsW E r17_26 fr h Q = opsW E [⟨none, some 5, .alloc 77⟩] fr h Q := Eq.trans rfl rfl
def s17_27 : GC := .seq (.ops r17_26) s17_25
theorem s17_27_w {E : Env} {nt : Nat} {rd : Option Nat} {fr : Fr} {h : Heap} {Q : Ex → Fr → Heap → Prop} : s17_27.wp E nt rd fr h Q = (GC.seq (.ops r17_26) s17_25).wp E nt rd fr h Q := Eq.trans rfl rfl
def r17_28 : List GO := [⟨none, some 18, .move (.tmp 0)⟩,
  ⟨none, some 19, .call ⟨.value (.func 18), ⟨[.tmp 18]⟩, ⟨[3]⟩⟩⟩,
  ⟨none, some 4, .assign (.tmp 19)⟩]
theorem r17_28_w {E : Env} {fr : Fr} {h : Heap} {Q : Fr → Heap → Prop} : opsW E r17_28 fr h Q = opsW E [⟨none, some 18, .move (.tmp 0)⟩,
  ⟨none, some 19, .call ⟨.value (.func 18), ⟨[.tmp 18]⟩, ⟨[3]⟩⟩⟩,
  ⟨none, some 4, .assign (.tmp 19)⟩] fr h Q := Eq.trans rfl rfl
def s17_29 : GC := .seq (.ops r17_28) .ret
theorem s17_29_w {E : Env} {nt : Nat} {rd : Option Nat} {fr : Fr} {h : Heap} {Q : Ex → Fr → Heap → Prop} : s17_29.wp E nt rd fr h Q = (GC.seq (.ops r17_28) .ret).wp E nt rd fr h Q := Eq.trans rfl rfl
def s17_30 : GC := .cond (.tmp 17) s17_29 .skip
theorem s17_30_w {E : Env} {nt : Nat} {rd : Option Nat} {fr : Fr} {h : Heap} {Q : Ex → Fr → Heap → Prop} : s17_30.wp E nt rd fr h Q = (GC.cond (.tmp 17) s17_29 .skip).wp E nt rd fr h Q := Eq.trans rfl rfl
def r17_31 : List GO := [⟨none, some 12, .move (.tmp 0)⟩,
  ⟨none, some 13, .binOp .leq 2 (.const (.int .i64 0)) (.tmp 12) 2⟩,
  ⟨none, some 14, .move (.tmp 13)⟩,
  ⟨some (14, true), some 15, .move (.tmp 0)⟩,
  ⟨some (14, true), some 16, .binOp .lss 2 (.tmp 15) (.const (.int .i64 100)) 2⟩,
  ⟨none, some 17, .pick (.tmp 14) (.tmp 16) (.const (.bool false))⟩]
theorem r17_31_w {E : Env} {fr : Fr} {h : Heap} {Q : Fr → Heap → Prop} : opsW E r17_31 fr h Q = opsW E [⟨none, some 12, .move (.tmp 0)⟩,
  ⟨none, some 13, .binOp .leq 2 (.const (.int .i64 0)) (.tmp 12) 2⟩,
  ⟨none, some 14, .move (.tmp 13)⟩,
  ⟨some (14, true), some 15, .move (.tmp 0)⟩,
  ⟨some (14, true), some 16, .binOp .lss 2 (.tmp 15) (.const (.int .i64 100)) 2⟩,
  ⟨none, some 17, .pick (.tmp 14) (.tmp 16) (.const (.bool false))⟩] fr h Q := Eq.trans rfl rfl
def s17_32 : GC := .seq (.ops r17_31) s17_30
theorem s17_32_w {E : Env} {nt : Nat} {rd : Option Nat} {fr : Fr} {h : Heap} {Q : Ex → Fr → Heap → Prop} : s17_32.wp E nt rd fr h Q = (GC.seq (.ops r17_31) s17_30).wp E nt rd fr h Q := Eq.trans rfl rfl
def s17_33 : GC := .seq (s17_32) s17_27
theorem s17_33_w {E : Env} {nt : Nat} {rd : Option Nat} {fr : Fr} {h : Heap} {Q : Ex → Fr → Heap → Prop} : s17_33.wp E nt rd fr h Q = (GC.seq (s17_32) s17_27).wp E nt rd fr h Q := Eq.trans rfl rfl
def s17_34 : GC := .cond (.tmp 11) s17_33 .skip
theorem s17_34_w {E : Env} {nt : Nat} {rd : Option Nat} {fr : Fr} {h : Heap} {Q : Ex → Fr → Heap → Prop} : s17_34.wp E nt rd fr h Q = (GC.cond (.tmp 11) s17_33 .skip).wp E nt rd fr h Q := Eq.trans rfl rfl
def r17_35 : List GO := [⟨none, some 10, .move (.tmp 1)⟩,
  ⟨none, some 11, .binOp .eql 3 (.tmp 10) (.const (.int .i64 10)) 3⟩]
theorem r17_35_w {E : Env} {fr : Fr} {h : Heap} {Q : Fr → Heap → Prop} : opsW E r17_35 fr h Q = opsW E [⟨none, some 10, .move (.tmp 1)⟩,
  ⟨none, some 11, .binOp .eql 3 (.tmp 10) (.const (.int .i64 10)) 3⟩] fr h Q := Eq.trans rfl rfl
def s17_36 : GC := .seq (.ops r17_35) s17_34
theorem s17_36_w {E : Env} {nt : Nat} {rd : Option Nat} {fr : Fr} {h : Heap} {Q : Ex → Fr → Heap → Prop} : s17_36.wp E nt rd fr h Q = (GC.seq (.ops r17_35) s17_34).wp E nt rd fr h Q := Eq.trans rfl rfl
def s17_37 : GC := .seq (s17_36) s17_3
theorem s17_37_w {E : Env} {nt : Nat} {rd : Option Nat} {fr : Fr} {h : Heap} {Q : Ex → Fr → Heap → Prop} : s17_37.wp E nt rd fr h Q = (GC.seq (s17_36) s17_3).wp E nt rd fr h Q := Eq.trans rfl rfl
def r17_38 : List GO := [⟨none, some 4, .assign (.const (.string ⟨⟨[]⟩⟩))⟩]
theorem r17_38_w {E : Env} {fr : Fr} {h : Heap} {Q : Fr → Heap → Prop} : opsW E r17_38 fr h Q = opsW E [⟨none, some 4, .assign (.const (.string ⟨⟨[]⟩⟩))⟩] fr h Q := Eq.trans rfl rfl
def s17_39 : GC := .seq (.ops r17_38) s17_37
theorem s17_39_w {E : Env} {nt : Nat} {rd : Option Nat} {fr : Fr} {h : Heap} {Q : Ex → Fr → Heap → Prop} : s17_39.wp E nt rd fr h Q = (GC.seq (.ops r17_38) s17_37).wp E nt rd fr h Q := Eq.trans rfl rfl
theorem c17 : Tryd.f17.body.bind (clean env 54) = some s17_39 := by kernel_rfl
theorem e17 : env.funs.get 17 = some Tryd.f17 := by kernel_rfl
theorem F17 {args : List Value} {h : Heap} {K : Value → Heap → Prop} (hl : args.length = 2) (w : s17_39.wp env 54 none (setAll args 0 .leaf) h (resK env [.tmp 4] K)) : Ret env (.func 17) args h K :=
  Ret.of_body' rfl e17 c17 rfl rfl (by rw [hl]; decide) w
/-! internal/strconv.numDigits -/
def r19_0 : List GO := [⟨none, some 7, .move (.tmp 3)⟩,
  ⟨none, some 8, .move (.tmp 0)⟩,
  ⟨none, some 9, .move (.tmp 3)⟩,
  ⟨none, some 10, .indexAddr 98 (.global 0) (.tmp 9)⟩,
  ⟨none, some 11, .load 22 (.tmp 10)⟩,
  ⟨none, some 12, .binOp .geq 22 (.tmp 8) (.tmp 11) 22⟩,
  ⟨none, some 13, .call ⟨.value (.func 33), ⟨[.tmp 12]⟩, ⟨[4]⟩⟩⟩,
  ⟨none, some 14, .binOp .add 3 (.tmp 7) (.tmp 13) 3⟩,
  ⟨none, some 2, .assign (.tmp 14)⟩]
theorem r19_0_w {E : Env} {fr : Fr} {h : Heap} {Q : Fr → Heap → Prop} : opsW E r19_0 fr h Q = opsW E [⟨none, some 7, .move (.tmp 3)⟩,
  ⟨none, some 8, .move (.tmp 0)⟩,
  ⟨none, some 9, .move (.tmp 3)⟩,
  ⟨none, some 10, .indexAddr 98 (.global 0) (.tmp 9)⟩,
  ⟨none, some 11, .load 22 (.tmp 10)⟩,
  ⟨none, some 12, .binOp .geq 22 (.tmp 8) (.tmp 11) 22⟩,
  ⟨none, some 13, .call ⟨.value (.func 33), ⟨[.tmp 12]⟩, ⟨[4]⟩⟩⟩,
  ⟨none, some 14, .binOp .add 3 (.tmp 7) (.tmp 13) 3⟩,
  ⟨none, some 2, .assign (.tmp 14)⟩] fr h Q := Eq.trans rfl rfl
def s19_1 : GC := .seq (.ops r19_0) .ret
theorem s19_1_w {E : Env} {nt : Nat} {rd : Option Nat} {fr : Fr} {h : Heap} {Q : Ex → Fr → Heap → Prop} : s19_1.wp E nt rd fr h Q = (GC.seq (.ops r19_0) .ret).wp E nt rd fr h Q := Eq.trans rfl rfl
def r19_2 : List GO := [⟨none, some 4, .move (.tmp 0)⟩,
  ⟨none, some 5, .call ⟨.value (.func 32), ⟨[.tmp 4]⟩, ⟨[22]⟩⟩⟩,
  ⟨none, some 6, .call ⟨.value (.func 31), ⟨[.tmp 5]⟩, ⟨[3]⟩⟩⟩,
  ⟨none, some 3, .assign (.tmp 6)⟩]
theorem r19_2_w {E : Env} {fr : Fr} {h : Heap} {Q : Fr → Heap → Prop} : opsW E r19_2 fr h Q = opsW E [⟨none, some 4, .move (.tmp 0)⟩,
  ⟨none, some 5, .call ⟨.value (.func 32), ⟨[.tmp 4]⟩, ⟨[22]⟩⟩⟩,
  ⟨none, some 6, .call ⟨.value (.func 31), ⟨[.tmp 5]⟩, ⟨[3]⟩⟩⟩,
  ⟨none, some 3, .assign (.tmp 6)⟩] fr h Q := Eq.trans rfl rfl
def s19_3 : GC := .seq (.ops r19_2) s19_1
theorem s19_3_w {E : Env} {nt : Nat} {rd : Option Nat} {fr : Fr} {h : Heap} {Q : Ex → Fr → Heap → Prop} : s19_3.wp E nt rd fr h Q = (GC.seq (.ops r19_2) s19_1).wp E nt rd fr h Q := Eq.trans rfl rfl
def r19_4 : List GO := [⟨none, some 2, .assign (.const (.int .i64 0))⟩]
theorem r19_4_w {E : Env} {fr : Fr} {h : Heap} {Q : Fr → Heap → Prop} : opsW E r19_4 fr h Q = opsW E [⟨none, some 2, .assign (.const (.int .i64 0))⟩] fr h Q := Eq.trans rfl rfl
def s19_5 : GC := .seq (.ops r19_4) s19_3
theorem s19_5_w {E : Env} {nt : Nat} {rd : Option Nat} {fr : Fr} {h : Heap} {Q : Ex → Fr → Heap → Prop} : s19_5.wp E nt rd fr h Q = (GC.seq (.ops r19_4) s19_3).wp E nt rd fr h Q := Eq.trans rfl rfl
theorem c19 : Tryd.f19.body.bind (clean env 15) = some s19_5 := by kernel_rfl
theorem e19 : env.funs.get 19 = some Tryd.f19 := by kernel_rfl
theorem F19 {args : List Value} {h : Heap} {K : Value → Heap → Prop} (hl : args.length = 1) (w : s19_5.wp env 15 none (setAll args 0 .leaf) h (resK env [.tmp 2] K)) : Ret env (.func 19) args h K :=
  Ret.of_body' rfl e19 c19 rfl rfl (by rw [hl]; decide) w
/-! internal/strconv.log10Pow2 -/
def r31_0 : List GO := [⟨none, some 3, .move (.tmp 0)⟩,
  ⟨none, some 4, .binOp .mul 3 (.tmp 3) (.const (.int .i64 78913)) 3⟩,
  ⟨none, some 5, .binOp .shr 3 (.tmp 4) (.const (.int .u64 18)) 102⟩,
  ⟨none, some 2, .assign (.tmp 5)⟩]
theorem r31_0_w {E : Env} {fr : Fr} {h : Heap} {Q : Fr → Heap → Prop} : opsW E r31_0 fr h Q = opsW E [⟨none, some 3, .move (.tmp 0)⟩,
  ⟨none, some 4, .binOp .mul 3 (.tmp 3) (.const (.int .i64 78913)) 3⟩,
  ⟨none, some 5, .binOp .shr 3 (.tmp 4) (.const (.int .u64 18)) 102⟩,
  ⟨none, some 2, .assign (.tmp 5)⟩] fr h Q := Eq.trans rfl rfl
def s31_1 : GC := .seq (.ops r31_0) .ret
theorem s31_1_w {E : Env} {nt : Nat} {rd : Option Nat} {fr : Fr} {h : Heap} {Q : Ex → Fr → Heap → Prop} : s31_1.wp E nt rd fr h Q = (GC.seq (.ops r31_0) .ret).wp E nt rd fr h Q := Eq.trans rfl rfl
def r31_2 : List GO := [⟨none, some 2, .assign (.const (.int .i64 0))⟩]
theorem r31_2_w {E : Env} {fr : Fr} {h : Heap} {Q : Fr → Heap → Prop} : opsW E r31_2 fr h Q = opsW E [⟨none, some 2, .assign (.const (.int .i64 0))⟩] fr h Q := Eq.trans rfl rfl
def s31_3 : GC := .seq (.ops r31_2) s31_1
theorem s31_3_w {E : Env} {nt : Nat} {rd : Option Nat} {fr : Fr} {h : Heap} {Q : Ex → Fr → Heap → Prop} : s31_3.wp E nt rd fr h Q = (GC.seq (.ops r31_2) s31_1).wp E nt rd fr h Q := Eq.trans rfl rfl
theorem c31 : Tryd.f31.body.bind (clean env 6) = some s31_3 := by kernel_rfl
theorem e31 : env.funs.get 31 = some Tryd.f31 := by kernel_rfl
theorem F31 {args : List Value} {h : Heap} {K : Value → Heap → Prop} (hl : args.length = 1) (w : s31_3.wp env 6 none (setAll args 0 .leaf) h (resK env [.tmp 2] K)) : Ret env (.func 31) args h K :=
  Ret.of_body' rfl e31 c31 rfl rfl (by rw [hl]; decide) w
/-! internal/strconv.bool2[int] -/
def r33_0 : List GO := [⟨none, some 2, .assign (.const (.int .i64 0))⟩]
theorem r33_0_w {E : Env} {fr : Fr} {h : Heap} {Q : Fr → Heap → Prop} : opsW E r33_0 fr h Q = opsW E [⟨none, some 2, .assign (.const (.int .i64 0))⟩] fr h Q := Eq.trans rfl rfl
def s33_1 : GC := .seq (.ops r33_0) .ret
theorem s33_1_w {E : Env} {nt : Nat} {rd : Option Nat} {fr : Fr} {h : Heap} {Q : Ex → Fr → Heap → Prop} : s33_1.wp E nt rd fr h Q = (GC.seq (.ops r33_0) .ret).wp E nt rd fr h Q := Eq.trans rfl rfl
def r33_2 : List GO := [⟨none, some 2, .assign (.const (.int .i64 1))⟩]
theorem r33_2_w {E : Env} {fr : Fr} {h : Heap} {Q : Fr → Heap → Prop} : opsW E r33_2 fr h Q = opsW E [⟨none, some 2, .assign (.const (.int .i64 1))⟩] fr h Q := Eq.trans rfl rfl
def s33_3 : GC := .seq (.ops r33_2) .ret
theorem s33_3_w {E : Env} {nt : Nat} {rd : Option Nat} {fr : Fr} {h : Heap} {Q : Ex → Fr → Heap → Prop} : s33_3.wp E nt rd fr h Q = (GC.seq (.ops r33_2) .ret).wp E nt rd fr h Q := Eq.trans rfl rfl
def s33_4 : GC := .cond (.tmp 3) s33_3 .skip
theorem s33_4_w {E : Env} {nt : Nat} {rd : Option Nat} {fr : Fr} {h : Heap} {Q : Ex → Fr → Heap → Prop} : s33_4.wp E nt rd fr h Q = (GC.cond (.tmp 3) s33_3 .skip).wp E nt rd fr h Q := Eq.trans rfl rfl
def r33_5 : List GO := [⟨none, some 3, .move (.tmp 0)⟩]
theorem r33_5_w {E : Env} {fr : Fr} {h : Heap} {Q : Fr → Heap → Prop} : opsW E r33_5 fr h Q = opsW E [⟨none, some 3, .move (.tmp 0)⟩] fr h Q := Eq.trans rfl rfl
def s33_6 : GC := .seq (.ops r33_5) s33_4
theorem s33_6_w {E : Env} {nt : Nat} {rd : Option Nat} {fr : Fr} {h : Heap} {Q : Ex → Fr → Heap → Prop} : s33_6.wp E nt rd fr h Q = (GC.seq (.ops r33_5) s33_4).wp E nt rd fr h Q := Eq.trans rfl rfl
def s33_7 : GC := .seq (s33_6) s33_1
theorem s33_7_w {E : Env} {nt : Nat} {rd : Option Nat} {fr : Fr} {h : Heap} {Q : Ex → Fr → Heap → Prop} : s33_7.wp E nt rd fr h Q = (GC.seq (s33_6) s33_1).wp E nt rd fr h Q := Eq.trans rfl rfl
def r33_8 : List GO := [⟨none, some 2, .assign (.const (.int .i64 0))⟩]
theorem r33_8_w {E : Env} {fr : Fr} {h : Heap} {Q : Fr → Heap → Prop} : opsW E r33_8 fr h Q = opsW E [⟨none, some 2, .assign (.const (.int .i64 0))⟩] fr h Q := Eq.trans rfl rfl
def s33_9 : GC := .seq (.ops r33_8) s33_7
theorem s33_9_w {E : Env} {nt : Nat} {rd : Option Nat} {fr : Fr} {h : Heap} {Q : Ex → Fr → Heap → Prop} : s33_9.wp E nt rd fr h Q = (GC.seq (.ops r33_8) s33_7).wp E nt rd fr h Q := Eq.trans rfl rfl
theorem c33 : Tryd.f33.body.bind (clean env 4) = some s33_9 := by kernel_rfl
theorem e33 : env.funs.get 33 = some Tryd.f33 := by kernel_rfl
theorem F33 {args : List Value} {h : Heap} {K : Value → Heap → Prop} (hl : args.length = 1) (w : s33_9.wp env 4 none (setAll args 0 .leaf) h (resK env [.tmp 2] K)) : Ret env (.func 33) args h K :=
  Ret.of_body' rfl e33 c33 rfl rfl (by rw [hl]; decide) w

end Go.Proofs.YtfneaaapgpgdeaaDoor.Am

