/- The code of LimitsOver and of what it calls, in the evaluator's plain form, with the rules of its operations. Conditions: none. -/
import Derived.Test.YtdjnedamphifcaaDoorZHp
import Derived.Test.YtdjnedamphifcaaDoorChecked
import Derived.KernelRfl
set_option linter.unusedSimpArgs false
set_option linter.unusedVariables false
namespace Go.Proofs.YtdjnedamphifcaaDoor
open Go.Ev
set_option maxRecDepth 100000
noncomputable def env : Env := envOf Tryd.prog 1 (extKnown (fun _ _ => none) 4)
section
variable {fr : Fr} {h : Heap} {K : Value → Heap → Prop} {x y z : Operand} {ps : List (Nat × Operand)}
theorem len_22 : opW env (.call ⟨.builtin .len, ⟨[x]⟩, ⟨[22]⟩⟩) fr h K = evK env fr x fun v => lenK v fun u => K u h := opW_lenS (by kernel_rfl)
theorem bsl_24_10 : opW env (.buildSlice 24 10 ⟨ps⟩) fr h K = evpK env fr ps fun l => bsK 9 1 [.string ⟨⟨[]⟩⟩] 10 l h K := opW_buildSlice (by kernel_rfl) (by decide)
theorem len_24 : opW env (.call ⟨.builtin .len, ⟨[x]⟩, ⟨[24]⟩⟩) fr h K = evK env fr x fun v => lenK v fun u => K u h := opW_lenS (by kernel_rfl)
theorem ia_24 : opW env (.indexAddr 24 x y) fr h K = evK env fr x fun v => evK env fr y fun i => idxSK 1 v i fun u => K u h := opW_indexAddrS (by kernel_rfl)
theorem ld_9 : opW env (.load 9 x) fr h K = evK env fr x fun v => ld1K h v fun u => K u h := opW_load1 (by kernel_rfl)
theorem ia_22 : opW env (.indexAddr 22 x y) fr h K = evK env fr x fun v => evK env fr y fun i => idxSK 5 v i fun u => K u h := opW_indexAddrS (by kernel_rfl)
theorem fa_30_2 : opW env (.fieldAddr 30 x 2) fr h K = evK env fr x fun v => fldAK 3 v fun u => K u h := opW_fieldAddr (by kernel_rfl)
theorem ld_26 : opW env (.load 26 x) fr h K = evK env fr x fun v => ld1K h v fun u => K u h := opW_load1 (by kernel_rfl)
theorem fa_30_3 : opW env (.fieldAddr 30 x 3) fr h K = evK env fr x fun v => fldAK 4 v fun u => K u h := opW_fieldAddr (by kernel_rfl)
theorem ld_30 : opW env (.load 30 x) fr h K = evK env fr x fun v => ldNK h 5 v fun u => K u h := opW_loadN (by kernel_rfl)
theorem bsl_22_1 : opW env (.buildSlice 22 1 ⟨ps⟩) fr h K = evpK env fr ps fun l => bsK 30 5 [.int .i64 0, .int .i64 0, .int .u64 0, .int .u64 0, .int .u64 0] 1 l h K := opW_buildSlice (by kernel_rfl) (by decide)
theorem ap_22_22 : opW env (.call ⟨.builtin .append, ⟨[x, y]⟩, ⟨[22, 22]⟩⟩) fr h K = evK env fr x fun s => evK env fr y fun v => appK 30 5 s v h K := opW_append (zs := [.int .i64 0, .int .i64 0, .int .u64 0, .int .u64 0, .int .u64 0]) (by kernel_rfl) (by kernel_rfl)
theorem eqA_30 : ∀ {a0 b0 a1 b1 a2 b2 a3 b3 a4 b4 : Int}, aeq env 100 30 (.agg ⟨[.int .i64 a0, .int .i64 a1, .int .u64 a2, .int .u64 a3, .int .u64 a4]⟩) (.agg ⟨[.int .i64 b0, .int .i64 b1, .int .u64 b2, .int .u64 b3, .int .u64 b4]⟩) = some (decide ((a0 = b0) ∧ (((a1 = b1) ∧ ((a2 = b2) ∧ (True))) ∧ ((a3 = b3) ∧ ((a4 = b4) ∧ (True)))))) := by
  intro a0 b0 a1 b1 a2 b2 a3 b3 a4 b4
  have e : aeq env 100 30 (.agg ⟨[.int .i64 a0, .int .i64 a1, .int .u64 a2, .int .u64 a3, .int .u64 a4]⟩) (.agg ⟨[.int .i64 b0, .int .i64 b1, .int .u64 b2, .int .u64 b3, .int .u64 b4]⟩) = bindB (some (a0 == b0)) (bindB (bindB (some (a1 == b1)) (bindB (some (a2 == b2)) (some true))) (bindB (some (a3 == b3)) (bindB (some (a4 == b4)) (some true)))) := by kernel_rfl
  rw [e]; simp only [bindB_some, beqI, Bool.decide_and, decide_true]
theorem neqA_30 : ∀ {a0 b0 a1 b1 a2 b2 a3 b3 a4 b4 : Int} {c : Bool} {K : Value → Prop}, binK env .neq 30 c (.agg ⟨[.int .i64 a0, .int .i64 a1, .int .u64 a2, .int .u64 a3, .int .u64 a4]⟩) (.agg ⟨[.int .i64 b0, .int .i64 b1, .int .u64 b2, .int .u64 b3, .int .u64 b4]⟩) K = brK ((a0 = b0) ∧ (((a1 = b1) ∧ ((a2 = b2) ∧ (True))) ∧ ((a3 = b3) ∧ ((a4 = b4) ∧ (True))))) (K (.bool false)) (K (.bool true)) := bin_neqP (by kernel_rfl) eqA_30
theorem eqlA_30 : ∀ {a0 b0 a1 b1 a2 b2 a3 b3 a4 b4 : Int} {c : Bool} {K : Value → Prop}, binK env .eql 30 c (.agg ⟨[.int .i64 a0, .int .i64 a1, .int .u64 a2, .int .u64 a3, .int .u64 a4]⟩) (.agg ⟨[.int .i64 b0, .int .i64 b1, .int .u64 b2, .int .u64 b3, .int .u64 b4]⟩) K = brK ((a0 = b0) ∧ (((a1 = b1) ∧ ((a2 = b2) ∧ (True))) ∧ ((a3 = b3) ∧ ((a4 = b4) ∧ (True))))) (K (.bool true)) (K (.bool false)) := bin_eqlP (by kernel_rfl) eqA_30
theorem al_30 : opW env (.alloc 30) fr h K = K (.pointer (some ⟨h.n, 0, none⟩)) (newBlk h (.cells [.int .i64 0, .int .i64 0, .int .u64 0, .int .u64 0, .int .u64 0] 30 true)) := opW_alloc (v := .agg ⟨[.int .i64 0, .int .i64 0, .int .u64 0, .int .u64 0, .int .u64 0]⟩) (by kernel_rfl) rfl rfl
theorem st_30 : opW env (.store 30 x y) fr h K = evK env fr x fun p => evK env fr y fun v => stK 5 p v h K := opW_store (by kernel_rfl)
theorem gl_0 : ∀ {K : Value → Prop}, evK env fr (.global 0) K = K (.pointer (some ⟨0, 0, none⟩)) := evK_global rfl
theorem ia_41 : opW env (.indexAddr 41 x y) fr h K = evK env fr x fun v => evK env fr y fun i => idxAK 10 1 v i fun u => K u h := opW_indexAddrA (by kernel_rfl)
end
/-! helmsman/helmsmanlaw29.LimitsOver -/
def r3_0 : List GO := [⟨none, some 50, .move (.tmp 0)⟩,
  ⟨none, some 51, .call ⟨.value (.func 6), ⟨[.tmp 50]⟩, ⟨[22]⟩⟩⟩,
  ⟨none, some 52, .move (.tmp 7)⟩,
  ⟨none, some 53, .call ⟨.value (.func 5), ⟨[.tmp 51, .tmp 52]⟩, ⟨[22, 22]⟩⟩⟩,
  ⟨none, some 54, .move (.tmp 53)⟩,
  ⟨some (54, true), some 55, .move (.tmp 1)⟩,
  ⟨some (54, true), some 56, .call ⟨.value (.func 7), ⟨[.tmp 55]⟩, ⟨[34]⟩⟩⟩,
  ⟨some (54, true), some 57, .move (.tmp 6)⟩,
  ⟨some (54, true), some 58, .binOp .eql 9 (.tmp 56) (.tmp 57) 9⟩,
  ⟨none, some 59, .pick (.tmp 54) (.tmp 58) (.const (.bool false))⟩,
  ⟨none, some 60, .move (.tmp 59)⟩,
  ⟨some (60, true), some 61, .call ⟨.value (.func 4), ⟨[]⟩, ⟨[]⟩⟩⟩,
  ⟨none, some 62, .pick (.tmp 60) (.tmp 61) (.const (.bool false))⟩,
  ⟨none, some 4, .assign (.tmp 62)⟩]
theorem r3_0_w {E : Env} {fr : Fr} {h : Heap} {Q : Fr → Heap → Prop} : opsW E r3_0 fr h Q = opsW E [⟨none, some 50, .move (.tmp 0)⟩,
  ⟨none, some 51, .call ⟨.value (.func 6), ⟨[.tmp 50]⟩, ⟨[22]⟩⟩⟩,
  ⟨none, some 52, .move (.tmp 7)⟩,
  ⟨none, some 53, .call ⟨.value (.func 5), ⟨[.tmp 51, .tmp 52]⟩, ⟨[22, 22]⟩⟩⟩,
  ⟨none, some 54, .move (.tmp 53)⟩,
  ⟨some (54, true), some 55, .move (.tmp 1)⟩,
  ⟨some (54, true), some 56, .call ⟨.value (.func 7), ⟨[.tmp 55]⟩, ⟨[34]⟩⟩⟩,
  ⟨some (54, true), some 57, .move (.tmp 6)⟩,
  ⟨some (54, true), some 58, .binOp .eql 9 (.tmp 56) (.tmp 57) 9⟩,
  ⟨none, some 59, .pick (.tmp 54) (.tmp 58) (.const (.bool false))⟩,
  ⟨none, some 60, .move (.tmp 59)⟩,
  ⟨some (60, true), some 61, .call ⟨.value (.func 4), ⟨[]⟩, ⟨[]⟩⟩⟩,
  ⟨none, some 62, .pick (.tmp 60) (.tmp 61) (.const (.bool false))⟩,
  ⟨none, some 4, .assign (.tmp 62)⟩] fr h Q := Eq.trans rfl rfl
def s3_1 : GC := .seq (.ops r3_0) .ret
theorem s3_1_w {E : Env} {nt : Nat} {rd : Option Nat} {fr : Fr} {h : Heap} {Q : Ex → Fr → Heap → Prop} : s3_1.wp E nt rd fr h Q = (GC.seq (.ops r3_0) .ret).wp E nt rd fr h Q := Eq.trans rfl rfl
def r3_2 : List GO := [⟨none, some 30, .move (.tmp 8)⟩,
  ⟨none, some 31, .binOp .add 3 (.tmp 30) (.const (.int .i64 1)) 3⟩,
  ⟨none, some 8, .assign (.tmp 31)⟩]
theorem r3_2_w {E : Env} {fr : Fr} {h : Heap} {Q : Fr → Heap → Prop} : opsW E r3_2 fr h Q = opsW E [⟨none, some 30, .move (.tmp 8)⟩,
  ⟨none, some 31, .binOp .add 3 (.tmp 30) (.const (.int .i64 1)) 3⟩,
  ⟨none, some 8, .assign (.tmp 31)⟩] fr h Q := Eq.trans rfl rfl
def s3_3 : GC := .ops r3_2
theorem s3_3_w {E : Env} {nt : Nat} {rd : Option Nat} {fr : Fr} {h : Heap} {Q : Ex → Fr → Heap → Prop} : s3_3.wp E nt rd fr h Q = (GC.ops r3_2).wp E nt rd fr h Q := Eq.trans rfl rfl
def r3_4 : List GO := [⟨none, some 43, .move (.tmp 7)⟩,
  ⟨none, some 44, .move (.tmp 0)⟩,
  ⟨none, some 45, .move (.tmp 8)⟩,
  ⟨none, some 46, .indexAddr 22 (.tmp 44) (.tmp 45)⟩,
  ⟨none, some 47, .load 30 (.tmp 46)⟩,
  ⟨none, some 48, .buildSlice 22 1 ⟨[(0, .tmp 47)]⟩⟩,
  ⟨none, some 49, .call ⟨.builtin .append, ⟨[.tmp 43, .tmp 48]⟩, ⟨[22, 22]⟩⟩⟩,
  ⟨none, some 7, .assign (.tmp 49)⟩]
theorem r3_4_w {E : Env} {fr : Fr} {h : Heap} {Q : Fr → Heap → Prop} : opsW E r3_4 fr h Q = opsW E [⟨none, some 43, .move (.tmp 7)⟩,
  ⟨none, some 44, .move (.tmp 0)⟩,
  ⟨none, some 45, .move (.tmp 8)⟩,
  ⟨none, some 46, .indexAddr 22 (.tmp 44) (.tmp 45)⟩,
  ⟨none, some 47, .load 30 (.tmp 46)⟩,
  ⟨none, some 48, .buildSlice 22 1 ⟨[(0, .tmp 47)]⟩⟩,
  ⟨none, some 49, .call ⟨.builtin .append, ⟨[.tmp 43, .tmp 48]⟩, ⟨[22, 22]⟩⟩⟩,
  ⟨none, some 7, .assign (.tmp 49)⟩] fr h Q := Eq.trans rfl rfl
def s3_5 : GC := .ops r3_4
theorem s3_5_w {E : Env} {nt : Nat} {rd : Option Nat} {fr : Fr} {h : Heap} {Q : Ex → Fr → Heap → Prop} : s3_5.wp E nt rd fr h Q = (GC.ops r3_4).wp E nt rd fr h Q := Eq.trans rfl rfl
def s3_6 : GC := .cond (.tmp 42) s3_5 .skip
theorem s3_6_w {E : Env} {nt : Nat} {rd : Option Nat} {fr : Fr} {h : Heap} {Q : Ex → Fr → Heap → Prop} : s3_6.wp E nt rd fr h Q = (GC.cond (.tmp 42) s3_5 .skip).wp E nt rd fr h Q := Eq.trans rfl rfl
def p3_7 : List (GO × List GO) := [(⟨none, some 32, .move (.tmp 0)⟩, []),
  (⟨none, some 33, .move (.tmp 8)⟩, []),
  (⟨none, some 34, .indexAddr 22 (.tmp 32) (.tmp 33)⟩, []),
  (⟨none, some 35, .fieldAddr 30 (.tmp 34) 2⟩, []),
  (⟨none, some 36, .load 26 (.tmp 35)⟩, []),
  (⟨none, some 37, .move (.tmp 0)⟩, []),
  (⟨none, some 38, .move (.tmp 8)⟩, []),
  (⟨none, some 39, .indexAddr 22 (.tmp 37) (.tmp 38)⟩, []),
  (⟨none, some 40, .fieldAddr 30 (.tmp 39) 3⟩, []),
  (⟨none, some 41, .load 26 (.tmp 40)⟩, []),
  (⟨none, some 42, .binOp .gtr 26 (.tmp 36) (.tmp 41) 26⟩, [])]
theorem p3_7_w {E : Env} {fr : Fr} {h : Heap} {Q : Fr → Heap → Prop} : planW E p3_7 fr h Q = planW E [(⟨none, some 32, .move (.tmp 0)⟩, []),
  (⟨none, some 33, .move (.tmp 8)⟩, []),
  (⟨none, some 34, .indexAddr 22 (.tmp 32) (.tmp 33)⟩, []),
  (⟨none, some 35, .fieldAddr 30 (.tmp 34) 2⟩, []),
  (⟨none, some 36, .load 26 (.tmp 35)⟩, []),
  (⟨none, some 37, .move (.tmp 0)⟩, []),
  (⟨none, some 38, .move (.tmp 8)⟩, []),
  (⟨none, some 39, .indexAddr 22 (.tmp 37) (.tmp 38)⟩, []),
  (⟨none, some 40, .fieldAddr 30 (.tmp 39) 3⟩, []),
  (⟨none, some 41, .load 26 (.tmp 40)⟩, []),
  (⟨none, some 42, .binOp .gtr 26 (.tmp 36) (.tmp 41) 26⟩, [])] fr h Q := Eq.trans rfl rfl
def s3_8 : GC := .seq (.plan p3_7) s3_6
theorem s3_8_w {E : Env} {nt : Nat} {rd : Option Nat} {fr : Fr} {h : Heap} {Q : Ex → Fr → Heap → Prop} : s3_8.wp E nt rd fr h Q = (GC.seq (.plan p3_7) s3_6).wp E nt rd fr h Q := Eq.trans rfl rfl
def s3_9 : GC := .seq (.block 1 s3_8) s3_3
theorem s3_9_w {E : Env} {nt : Nat} {rd : Option Nat} {fr : Fr} {h : Heap} {Q : Ex → Fr → Heap → Prop} : s3_9.wp E nt rd fr h Q = (GC.seq (.block 1 s3_8) s3_3).wp E nt rd fr h Q := Eq.trans rfl rfl
def s3_10 : GC := .cond (.tmp 29) .skip (.exit 0)
theorem s3_10_w {E : Env} {nt : Nat} {rd : Option Nat} {fr : Fr} {h : Heap} {Q : Ex → Fr → Heap → Prop} : s3_10.wp E nt rd fr h Q = (GC.cond (.tmp 29) .skip (.exit 0)).wp E nt rd fr h Q := Eq.trans rfl rfl
def r3_11 : List GO := [⟨none, some 26, .move (.tmp 8)⟩,
  ⟨none, some 27, .move (.tmp 0)⟩,
  ⟨none, some 28, .call ⟨.builtin .len, ⟨[.tmp 27]⟩, ⟨[22]⟩⟩⟩,
  ⟨none, some 29, .binOp .lss 3 (.tmp 26) (.tmp 28) 3⟩]
theorem r3_11_w {E : Env} {fr : Fr} {h : Heap} {Q : Fr → Heap → Prop} : opsW E r3_11 fr h Q = opsW E [⟨none, some 26, .move (.tmp 8)⟩,
  ⟨none, some 27, .move (.tmp 0)⟩,
  ⟨none, some 28, .call ⟨.builtin .len, ⟨[.tmp 27]⟩, ⟨[22]⟩⟩⟩,
  ⟨none, some 29, .binOp .lss 3 (.tmp 26) (.tmp 28) 3⟩] fr h Q := Eq.trans rfl rfl
def s3_12 : GC := .seq (.ops r3_11) s3_10
theorem s3_12_w {E : Env} {nt : Nat} {rd : Option Nat} {fr : Fr} {h : Heap} {Q : Ex → Fr → Heap → Prop} : s3_12.wp E nt rd fr h Q = (GC.seq (.ops r3_11) s3_10).wp E nt rd fr h Q := Eq.trans rfl rfl
def s3_13 : GC := .seq (s3_12) s3_9
theorem s3_13_w {E : Env} {nt : Nat} {rd : Option Nat} {fr : Fr} {h : Heap} {Q : Ex → Fr → Heap → Prop} : s3_13.wp E nt rd fr h Q = (GC.seq (s3_12) s3_9).wp E nt rd fr h Q := Eq.trans rfl rfl
def s3_14 : GC := .loop s3_13
theorem s3_14_w {E : Env} {nt : Nat} {rd : Option Nat} {fr : Fr} {h : Heap} {Q : Ex → Fr → Heap → Prop} : s3_14.wp E nt rd fr h Q = (GC.loop s3_13).wp E nt rd fr h Q := Eq.trans rfl rfl
def s3_15 : GC := .block 0 s3_14
theorem s3_15_w {E : Env} {nt : Nat} {rd : Option Nat} {fr : Fr} {h : Heap} {Q : Ex → Fr → Heap → Prop} : s3_15.wp E nt rd fr h Q = (GC.block 0 s3_14).wp E nt rd fr h Q := Eq.trans rfl rfl
def r3_16 : List GO := [⟨none, some 8, .assign (.const (.int .i64 0))⟩]
theorem r3_16_w {E : Env} {fr : Fr} {h : Heap} {Q : Fr → Heap → Prop} : opsW E r3_16 fr h Q = opsW E [⟨none, some 8, .assign (.const (.int .i64 0))⟩] fr h Q := Eq.trans rfl rfl
def s3_17 : GC := .seq (.ops r3_16) s3_15
theorem s3_17_w {E : Env} {nt : Nat} {rd : Option Nat} {fr : Fr} {h : Heap} {Q : Ex → Fr → Heap → Prop} : s3_17.wp E nt rd fr h Q = (GC.seq (.ops r3_16) s3_15).wp E nt rd fr h Q := Eq.trans rfl rfl
def s3_18 : GC := .seq (s3_17) s3_1
theorem s3_18_w {E : Env} {nt : Nat} {rd : Option Nat} {fr : Fr} {h : Heap} {Q : Ex → Fr → Heap → Prop} : s3_18.wp E nt rd fr h Q = (GC.seq (s3_17) s3_1).wp E nt rd fr h Q := Eq.trans rfl rfl
def r3_19 : List GO := [⟨none, some 7, .assign (.const (.slice none 0 0))⟩]
theorem r3_19_w {E : Env} {fr : Fr} {h : Heap} {Q : Fr → Heap → Prop} : opsW E r3_19 fr h Q = opsW E [⟨none, some 7, .assign (.const (.slice none 0 0))⟩] fr h Q := Eq.trans rfl rfl
def s3_20 : GC := .seq (.ops r3_19) s3_18
theorem s3_20_w {E : Env} {nt : Nat} {rd : Option Nat} {fr : Fr} {h : Heap} {Q : Ex → Fr → Heap → Prop} : s3_20.wp E nt rd fr h Q = (GC.seq (.ops r3_19) s3_18).wp E nt rd fr h Q := Eq.trans rfl rfl
def r3_21 : List GO := [⟨none, some 22, .move (.tmp 5)⟩,
  ⟨none, some 23, .move (.tmp 1)⟩,
  ⟨none, some 24, .indexAddr 24 (.tmp 22) (.tmp 23)⟩,
  ⟨none, some 25, .load 9 (.tmp 24)⟩,
  ⟨none, some 6, .assign (.tmp 25)⟩]
theorem r3_21_w {E : Env} {fr : Fr} {h : Heap} {Q : Fr → Heap → Prop} : opsW E r3_21 fr h Q = opsW E [⟨none, some 22, .move (.tmp 5)⟩,
  ⟨none, some 23, .move (.tmp 1)⟩,
  ⟨none, some 24, .indexAddr 24 (.tmp 22) (.tmp 23)⟩,
  ⟨none, some 25, .load 9 (.tmp 24)⟩,
  ⟨none, some 6, .assign (.tmp 25)⟩] fr h Q := Eq.trans rfl rfl
def s3_22 : GC := .ops r3_21
theorem s3_22_w {E : Env} {nt : Nat} {rd : Option Nat} {fr : Fr} {h : Heap} {Q : Ex → Fr → Heap → Prop} : s3_22.wp E nt rd fr h Q = (GC.ops r3_21).wp E nt rd fr h Q := Eq.trans rfl rfl
def s3_23 : GC := .cond (.tmp 21) s3_22 .skip
theorem s3_23_w {E : Env} {nt : Nat} {rd : Option Nat} {fr : Fr} {h : Heap} {Q : Ex → Fr → Heap → Prop} : s3_23.wp E nt rd fr h Q = (GC.cond (.tmp 21) s3_22 .skip).wp E nt rd fr h Q := Eq.trans rfl rfl
def r3_24 : List GO := [⟨none, some 14, .move (.tmp 1)⟩,
  ⟨none, some 15, .binOp .geq 3 (.tmp 14) (.const (.int .i64 0)) 3⟩,
  ⟨none, some 16, .move (.tmp 15)⟩,
  ⟨some (16, true), some 17, .move (.tmp 1)⟩,
  ⟨some (16, true), some 18, .move (.tmp 5)⟩,
  ⟨some (16, true), some 19, .call ⟨.builtin .len, ⟨[.tmp 18]⟩, ⟨[24]⟩⟩⟩,
  ⟨some (16, true), some 20, .binOp .lss 3 (.tmp 17) (.tmp 19) 3⟩,
  ⟨none, some 21, .pick (.tmp 16) (.tmp 20) (.const (.bool false))⟩]
theorem r3_24_w {E : Env} {fr : Fr} {h : Heap} {Q : Fr → Heap → Prop} : opsW E r3_24 fr h Q = opsW E [⟨none, some 14, .move (.tmp 1)⟩,
  ⟨none, some 15, .binOp .geq 3 (.tmp 14) (.const (.int .i64 0)) 3⟩,
  ⟨none, some 16, .move (.tmp 15)⟩,
  ⟨some (16, true), some 17, .move (.tmp 1)⟩,
  ⟨some (16, true), some 18, .move (.tmp 5)⟩,
  ⟨some (16, true), some 19, .call ⟨.builtin .len, ⟨[.tmp 18]⟩, ⟨[24]⟩⟩⟩,
  ⟨some (16, true), some 20, .binOp .lss 3 (.tmp 17) (.tmp 19) 3⟩,
  ⟨none, some 21, .pick (.tmp 16) (.tmp 20) (.const (.bool false))⟩] fr h Q := Eq.trans rfl rfl
def s3_25 : GC := .seq (.ops r3_24) s3_23
theorem s3_25_w {E : Env} {nt : Nat} {rd : Option Nat} {fr : Fr} {h : Heap} {Q : Ex → Fr → Heap → Prop} : s3_25.wp E nt rd fr h Q = (GC.seq (.ops r3_24) s3_23).wp E nt rd fr h Q := Eq.trans rfl rfl
def s3_26 : GC := .seq (s3_25) s3_20
theorem s3_26_w {E : Env} {nt : Nat} {rd : Option Nat} {fr : Fr} {h : Heap} {Q : Ex → Fr → Heap → Prop} : s3_26.wp E nt rd fr h Q = (GC.seq (s3_25) s3_20).wp E nt rd fr h Q := Eq.trans rfl rfl
def r3_27 : List GO := [⟨none, some 6, .assign (.const (.string ⟨⟨[63]⟩⟩))⟩]
theorem r3_27_w {E : Env} {fr : Fr} {h : Heap} {Q : Fr → Heap → Prop} : opsW E r3_27 fr h Q = opsW E [⟨none, some 6, .assign (.const (.string ⟨⟨[63]⟩⟩))⟩] fr h Q := Eq.trans rfl rfl
def s3_28 : GC := .seq (.ops r3_27) s3_26
theorem s3_28_w {E : Env} {nt : Nat} {rd : Option Nat} {fr : Fr} {h : Heap} {Q : Ex → Fr → Heap → Prop} : s3_28.wp E nt rd fr h Q = (GC.seq (.ops r3_27) s3_26).wp E nt rd fr h Q := Eq.trans rfl rfl
def r3_29 : List GO := [⟨none, some 13, .buildSlice 24 10 ⟨[(0, .const (.string ⟨⟨[63]⟩⟩)), (1, .const (.string ⟨⟨[108, 105, 118, 101]⟩⟩)), (2, .const (.string ⟨⟨[111, 119, 110]⟩⟩)), (3, .const (.string ⟨⟨[99, 97, 114, 118, 101, 100]⟩⟩)), (4, .const (.string ⟨⟨[99, 104, 105, 108, 100, 114, 101, 110]⟩⟩)), (5, .const (.string ⟨⟨[99, 111, 117, 110, 116]⟩⟩)), (6, .const (.string ⟨⟨[117, 115, 101, 100]⟩⟩)), (7, .const (.string ⟨⟨[98, 117, 100, 103, 101, 116]⟩⟩)), (8, .const (.string ⟨⟨[114, 101, 102, 105, 108, 108, 115]⟩⟩)), (9, .const (.string ⟨⟨[98, 111, 117, 110, 100]⟩⟩))]⟩⟩,
  ⟨none, some 5, .assign (.tmp 13)⟩]
theorem r3_29_w {E : Env} {fr : Fr} {h : Heap} {Q : Fr → Heap → Prop} : opsW E r3_29 fr h Q = opsW E [⟨none, some 13, .buildSlice 24 10 ⟨[(0, .const (.string ⟨⟨[63]⟩⟩)), (1, .const (.string ⟨⟨[108, 105, 118, 101]⟩⟩)), (2, .const (.string ⟨⟨[111, 119, 110]⟩⟩)), (3, .const (.string ⟨⟨[99, 97, 114, 118, 101, 100]⟩⟩)), (4, .const (.string ⟨⟨[99, 104, 105, 108, 100, 114, 101, 110]⟩⟩)), (5, .const (.string ⟨⟨[99, 111, 117, 110, 116]⟩⟩)), (6, .const (.string ⟨⟨[117, 115, 101, 100]⟩⟩)), (7, .const (.string ⟨⟨[98, 117, 100, 103, 101, 116]⟩⟩)), (8, .const (.string ⟨⟨[114, 101, 102, 105, 108, 108, 115]⟩⟩)), (9, .const (.string ⟨⟨[98, 111, 117, 110, 100]⟩⟩))]⟩⟩,
  ⟨none, some 5, .assign (.tmp 13)⟩] fr h Q := Eq.trans rfl rfl
def s3_30 : GC := .seq (.ops r3_29) s3_28
theorem s3_30_w {E : Env} {nt : Nat} {rd : Option Nat} {fr : Fr} {h : Heap} {Q : Ex → Fr → Heap → Prop} : s3_30.wp E nt rd fr h Q = (GC.seq (.ops r3_29) s3_28).wp E nt rd fr h Q := Eq.trans rfl rfl
def r3_31 : List GO := [⟨none, some 12, .call ⟨.value (.func 4), ⟨[]⟩, ⟨[]⟩⟩⟩,
  ⟨none, some 4, .assign (.tmp 12)⟩]
theorem r3_31_w {E : Env} {fr : Fr} {h : Heap} {Q : Fr → Heap → Prop} : opsW E r3_31 fr h Q = opsW E [⟨none, some 12, .call ⟨.value (.func 4), ⟨[]⟩, ⟨[]⟩⟩⟩,
  ⟨none, some 4, .assign (.tmp 12)⟩] fr h Q := Eq.trans rfl rfl
def s3_32 : GC := .seq (.ops r3_31) .ret
theorem s3_32_w {E : Env} {nt : Nat} {rd : Option Nat} {fr : Fr} {h : Heap} {Q : Ex → Fr → Heap → Prop} : s3_32.wp E nt rd fr h Q = (GC.seq (.ops r3_31) .ret).wp E nt rd fr h Q := Eq.trans rfl rfl
def s3_33 : GC := .cond (.tmp 11) s3_32 .skip
theorem s3_33_w {E : Env} {nt : Nat} {rd : Option Nat} {fr : Fr} {h : Heap} {Q : Ex → Fr → Heap → Prop} : s3_33.wp E nt rd fr h Q = (GC.cond (.tmp 11) s3_32 .skip).wp E nt rd fr h Q := Eq.trans rfl rfl
def r3_34 : List GO := [⟨none, some 9, .move (.tmp 0)⟩,
  ⟨none, some 10, .call ⟨.builtin .len, ⟨[.tmp 9]⟩, ⟨[22]⟩⟩⟩,
  ⟨none, some 11, .binOp .gtr 3 (.tmp 10) (.const (.int .i64 100)) 3⟩]
theorem r3_34_w {E : Env} {fr : Fr} {h : Heap} {Q : Fr → Heap → Prop} : opsW E r3_34 fr h Q = opsW E [⟨none, some 9, .move (.tmp 0)⟩,
  ⟨none, some 10, .call ⟨.builtin .len, ⟨[.tmp 9]⟩, ⟨[22]⟩⟩⟩,
  ⟨none, some 11, .binOp .gtr 3 (.tmp 10) (.const (.int .i64 100)) 3⟩] fr h Q := Eq.trans rfl rfl
def s3_35 : GC := .seq (.ops r3_34) s3_33
theorem s3_35_w {E : Env} {nt : Nat} {rd : Option Nat} {fr : Fr} {h : Heap} {Q : Ex → Fr → Heap → Prop} : s3_35.wp E nt rd fr h Q = (GC.seq (.ops r3_34) s3_33).wp E nt rd fr h Q := Eq.trans rfl rfl
def s3_36 : GC := .seq (s3_35) s3_30
theorem s3_36_w {E : Env} {nt : Nat} {rd : Option Nat} {fr : Fr} {h : Heap} {Q : Ex → Fr → Heap → Prop} : s3_36.wp E nt rd fr h Q = (GC.seq (s3_35) s3_30).wp E nt rd fr h Q := Eq.trans rfl rfl
def r3_37 : List GO := [⟨none, some 4, .assign (.const (.bool false))⟩]
theorem r3_37_w {E : Env} {fr : Fr} {h : Heap} {Q : Fr → Heap → Prop} : opsW E r3_37 fr h Q = opsW E [⟨none, some 4, .assign (.const (.bool false))⟩] fr h Q := Eq.trans rfl rfl
def s3_38 : GC := .seq (.ops r3_37) s3_36
theorem s3_38_w {E : Env} {nt : Nat} {rd : Option Nat} {fr : Fr} {h : Heap} {Q : Ex → Fr → Heap → Prop} : s3_38.wp E nt rd fr h Q = (GC.seq (.ops r3_37) s3_36).wp E nt rd fr h Q := Eq.trans rfl rfl
theorem c3 : Tryd.f3.body.bind (clean env 63) = some s3_38 := by kernel_rfl
theorem e3 : env.funs.get 3 = some Tryd.f3 := by kernel_rfl
theorem F3 {args : List Value} {h : Heap} {K : Value → Heap → Prop} (hl : args.length = 2) (w : s3_38.wp env 63 none (setAll args 0 .leaf) h (resK env [.tmp 4] K)) : Ret env (.func 3) args h K :=
  Ret.of_body' rfl e3 c3 rfl rfl (by rw [hl]; decide) w
/-! helmsman/helmsmanref29.SameUsed -/
def r5_0 : List GO := [⟨none, some 4, .assign (.const (.bool true))⟩]
theorem r5_0_w {E : Env} {fr : Fr} {h : Heap} {Q : Fr → Heap → Prop} : opsW E r5_0 fr h Q = opsW E [⟨none, some 4, .assign (.const (.bool true))⟩] fr h Q := Eq.trans rfl rfl
def s5_1 : GC := .seq (.ops r5_0) .ret
theorem s5_1_w {E : Env} {nt : Nat} {rd : Option Nat} {fr : Fr} {h : Heap} {Q : Ex → Fr → Heap → Prop} : s5_1.wp E nt rd fr h Q = (GC.seq (.ops r5_0) .ret).wp E nt rd fr h Q := Eq.trans rfl rfl
def r5_2 : List GO := [⟨none, some 15, .move (.tmp 5)⟩,
  ⟨none, some 16, .binOp .add 3 (.tmp 15) (.const (.int .i64 1)) 3⟩,
  ⟨none, some 5, .assign (.tmp 16)⟩]
theorem r5_2_w {E : Env} {fr : Fr} {h : Heap} {Q : Fr → Heap → Prop} : opsW E r5_2 fr h Q = opsW E [⟨none, some 15, .move (.tmp 5)⟩,
  ⟨none, some 16, .binOp .add 3 (.tmp 15) (.const (.int .i64 1)) 3⟩,
  ⟨none, some 5, .assign (.tmp 16)⟩] fr h Q := Eq.trans rfl rfl
def s5_3 : GC := .ops r5_2
theorem s5_3_w {E : Env} {nt : Nat} {rd : Option Nat} {fr : Fr} {h : Heap} {Q : Ex → Fr → Heap → Prop} : s5_3.wp E nt rd fr h Q = (GC.ops r5_2).wp E nt rd fr h Q := Eq.trans rfl rfl
def r5_4 : List GO := [⟨none, some 4, .assign (.const (.bool false))⟩]
theorem r5_4_w {E : Env} {fr : Fr} {h : Heap} {Q : Fr → Heap → Prop} : opsW E r5_4 fr h Q = opsW E [⟨none, some 4, .assign (.const (.bool false))⟩] fr h Q := Eq.trans rfl rfl
def s5_5 : GC := .seq (.ops r5_4) .ret
theorem s5_5_w {E : Env} {nt : Nat} {rd : Option Nat} {fr : Fr} {h : Heap} {Q : Ex → Fr → Heap → Prop} : s5_5.wp E nt rd fr h Q = (GC.seq (.ops r5_4) .ret).wp E nt rd fr h Q := Eq.trans rfl rfl
def s5_6 : GC := .cond (.tmp 25) s5_5 .skip
theorem s5_6_w {E : Env} {nt : Nat} {rd : Option Nat} {fr : Fr} {h : Heap} {Q : Ex → Fr → Heap → Prop} : s5_6.wp E nt rd fr h Q = (GC.cond (.tmp 25) s5_5 .skip).wp E nt rd fr h Q := Eq.trans rfl rfl
def p5_7 : List (GO × List GO) := [(⟨none, some 17, .move (.tmp 0)⟩, []),
  (⟨none, some 18, .move (.tmp 5)⟩, []),
  (⟨none, some 19, .indexAddr 22 (.tmp 17) (.tmp 18)⟩, []),
  (⟨none, some 20, .load 30 (.tmp 19)⟩, []),
  (⟨none, some 21, .move (.tmp 1)⟩, []),
  (⟨none, some 22, .move (.tmp 5)⟩, []),
  (⟨none, some 23, .indexAddr 22 (.tmp 21) (.tmp 22)⟩, []),
  (⟨none, some 24, .load 30 (.tmp 23)⟩, []),
  (⟨none, some 25, .binOp .neq 30 (.tmp 20) (.tmp 24) 30⟩, [])]
theorem p5_7_w {E : Env} {fr : Fr} {h : Heap} {Q : Fr → Heap → Prop} : planW E p5_7 fr h Q = planW E [(⟨none, some 17, .move (.tmp 0)⟩, []),
  (⟨none, some 18, .move (.tmp 5)⟩, []),
  (⟨none, some 19, .indexAddr 22 (.tmp 17) (.tmp 18)⟩, []),
  (⟨none, some 20, .load 30 (.tmp 19)⟩, []),
  (⟨none, some 21, .move (.tmp 1)⟩, []),
  (⟨none, some 22, .move (.tmp 5)⟩, []),
  (⟨none, some 23, .indexAddr 22 (.tmp 21) (.tmp 22)⟩, []),
  (⟨none, some 24, .load 30 (.tmp 23)⟩, []),
  (⟨none, some 25, .binOp .neq 30 (.tmp 20) (.tmp 24) 30⟩, [])] fr h Q := Eq.trans rfl rfl
def s5_8 : GC := .seq (.plan p5_7) s5_6
theorem s5_8_w {E : Env} {nt : Nat} {rd : Option Nat} {fr : Fr} {h : Heap} {Q : Ex → Fr → Heap → Prop} : s5_8.wp E nt rd fr h Q = (GC.seq (.plan p5_7) s5_6).wp E nt rd fr h Q := Eq.trans rfl rfl
def s5_9 : GC := .seq (.block 1 s5_8) s5_3
theorem s5_9_w {E : Env} {nt : Nat} {rd : Option Nat} {fr : Fr} {h : Heap} {Q : Ex → Fr → Heap → Prop} : s5_9.wp E nt rd fr h Q = (GC.seq (.block 1 s5_8) s5_3).wp E nt rd fr h Q := Eq.trans rfl rfl
def s5_10 : GC := .cond (.tmp 14) .skip (.exit 0)
theorem s5_10_w {E : Env} {nt : Nat} {rd : Option Nat} {fr : Fr} {h : Heap} {Q : Ex → Fr → Heap → Prop} : s5_10.wp E nt rd fr h Q = (GC.cond (.tmp 14) .skip (.exit 0)).wp E nt rd fr h Q := Eq.trans rfl rfl
def r5_11 : List GO := [⟨none, some 11, .move (.tmp 5)⟩,
  ⟨none, some 12, .move (.tmp 0)⟩,
  ⟨none, some 13, .call ⟨.builtin .len, ⟨[.tmp 12]⟩, ⟨[22]⟩⟩⟩,
  ⟨none, some 14, .binOp .lss 3 (.tmp 11) (.tmp 13) 3⟩]
theorem r5_11_w {E : Env} {fr : Fr} {h : Heap} {Q : Fr → Heap → Prop} : opsW E r5_11 fr h Q = opsW E [⟨none, some 11, .move (.tmp 5)⟩,
  ⟨none, some 12, .move (.tmp 0)⟩,
  ⟨none, some 13, .call ⟨.builtin .len, ⟨[.tmp 12]⟩, ⟨[22]⟩⟩⟩,
  ⟨none, some 14, .binOp .lss 3 (.tmp 11) (.tmp 13) 3⟩] fr h Q := Eq.trans rfl rfl
def s5_12 : GC := .seq (.ops r5_11) s5_10
theorem s5_12_w {E : Env} {nt : Nat} {rd : Option Nat} {fr : Fr} {h : Heap} {Q : Ex → Fr → Heap → Prop} : s5_12.wp E nt rd fr h Q = (GC.seq (.ops r5_11) s5_10).wp E nt rd fr h Q := Eq.trans rfl rfl
def s5_13 : GC := .seq (s5_12) s5_9
theorem s5_13_w {E : Env} {nt : Nat} {rd : Option Nat} {fr : Fr} {h : Heap} {Q : Ex → Fr → Heap → Prop} : s5_13.wp E nt rd fr h Q = (GC.seq (s5_12) s5_9).wp E nt rd fr h Q := Eq.trans rfl rfl
def s5_14 : GC := .loop s5_13
theorem s5_14_w {E : Env} {nt : Nat} {rd : Option Nat} {fr : Fr} {h : Heap} {Q : Ex → Fr → Heap → Prop} : s5_14.wp E nt rd fr h Q = (GC.loop s5_13).wp E nt rd fr h Q := Eq.trans rfl rfl
def s5_15 : GC := .block 0 s5_14
theorem s5_15_w {E : Env} {nt : Nat} {rd : Option Nat} {fr : Fr} {h : Heap} {Q : Ex → Fr → Heap → Prop} : s5_15.wp E nt rd fr h Q = (GC.block 0 s5_14).wp E nt rd fr h Q := Eq.trans rfl rfl
def r5_16 : List GO := [⟨none, some 5, .assign (.const (.int .i64 0))⟩]
theorem r5_16_w {E : Env} {fr : Fr} {h : Heap} {Q : Fr → Heap → Prop} : opsW E r5_16 fr h Q = opsW E [⟨none, some 5, .assign (.const (.int .i64 0))⟩] fr h Q := Eq.trans rfl rfl
def s5_17 : GC := .seq (.ops r5_16) s5_15
theorem s5_17_w {E : Env} {nt : Nat} {rd : Option Nat} {fr : Fr} {h : Heap} {Q : Ex → Fr → Heap → Prop} : s5_17.wp E nt rd fr h Q = (GC.seq (.ops r5_16) s5_15).wp E nt rd fr h Q := Eq.trans rfl rfl
def s5_18 : GC := .seq (s5_17) s5_1
theorem s5_18_w {E : Env} {nt : Nat} {rd : Option Nat} {fr : Fr} {h : Heap} {Q : Ex → Fr → Heap → Prop} : s5_18.wp E nt rd fr h Q = (GC.seq (s5_17) s5_1).wp E nt rd fr h Q := Eq.trans rfl rfl
def r5_19 : List GO := [⟨none, some 4, .assign (.const (.bool false))⟩]
theorem r5_19_w {E : Env} {fr : Fr} {h : Heap} {Q : Fr → Heap → Prop} : opsW E r5_19 fr h Q = opsW E [⟨none, some 4, .assign (.const (.bool false))⟩] fr h Q := Eq.trans rfl rfl
def s5_20 : GC := .seq (.ops r5_19) .ret
theorem s5_20_w {E : Env} {nt : Nat} {rd : Option Nat} {fr : Fr} {h : Heap} {Q : Ex → Fr → Heap → Prop} : s5_20.wp E nt rd fr h Q = (GC.seq (.ops r5_19) .ret).wp E nt rd fr h Q := Eq.trans rfl rfl
def s5_21 : GC := .cond (.tmp 10) s5_20 .skip
theorem s5_21_w {E : Env} {nt : Nat} {rd : Option Nat} {fr : Fr} {h : Heap} {Q : Ex → Fr → Heap → Prop} : s5_21.wp E nt rd fr h Q = (GC.cond (.tmp 10) s5_20 .skip).wp E nt rd fr h Q := Eq.trans rfl rfl
def r5_22 : List GO := [⟨none, some 6, .move (.tmp 0)⟩,
  ⟨none, some 7, .call ⟨.builtin .len, ⟨[.tmp 6]⟩, ⟨[22]⟩⟩⟩,
  ⟨none, some 8, .move (.tmp 1)⟩,
  ⟨none, some 9, .call ⟨.builtin .len, ⟨[.tmp 8]⟩, ⟨[22]⟩⟩⟩,
  ⟨none, some 10, .binOp .neq 3 (.tmp 7) (.tmp 9) 3⟩]
theorem r5_22_w {E : Env} {fr : Fr} {h : Heap} {Q : Fr → Heap → Prop} : opsW E r5_22 fr h Q = opsW E [⟨none, some 6, .move (.tmp 0)⟩,
  ⟨none, some 7, .call ⟨.builtin .len, ⟨[.tmp 6]⟩, ⟨[22]⟩⟩⟩,
  ⟨none, some 8, .move (.tmp 1)⟩,
  ⟨none, some 9, .call ⟨.builtin .len, ⟨[.tmp 8]⟩, ⟨[22]⟩⟩⟩,
  ⟨none, some 10, .binOp .neq 3 (.tmp 7) (.tmp 9) 3⟩] fr h Q := Eq.trans rfl rfl
def s5_23 : GC := .seq (.ops r5_22) s5_21
theorem s5_23_w {E : Env} {nt : Nat} {rd : Option Nat} {fr : Fr} {h : Heap} {Q : Ex → Fr → Heap → Prop} : s5_23.wp E nt rd fr h Q = (GC.seq (.ops r5_22) s5_21).wp E nt rd fr h Q := Eq.trans rfl rfl
def s5_24 : GC := .seq (s5_23) s5_18
theorem s5_24_w {E : Env} {nt : Nat} {rd : Option Nat} {fr : Fr} {h : Heap} {Q : Ex → Fr → Heap → Prop} : s5_24.wp E nt rd fr h Q = (GC.seq (s5_23) s5_18).wp E nt rd fr h Q := Eq.trans rfl rfl
def r5_25 : List GO := [⟨none, some 4, .assign (.const (.bool false))⟩]
theorem r5_25_w {E : Env} {fr : Fr} {h : Heap} {Q : Fr → Heap → Prop} : opsW E r5_25 fr h Q = opsW E [⟨none, some 4, .assign (.const (.bool false))⟩] fr h Q := Eq.trans rfl rfl
def s5_26 : GC := .seq (.ops r5_25) s5_24
theorem s5_26_w {E : Env} {nt : Nat} {rd : Option Nat} {fr : Fr} {h : Heap} {Q : Ex → Fr → Heap → Prop} : s5_26.wp E nt rd fr h Q = (GC.seq (.ops r5_25) s5_24).wp E nt rd fr h Q := Eq.trans rfl rfl
theorem c5 : Tryd.f5.body.bind (clean env 26) = some s5_26 := by kernel_rfl
theorem e5 : env.funs.get 5 = some Tryd.f5 := by kernel_rfl
theorem F5 {args : List Value} {h : Heap} {K : Value → Heap → Prop} (hl : args.length = 2) (w : s5_26.wp env 26 none (setAll args 0 .leaf) h (resK env [.tmp 4] K)) : Ret env (.func 5) args h K :=
  Ret.of_body' rfl e5 c5 rfl rfl (by rw [hl]; decide) w
/-! helmsman/limits.Over -/
def r6_0 : List GO := [⟨none, some 21, .move (.tmp 2)⟩,
  ⟨none, some 2, .assign (.tmp 21)⟩]
theorem r6_0_w {E : Env} {fr : Fr} {h : Heap} {Q : Fr → Heap → Prop} : opsW E r6_0 fr h Q = opsW E [⟨none, some 21, .move (.tmp 2)⟩,
  ⟨none, some 2, .assign (.tmp 21)⟩] fr h Q := Eq.trans rfl rfl
def s6_1 : GC := .seq (.ops r6_0) .ret
theorem s6_1_w {E : Env} {nt : Nat} {rd : Option Nat} {fr : Fr} {h : Heap} {Q : Ex → Fr → Heap → Prop} : s6_1.wp E nt rd fr h Q = (GC.seq (.ops r6_0) .ret).wp E nt rd fr h Q := Eq.trans rfl rfl
def r6_2 : List GO := [⟨none, some 20, .binOp .add 3 (.tmp 7) (.const (.int .i64 1)) 3⟩,
  ⟨none, some 7, .move (.tmp 20)⟩]
theorem r6_2_w {E : Env} {fr : Fr} {h : Heap} {Q : Fr → Heap → Prop} : opsW E r6_2 fr h Q = opsW E [⟨none, some 20, .binOp .add 3 (.tmp 7) (.const (.int .i64 1)) 3⟩,
  ⟨none, some 7, .move (.tmp 20)⟩] fr h Q := Eq.trans rfl rfl
def s6_3 : GC := .ops r6_2
theorem s6_3_w {E : Env} {nt : Nat} {rd : Option Nat} {fr : Fr} {h : Heap} {Q : Ex → Fr → Heap → Prop} : s6_3.wp E nt rd fr h Q = (GC.ops r6_2).wp E nt rd fr h Q := Eq.trans rfl rfl
def r6_4 : List GO := [⟨none, some 16, .move (.tmp 2)⟩,
  ⟨none, some 17, .load 30 (.tmp 4)⟩,
  ⟨none, some 18, .buildSlice 22 1 ⟨[(0, .tmp 17)]⟩⟩,
  ⟨none, some 19, .call ⟨.builtin .append, ⟨[.tmp 16, .tmp 18]⟩, ⟨[22, 22]⟩⟩⟩,
  ⟨none, some 2, .assign (.tmp 19)⟩]
theorem r6_4_w {E : Env} {fr : Fr} {h : Heap} {Q : Fr → Heap → Prop} : opsW E r6_4 fr h Q = opsW E [⟨none, some 16, .move (.tmp 2)⟩,
  ⟨none, some 17, .load 30 (.tmp 4)⟩,
  ⟨none, some 18, .buildSlice 22 1 ⟨[(0, .tmp 17)]⟩⟩,
  ⟨none, some 19, .call ⟨.builtin .append, ⟨[.tmp 16, .tmp 18]⟩, ⟨[22, 22]⟩⟩⟩,
  ⟨none, some 2, .assign (.tmp 19)⟩] fr h Q := Eq.trans rfl rfl
def s6_5 : GC := .ops r6_4
theorem s6_5_w {E : Env} {nt : Nat} {rd : Option Nat} {fr : Fr} {h : Heap} {Q : Ex → Fr → Heap → Prop} : s6_5.wp E nt rd fr h Q = (GC.ops r6_4).wp E nt rd fr h Q := Eq.trans rfl rfl
def s6_6 : GC := .cond (.tmp 15) s6_5 .skip
theorem s6_6_w {E : Env} {nt : Nat} {rd : Option Nat} {fr : Fr} {h : Heap} {Q : Ex → Fr → Heap → Prop} : s6_6.wp E nt rd fr h Q = (GC.cond (.tmp 15) s6_5 .skip).wp E nt rd fr h Q := Eq.trans rfl rfl
def r6_7 : List GO := [⟨none, some 11, .fieldAddr 30 (.tmp 4) 2⟩,
  ⟨none, some 12, .load 26 (.tmp 11)⟩,
  ⟨none, some 13, .fieldAddr 30 (.tmp 4) 3⟩,
  ⟨none, some 14, .load 26 (.tmp 13)⟩,
  ⟨none, some 15, .binOp .gtr 26 (.tmp 12) (.tmp 14) 26⟩]
theorem r6_7_w {E : Env} {fr : Fr} {h : Heap} {Q : Fr → Heap → Prop} : opsW E r6_7 fr h Q = opsW E [⟨none, some 11, .fieldAddr 30 (.tmp 4) 2⟩,
  ⟨none, some 12, .load 26 (.tmp 11)⟩,
  ⟨none, some 13, .fieldAddr 30 (.tmp 4) 3⟩,
  ⟨none, some 14, .load 26 (.tmp 13)⟩,
  ⟨none, some 15, .binOp .gtr 26 (.tmp 12) (.tmp 14) 26⟩] fr h Q := Eq.trans rfl rfl
def s6_8 : GC := .seq (.ops r6_7) s6_6
theorem s6_8_w {E : Env} {nt : Nat} {rd : Option Nat} {fr : Fr} {h : Heap} {Q : Ex → Fr → Heap → Prop} : s6_8.wp E nt rd fr h Q = (GC.seq (.ops r6_7) s6_6).wp E nt rd fr h Q := Eq.trans rfl rfl
def r6_9 : List GO := [⟨none, some 9, .indexAddr 22 (.tmp 5) (.tmp 7)⟩,
  ⟨none, some 10, .load 30 (.tmp 9)⟩,
  ⟨none, some 4, .alloc 30⟩,
  ⟨none, none, .store 30 (.tmp 4) (.tmp 10)⟩]
theorem r6_9_w {E : Env} {fr : Fr} {h : Heap} {Q : Fr → Heap → Prop} : opsW E r6_9 fr h Q = opsW E [⟨none, some 9, .indexAddr 22 (.tmp 5) (.tmp 7)⟩,
  ⟨none, some 10, .load 30 (.tmp 9)⟩,
  ⟨none, some 4, .alloc 30⟩,
  ⟨none, none, .store 30 (.tmp 4) (.tmp 10)⟩] fr h Q := Eq.trans rfl rfl
def s6_10 : GC := .seq (.ops r6_9) s6_8
theorem s6_10_w {E : Env} {nt : Nat} {rd : Option Nat} {fr : Fr} {h : Heap} {Q : Ex → Fr → Heap → Prop} : s6_10.wp E nt rd fr h Q = (GC.seq (.ops r6_9) s6_8).wp E nt rd fr h Q := Eq.trans rfl rfl
def s6_11 : GC := .seq (.block 1 s6_10) s6_3
theorem s6_11_w {E : Env} {nt : Nat} {rd : Option Nat} {fr : Fr} {h : Heap} {Q : Ex → Fr → Heap → Prop} : s6_11.wp E nt rd fr h Q = (GC.seq (.block 1 s6_10) s6_3).wp E nt rd fr h Q := Eq.trans rfl rfl
def s6_12 : GC := .cond (.tmp 8) .skip (.exit 0)
theorem s6_12_w {E : Env} {nt : Nat} {rd : Option Nat} {fr : Fr} {h : Heap} {Q : Ex → Fr → Heap → Prop} : s6_12.wp E nt rd fr h Q = (GC.cond (.tmp 8) .skip (.exit 0)).wp E nt rd fr h Q := Eq.trans rfl rfl
def s6_13 : GC := .seq (s6_12) s6_11
theorem s6_13_w {E : Env} {nt : Nat} {rd : Option Nat} {fr : Fr} {h : Heap} {Q : Ex → Fr → Heap → Prop} : s6_13.wp E nt rd fr h Q = (GC.seq (s6_12) s6_11).wp E nt rd fr h Q := Eq.trans rfl rfl
def r6_14 : List GO := [⟨none, some 8, .binOp .lss 3 (.tmp 7) (.tmp 6) 3⟩]
theorem r6_14_w {E : Env} {fr : Fr} {h : Heap} {Q : Fr → Heap → Prop} : opsW E r6_14 fr h Q = opsW E [⟨none, some 8, .binOp .lss 3 (.tmp 7) (.tmp 6) 3⟩] fr h Q := Eq.trans rfl rfl
def s6_15 : GC := .seq (.ops r6_14) s6_13
theorem s6_15_w {E : Env} {nt : Nat} {rd : Option Nat} {fr : Fr} {h : Heap} {Q : Ex → Fr → Heap → Prop} : s6_15.wp E nt rd fr h Q = (GC.seq (.ops r6_14) s6_13).wp E nt rd fr h Q := Eq.trans rfl rfl
def s6_16 : GC := .loop s6_15
theorem s6_16_w {E : Env} {nt : Nat} {rd : Option Nat} {fr : Fr} {h : Heap} {Q : Ex → Fr → Heap → Prop} : s6_16.wp E nt rd fr h Q = (GC.loop s6_15).wp E nt rd fr h Q := Eq.trans rfl rfl
def s6_17 : GC := .block 0 s6_16
theorem s6_17_w {E : Env} {nt : Nat} {rd : Option Nat} {fr : Fr} {h : Heap} {Q : Ex → Fr → Heap → Prop} : s6_17.wp E nt rd fr h Q = (GC.block 0 s6_16).wp E nt rd fr h Q := Eq.trans rfl rfl
def r6_18 : List GO := [⟨none, some 5, .move (.tmp 0)⟩,
  ⟨none, some 6, .call ⟨.builtin .len, ⟨[.tmp 5]⟩, ⟨[22]⟩⟩⟩,
  ⟨none, some 7, .move (.const (.int .i64 0))⟩]
theorem r6_18_w {E : Env} {fr : Fr} {h : Heap} {Q : Fr → Heap → Prop} : opsW E r6_18 fr h Q = opsW E [⟨none, some 5, .move (.tmp 0)⟩,
  ⟨none, some 6, .call ⟨.builtin .len, ⟨[.tmp 5]⟩, ⟨[22]⟩⟩⟩,
  ⟨none, some 7, .move (.const (.int .i64 0))⟩] fr h Q := Eq.trans rfl rfl
def s6_19 : GC := .seq (.ops r6_18) s6_17
theorem s6_19_w {E : Env} {nt : Nat} {rd : Option Nat} {fr : Fr} {h : Heap} {Q : Ex → Fr → Heap → Prop} : s6_19.wp E nt rd fr h Q = (GC.seq (.ops r6_18) s6_17).wp E nt rd fr h Q := Eq.trans rfl rfl
def s6_20 : GC := .seq (s6_19) s6_1
theorem s6_20_w {E : Env} {nt : Nat} {rd : Option Nat} {fr : Fr} {h : Heap} {Q : Ex → Fr → Heap → Prop} : s6_20.wp E nt rd fr h Q = (GC.seq (s6_19) s6_1).wp E nt rd fr h Q := Eq.trans rfl rfl
def r6_21 : List GO := [⟨none, some 2, .assign (.const (.slice none 0 0))⟩]
theorem r6_21_w {E : Env} {fr : Fr} {h : Heap} {Q : Fr → Heap → Prop} : opsW E r6_21 fr h Q = opsW E [⟨none, some 2, .assign (.const (.slice none 0 0))⟩] fr h Q := Eq.trans rfl rfl
def s6_22 : GC := .seq (.ops r6_21) s6_20
theorem s6_22_w {E : Env} {nt : Nat} {rd : Option Nat} {fr : Fr} {h : Heap} {Q : Ex → Fr → Heap → Prop} : s6_22.wp E nt rd fr h Q = (GC.seq (.ops r6_21) s6_20).wp E nt rd fr h Q := Eq.trans rfl rfl
theorem c6 : Tryd.f6.body.bind (clean env 22) = some s6_22 := by kernel_rfl
theorem e6 : env.funs.get 6 = some Tryd.f6 := by kernel_rfl
theorem F6 {args : List Value} {h : Heap} {K : Value → Heap → Prop} (hl : args.length = 1) (w : s6_22.wp env 22 none (setAll args 0 .leaf) h (resK env [.tmp 2] K)) : Ret env (.func 6) args h K :=
  Ret.of_body' rfl e6 c6 rfl rfl (by rw [hl]; decide) w
/-! helmsman/limits.Name -/
def r7_0 : List GO := [⟨none, some 11, .move (.tmp 0)⟩,
  ⟨none, some 12, .indexAddr 41 (.global 0) (.tmp 11)⟩,
  ⟨none, some 13, .load 9 (.tmp 12)⟩,
  ⟨none, some 2, .assign (.tmp 13)⟩]
theorem r7_0_w {E : Env} {fr : Fr} {h : Heap} {Q : Fr → Heap → Prop} : opsW E r7_0 fr h Q = opsW E [⟨none, some 11, .move (.tmp 0)⟩,
  ⟨none, some 12, .indexAddr 41 (.global 0) (.tmp 11)⟩,
  ⟨none, some 13, .load 9 (.tmp 12)⟩,
  ⟨none, some 2, .assign (.tmp 13)⟩] fr h Q := Eq.trans rfl rfl
def s7_1 : GC := .seq (.ops r7_0) .ret
theorem s7_1_w {E : Env} {nt : Nat} {rd : Option Nat} {fr : Fr} {h : Heap} {Q : Ex → Fr → Heap → Prop} : s7_1.wp E nt rd fr h Q = (GC.seq (.ops r7_0) .ret).wp E nt rd fr h Q := Eq.trans rfl rfl
def r7_2 : List GO := [⟨none, some 9, .indexAddr 41 (.global 0) (.const (.int .i64 0))⟩,
  ⟨none, some 10, .load 9 (.tmp 9)⟩,
  ⟨none, some 2, .assign (.tmp 10)⟩]
theorem r7_2_w {E : Env} {fr : Fr} {h : Heap} {Q : Fr → Heap → Prop} : opsW E r7_2 fr h Q = opsW E [⟨none, some 9, .indexAddr 41 (.global 0) (.const (.int .i64 0))⟩,
  ⟨none, some 10, .load 9 (.tmp 9)⟩,
  ⟨none, some 2, .assign (.tmp 10)⟩] fr h Q := Eq.trans rfl rfl
def s7_3 : GC := .seq (.ops r7_2) .ret
theorem s7_3_w {E : Env} {nt : Nat} {rd : Option Nat} {fr : Fr} {h : Heap} {Q : Ex → Fr → Heap → Prop} : s7_3.wp E nt rd fr h Q = (GC.seq (.ops r7_2) .ret).wp E nt rd fr h Q := Eq.trans rfl rfl
def s7_4 : GC := .cond (.tmp 8) s7_3 .skip
theorem s7_4_w {E : Env} {nt : Nat} {rd : Option Nat} {fr : Fr} {h : Heap} {Q : Ex → Fr → Heap → Prop} : s7_4.wp E nt rd fr h Q = (GC.cond (.tmp 8) s7_3 .skip).wp E nt rd fr h Q := Eq.trans rfl rfl
def r7_5 : List GO := [⟨none, some 3, .move (.tmp 0)⟩,
  ⟨none, some 4, .binOp .lss 34 (.tmp 3) (.const (.int .i64 0)) 34⟩,
  ⟨none, some 5, .move (.tmp 4)⟩,
  ⟨some (5, false), some 6, .move (.tmp 0)⟩,
  ⟨some (5, false), some 7, .binOp .geq 3 (.tmp 6) (.const (.int .i64 10)) 3⟩,
  ⟨none, some 8, .pick (.tmp 5) (.const (.bool true)) (.tmp 7)⟩]
theorem r7_5_w {E : Env} {fr : Fr} {h : Heap} {Q : Fr → Heap → Prop} : opsW E r7_5 fr h Q = opsW E [⟨none, some 3, .move (.tmp 0)⟩,
  ⟨none, some 4, .binOp .lss 34 (.tmp 3) (.const (.int .i64 0)) 34⟩,
  ⟨none, some 5, .move (.tmp 4)⟩,
  ⟨some (5, false), some 6, .move (.tmp 0)⟩,
  ⟨some (5, false), some 7, .binOp .geq 3 (.tmp 6) (.const (.int .i64 10)) 3⟩,
  ⟨none, some 8, .pick (.tmp 5) (.const (.bool true)) (.tmp 7)⟩] fr h Q := Eq.trans rfl rfl
def s7_6 : GC := .seq (.ops r7_5) s7_4
theorem s7_6_w {E : Env} {nt : Nat} {rd : Option Nat} {fr : Fr} {h : Heap} {Q : Ex → Fr → Heap → Prop} : s7_6.wp E nt rd fr h Q = (GC.seq (.ops r7_5) s7_4).wp E nt rd fr h Q := Eq.trans rfl rfl
def s7_7 : GC := .seq (s7_6) s7_1
theorem s7_7_w {E : Env} {nt : Nat} {rd : Option Nat} {fr : Fr} {h : Heap} {Q : Ex → Fr → Heap → Prop} : s7_7.wp E nt rd fr h Q = (GC.seq (s7_6) s7_1).wp E nt rd fr h Q := Eq.trans rfl rfl
def r7_8 : List GO := [⟨none, some 2, .assign (.const (.string ⟨⟨[]⟩⟩))⟩]
theorem r7_8_w {E : Env} {fr : Fr} {h : Heap} {Q : Fr → Heap → Prop} : opsW E r7_8 fr h Q = opsW E [⟨none, some 2, .assign (.const (.string ⟨⟨[]⟩⟩))⟩] fr h Q := Eq.trans rfl rfl
def s7_9 : GC := .seq (.ops r7_8) s7_7
theorem s7_9_w {E : Env} {nt : Nat} {rd : Option Nat} {fr : Fr} {h : Heap} {Q : Ex → Fr → Heap → Prop} : s7_9.wp E nt rd fr h Q = (GC.seq (.ops r7_8) s7_7).wp E nt rd fr h Q := Eq.trans rfl rfl
theorem c7 : Tryd.f7.body.bind (clean env 14) = some s7_9 := by kernel_rfl
theorem e7 : env.funs.get 7 = some Tryd.f7 := by kernel_rfl
theorem F7 {args : List Value} {h : Heap} {K : Value → Heap → Prop} (hl : args.length = 1) (w : s7_9.wp env 14 none (setAll args 0 .leaf) h (resK env [.tmp 2] K)) : Ret env (.func 7) args h K :=
  Ret.of_body' rfl e7 c7 rfl rfl (by rw [hl]; decide) w

end Go.Proofs.YtdjnedamphifcaaDoor
