/- The walked functions' code. Conditions: each theorem's own. -/
import Derived.Test.YtjcmcoabckkjoaaDoorZLib2
import Derived.Shelf.Strings.OnBuilder
import Derived.Shelf.Strconv.Itoa0
import Derived.Shelf.Strconv.Itoa1
import Derived.Shelf.Spec.TrailingZeros
import Derived.Test.YtjcmcoabckkjoaaDoorChecked
import Derived.KernelRfl
set_option linter.unusedSimpArgs false
set_option linter.unusedVariables false
namespace Go.Proofs.YtjcmcoabckkjoaaDoor.Li
open Go.Ev
set_option maxRecDepth 100000
/-! the tables that are looked at; the library's functions by their contracts -/
def dbs : List Value := [.int .u8 0, .int .u8 1, .int .u8 56, .int .u8 2, .int .u8 57, .int .u8 49, .int .u8 28, .int .u8 3, .int .u8 61, .int .u8 58, .int .u8 42, .int .u8 50, .int .u8 38, .int .u8 29, .int .u8 17, .int .u8 4, .int .u8 62, .int .u8 47, .int .u8 59, .int .u8 36, .int .u8 45, .int .u8 43, .int .u8 51, .int .u8 22, .int .u8 53, .int .u8 39, .int .u8 33, .int .u8 30, .int .u8 24, .int .u8 18, .int .u8 12, .int .u8 5, .int .u8 63, .int .u8 55, .int .u8 48, .int .u8 27, .int .u8 60, .int .u8 41, .int .u8 37, .int .u8 16, .int .u8 46, .int .u8 35, .int .u8 44, .int .u8 21, .int .u8 52, .int .u8 32, .int .u8 23, .int .u8 11, .int .u8 54, .int .u8 26, .int .u8 40, .int .u8 15, .int .u8 34, .int .u8 20, .int .u8 31, .int .u8 10, .int .u8 25, .int .u8 14, .int .u8 19, .int .u8 9, .int .u8 13, .int .u8 8, .int .u8 7, .int .u8 6]
def p10 : List Value := [.int .u64 1, .int .u64 10, .int .u64 100, .int .u64 1000, .int .u64 10000, .int .u64 100000, .int .u64 1000000, .int .u64 10000000, .int .u64 100000000, .int .u64 1000000000, .int .u64 10000000000, .int .u64 100000000000, .int .u64 1000000000000, .int .u64 10000000000000, .int .u64 100000000000000, .int .u64 1000000000000000, .int .u64 10000000000000000, .int .u64 100000000000000000, .int .u64 1000000000000000000, .int .u64 10000000000000000000]
def tabs : List (Nat × List Value) := [(1, dbs), (2, p10)]
def joinG (args : List Value) (h : Heap) : Option Value :=
  match args with
  | [.slice (some ⟨i, o, none⟩) n c, .string sep] => match (cellsAt h ⟨i, o, none⟩ n).bind strs with
    | some xs => cond (Nat.blt i h.n && Nat.ble n c && Nat.blt c UNK && Nat.ble (Lib.join (xs.map (·.data.toList)) sep.data.toList).length 1000000 && Nat.ble 1 n && Nat.ble n 1000000) (some (.string ⟨(Lib.join (xs.map (·.data.toList)) sep.data.toList).toArray⟩)) none
    | none => none
  | _ => none
def tzG (args : List Value) (h : Heap) : Option Value :=
  match args with
  | [.int .u64 x] => cond (decide (0 ≤ x) && decide (x < 18446744073709551616) && tabsOk tabs h) (some (.int .i64 (Lib.ctz 64 x.toNat))) none
  | _ => none
def lenG (args : List Value) (_ : Heap) : Option Value :=
  match args with
  | [.int .u64 x] => cond (decide (0 ≤ x) && decide (x ≤ 18446744073709551615)) (some (.int .i64 (Lib.bitLen x.toNat))) none
  | _ => none
def smallG (args : List Value) (_ : Heap) : Option Value :=
  match args with
  | [.int .i64 x] => cond (decide (0 ≤ x) && decide (x < 100)) (some (.string ⟨(Lib.decDigits x.toNat).toArray⟩)) none
  | _ => none
def ext0 : ExtT := extChan 36 (.string ⟨⟨[110, 97, 110]⟩⟩) (extNan 19 (extFl 18 10 fun _ _ _ => none))
def ext1 : ExtT := extFmt 86 ext0
def ext2 : ExtT := extLib 84 smallG ext1
def ext3 : ExtT := extLib 103 lenG ext2
def ext4 : ExtT := extLib 55 tzG ext3
def ext5 : ExtT := extLib 51 joinG ext4
noncomputable def env : Env := envOf Tryd.prog 3 (extTab tabs ext5 8)
section
variable {fr : Fr} {h : Heap} {K : Value → Heap → Prop} {x y z : Operand} {ps : List (Nat × Operand)}
theorem len_40 : opW env (.call ⟨.builtin .len, ⟨[x]⟩, ⟨[40]⟩⟩) fr h K = evK env fr x fun v => lenK v fun u => K u h := opW_lenS (by kernel_rfl)
theorem len_22 : opW env (.call ⟨.builtin .len, ⟨[x]⟩, ⟨[22]⟩⟩) fr h K = evK env fr x fun v => lenK v fun u => K u h := opW_lenS (by kernel_rfl)
theorem ap_40_40 : opW env (.call ⟨.builtin .append, ⟨[x, y]⟩, ⟨[40, 40]⟩⟩) fr h K = evK env fr x fun s => evK env fr y fun v => appK 44 7 s v h K := opW_append (zs := [.int .i64 0, .int .u64 0, .int .i64 0, .int .i64 0, .int .i64 0, .int .i64 0, .float .f64 0]) (by kernel_rfl) (by kernel_rfl)
theorem ia_40 : opW env (.indexAddr 40 x y) fr h K = evK env fr x fun v => evK env fr y fun i => idxSK 7 v i fun u => K u h := opW_indexAddrS (by kernel_rfl)
theorem fa_44_0 : opW env (.fieldAddr 44 x 0) fr h K = evK env fr x fun v => fldAK 0 v fun u => K u h := opW_fieldAddr (by kernel_rfl)
theorem fa_42_0 : opW env (.fieldAddr 42 x 0) fr h K = evK env fr x fun v => fldAK 0 v fun u => K u h := opW_fieldAddr (by kernel_rfl)
theorem ld_3 : opW env (.load 3 x) fr h K = evK env fr x fun v => ld1K h v fun u => K u h := opW_load1 (by kernel_rfl)
theorem fa_44_1 : opW env (.fieldAddr 44 x 1) fr h K = evK env fr x fun v => fldAK 2 v fun u => K u h := opW_fieldAddr (by kernel_rfl)
theorem fa_44_2 : opW env (.fieldAddr 44 x 2) fr h K = evK env fr x fun v => fldAK 3 v fun u => K u h := opW_fieldAddr (by kernel_rfl)
theorem fa_44_3 : opW env (.fieldAddr 44 x 3) fr h K = evK env fr x fun v => fldAK 4 v fun u => K u h := opW_fieldAddr (by kernel_rfl)
theorem fa_44_4 : opW env (.fieldAddr 44 x 4) fr h K = evK env fr x fun v => fldAK 5 v fun u => K u h := opW_fieldAddr (by kernel_rfl)
theorem ia_22 : opW env (.indexAddr 22 x y) fr h K = evK env fr x fun v => evK env fr y fun i => idxSK 1 v i fun u => K u h := opW_indexAddrS (by kernel_rfl)
theorem ld_23 : opW env (.load 23 x) fr h K = evK env fr x fun v => ld1K h v fun u => K u h := opW_load1 (by kernel_rfl)
theorem fa_44_5 : opW env (.fieldAddr 44 x 5) fr h K = evK env fr x fun v => fldAK 6 v fun u => K u h := opW_fieldAddr (by kernel_rfl)
theorem st_27 : opW env (.store 27 x y) fr h K = evK env fr x fun p => evK env fr y fun v => stK 1 p v h K := opW_store (by kernel_rfl)
theorem len_46 : opW env (.call ⟨.builtin .len, ⟨[x]⟩, ⟨[46]⟩⟩) fr h K = evK env fr x fun v => lenK v fun u => K u h := opW_lenS (by kernel_rfl)
theorem ia_46 : opW env (.indexAddr 46 x y) fr h K = evK env fr x fun v => evK env fr y fun i => idxSK 1 v i fun u => K u h := opW_indexAddrS (by kernel_rfl)
theorem ld_9 : opW env (.load 9 x) fr h K = evK env fr x fun v => ld1K h v fun u => K u h := opW_load1 (by kernel_rfl)
theorem agl_23 : ∀ {v : Value} {K : Value → Prop}, agL env 23 v h K = ld1K h v K := agL_one (by kernel_rfl)
theorem agl_3 : ∀ {v : Value} {K : Value → Prop}, agL env 3 v h K = ld1K h v K := agL_one (by kernel_rfl)
theorem agl_27 : ∀ {v : Value} {K : Value → Prop}, agL env 27 v h K = ld1K h v K := agL_one (by kernel_rfl)
theorem ld_44 : opW env (.load 44 x) fr h K = evK env fr x fun v => ldNK h 7 v fun u => K u h := opW_loadN (by kernel_rfl)
theorem al_44 : opW env (.alloc 44) fr h K = K (.pointer (some ⟨h.n, 0, none⟩)) (newBlk h (.cells [.int .i64 0, .int .u64 0, .int .i64 0, .int .i64 0, .int .i64 0, .int .i64 0, .float .f64 0] 44 true)) := opW_alloc (v := .agg ⟨[.int .i64 0, .int .u64 0, .int .i64 0, .int .i64 0, .int .i64 0, .int .i64 0, .float .f64 0]⟩) (by kernel_rfl) rfl rfl
theorem st_44 : opW env (.store 44 x y) fr h K = evK env fr x fun p => evK env fr y fun v => stK 7 p v h K := opW_store (by kernel_rfl)
theorem ld_27 : opW env (.load 27 x) fr h K = evK env fr x fun v => ld1K h v fun u => K u h := opW_load1 (by kernel_rfl)
theorem bsl_25_1 : opW env (.buildSlice 25 1 ⟨ps⟩) fr h K = evpK env fr ps fun l => bsK 27 1 [.float .f64 0] 1 l h K := opW_buildSlice (by kernel_rfl) (by decide)
theorem ap_25_25 : opW env (.call ⟨.builtin .append, ⟨[x, y]⟩, ⟨[25, 25]⟩⟩) fr h K = evK env fr x fun s => evK env fr y fun v => appK 27 1 s v h K := opW_append (zs := [.float .f64 0]) (by kernel_rfl) (by kernel_rfl)
theorem fa_42_1 : opW env (.fieldAddr 42 x 1) fr h K = evK env fr x fun v => fldAK 1 v fun u => K u h := opW_fieldAddr (by kernel_rfl)
theorem bsl_46_6 : opW env (.buildSlice 46 6 ⟨ps⟩) fr h K = evpK env fr ps fun l => bsK 9 1 [.string ⟨⟨[]⟩⟩] 6 l h K := opW_buildSlice (by kernel_rfl) (by decide)
theorem bsl_46_1 : opW env (.buildSlice 46 1 ⟨ps⟩) fr h K = evpK env fr ps fun l => bsK 9 1 [.string ⟨⟨[]⟩⟩] 1 l h K := opW_buildSlice (by kernel_rfl) (by decide)
theorem ap_46_46 : opW env (.call ⟨.builtin .append, ⟨[x, y]⟩, ⟨[46, 46]⟩⟩) fr h K = evK env fr x fun s => evK env fr y fun v => appK 9 1 s v h K := opW_append (zs := [.string ⟨⟨[]⟩⟩]) (by kernel_rfl) (by kernel_rfl)
theorem cv_23_3 : opW env (.convert 23 3 x) fr h K = evK env fr x fun v => cintK .i64 v fun u => K u h := opW_cint (k' := .u64) (by kernel_rfl) (by kernel_rfl)
theorem cv_3_23 : opW env (.convert 3 23 x) fr h K = evK env fr x fun v => cintK .u64 v fun u => K u h := opW_cint (k' := .i64) (by kernel_rfl) (by kernel_rfl)
theorem cv_23_5 : opW env (.convert 23 5 x) fr h K = evK env fr x fun v => cintK .u8 v fun u => K u h := opW_cint (k' := .u64) (by kernel_rfl) (by kernel_rfl)
theorem bsl_87_1 : opW env (.buildSlice 87 1 ⟨ps⟩) fr h K = evpK env fr ps fun l => bsK 5 1 [.int .u8 0] 1 l h K := opW_buildSlice (by kernel_rfl) (by decide)
theorem cv_87_9 : opW env (.convert 87 9 x) fr h K = evK env fr x fun v => bstrK h v fun u => K u h := opW_bstr (by kernel_rfl)
theorem al_99 : opW env (.alloc 99) fr h K = K (.pointer (some ⟨h.n, 0, none⟩)) (newBlk h (.cells [.int .u8 0, .int .u8 0, .int .u8 0, .int .u8 0, .int .u8 0, .int .u8 0, .int .u8 0, .int .u8 0, .int .u8 0, .int .u8 0, .int .u8 0, .int .u8 0, .int .u8 0, .int .u8 0, .int .u8 0, .int .u8 0, .int .u8 0, .int .u8 0, .int .u8 0, .int .u8 0, .int .u8 0, .int .u8 0, .int .u8 0, .int .u8 0] 99 true)) := opW_alloc (v := .agg ⟨[.int .u8 0, .int .u8 0, .int .u8 0, .int .u8 0, .int .u8 0, .int .u8 0, .int .u8 0, .int .u8 0, .int .u8 0, .int .u8 0, .int .u8 0, .int .u8 0, .int .u8 0, .int .u8 0, .int .u8 0, .int .u8 0, .int .u8 0, .int .u8 0, .int .u8 0, .int .u8 0, .int .u8 0, .int .u8 0, .int .u8 0, .int .u8 0]⟩) (by kernel_rfl) rfl rfl
theorem cv_23_2 : opW env (.convert 23 2 x) fr h K = evK env fr x fun v => cintK .i64 v fun u => K u h := opW_cint (k' := .u64) (by kernel_rfl) (by kernel_rfl)
theorem cv_2_23 : opW env (.convert 2 23 x) fr h K = evK env fr x fun v => cintK .u64 v fun u => K u h := opW_cint (k' := .i64) (by kernel_rfl) (by kernel_rfl)
theorem ia_99 : opW env (.indexAddr 99 x y) fr h K = evK env fr x fun v => evK env fr y fun i => idxAK 24 1 v i fun u => K u h := opW_indexAddrA (by kernel_rfl)
theorem st_5 : opW env (.store 5 x y) fr h K = evK env fr x fun p => evK env fr y fun v => stK 1 p v h K := opW_store (by kernel_rfl)
theorem gl_2 : ∀ {K : Value → Prop}, evK env fr (.global 2) K = K (.pointer (some ⟨2, 0, none⟩)) := evK_global rfl
theorem ia_117 : opW env (.indexAddr 117 x y) fr h K = evK env fr x fun v => evK env fr y fun i => idxAK 20 1 v i fun u => K u h := opW_indexAddrA (by kernel_rfl)
theorem len_25 : opW env (.call ⟨.builtin .len, ⟨[x]⟩, ⟨[25]⟩⟩) fr h K = evK env fr x fun v => lenK v fun u => K u h := opW_lenS (by kernel_rfl)
theorem ia_25 : opW env (.indexAddr 25 x y) fr h K = evK env fr x fun v => evK env fr y fun i => idxSK 1 v i fun u => K u h := opW_indexAddrS (by kernel_rfl)
theorem slz_25 : slzOf env 25 = some 1 := by kernel_rfl
theorem cv_3_27 : opW env (.convert 3 27 x) fr h K = evK env fr x fun v => cifK v fun u => K u h := opW_cif (k := .i64) (by kernel_rfl) (by kernel_rfl)
end
/-! helmsman/helmsmanlaw31.ShareLines -/
def r5_0 : List GO := [⟨none, some 75, .move (.tmp 5)⟩,
  ⟨none, some 76, .call ⟨.value (.func 32), ⟨[.tmp 75]⟩, ⟨[40]⟩⟩⟩,
  ⟨none, some 77, .move (.tmp 5)⟩,
  ⟨none, some 78, .call ⟨.value (.func 33), ⟨[.tmp 77]⟩, ⟨[40]⟩⟩⟩,
  ⟨none, some 79, .call ⟨.value (.func 31), ⟨[.tmp 76, .tmp 78]⟩, ⟨[46, 46]⟩⟩⟩,
  ⟨none, some 80, .move (.tmp 79)⟩,
  ⟨some (80, true), some 81, .call ⟨.value (.func 8), ⟨[]⟩, ⟨[]⟩⟩⟩,
  ⟨none, some 82, .pick (.tmp 80) (.tmp 81) (.const (.bool false))⟩,
  ⟨none, some 4, .assign (.tmp 82)⟩]
theorem r5_0_w {E : Env} {fr : Fr} {h : Heap} {Q : Fr → Heap → Prop} : opsW E r5_0 fr h Q = opsW E [⟨none, some 75, .move (.tmp 5)⟩,
  ⟨none, some 76, .call ⟨.value (.func 32), ⟨[.tmp 75]⟩, ⟨[40]⟩⟩⟩,
  ⟨none, some 77, .move (.tmp 5)⟩,
  ⟨none, some 78, .call ⟨.value (.func 33), ⟨[.tmp 77]⟩, ⟨[40]⟩⟩⟩,
  ⟨none, some 79, .call ⟨.value (.func 31), ⟨[.tmp 76, .tmp 78]⟩, ⟨[46, 46]⟩⟩⟩,
  ⟨none, some 80, .move (.tmp 79)⟩,
  ⟨some (80, true), some 81, .call ⟨.value (.func 8), ⟨[]⟩, ⟨[]⟩⟩⟩,
  ⟨none, some 82, .pick (.tmp 80) (.tmp 81) (.const (.bool false))⟩,
  ⟨none, some 4, .assign (.tmp 82)⟩] fr h Q := Eq.trans rfl rfl
def s5_1 : GC := .seq (.ops r5_0) .ret
theorem s5_1_w {E : Env} {nt : Nat} {rd : Option Nat} {fr : Fr} {h : Heap} {Q : Ex → Fr → Heap → Prop} : s5_1.wp E nt rd fr h Q = (GC.seq (.ops r5_0) .ret).wp E nt rd fr h Q := Eq.trans rfl rfl
def r5_2 : List GO := [⟨none, some 24, .move (.tmp 6)⟩,
  ⟨none, some 25, .binOp .add 3 (.tmp 24) (.const (.int .i64 1)) 3⟩,
  ⟨none, some 6, .assign (.tmp 25)⟩]
theorem r5_2_w {E : Env} {fr : Fr} {h : Heap} {Q : Fr → Heap → Prop} : opsW E r5_2 fr h Q = opsW E [⟨none, some 24, .move (.tmp 6)⟩,
  ⟨none, some 25, .binOp .add 3 (.tmp 24) (.const (.int .i64 1)) 3⟩,
  ⟨none, some 6, .assign (.tmp 25)⟩] fr h Q := Eq.trans rfl rfl
def s5_3 : GC := .ops r5_2
theorem s5_3_w {E : Env} {nt : Nat} {rd : Option Nat} {fr : Fr} {h : Heap} {Q : Ex → Fr → Heap → Prop} : s5_3.wp E nt rd fr h Q = (GC.ops r5_2).wp E nt rd fr h Q := Eq.trans rfl rfl
def r5_4 : List GO := [⟨none, some 66, .move (.tmp 5)⟩,
  ⟨none, some 67, .move (.tmp 6)⟩,
  ⟨none, some 68, .move (.tmp 1)⟩,
  ⟨none, some 69, .move (.tmp 6)⟩,
  ⟨none, some 70, .indexAddr 22 (.tmp 68) (.tmp 69)⟩,
  ⟨none, some 71, .load 23 (.tmp 70)⟩,
  ⟨none, some 72, .call ⟨.value (.func 10), ⟨[.tmp 71]⟩, ⟨[23]⟩⟩⟩,
  ⟨none, some 73, .indexAddr 40 (.tmp 66) (.tmp 67)⟩,
  ⟨none, some 74, .fieldAddr 44 (.tmp 73) 5⟩,
  ⟨none, none, .store 27 (.tmp 74) (.tmp 72)⟩]
theorem r5_4_w {E : Env} {fr : Fr} {h : Heap} {Q : Fr → Heap → Prop} : opsW E r5_4 fr h Q = opsW E [⟨none, some 66, .move (.tmp 5)⟩,
  ⟨none, some 67, .move (.tmp 6)⟩,
  ⟨none, some 68, .move (.tmp 1)⟩,
  ⟨none, some 69, .move (.tmp 6)⟩,
  ⟨none, some 70, .indexAddr 22 (.tmp 68) (.tmp 69)⟩,
  ⟨none, some 71, .load 23 (.tmp 70)⟩,
  ⟨none, some 72, .call ⟨.value (.func 10), ⟨[.tmp 71]⟩, ⟨[23]⟩⟩⟩,
  ⟨none, some 73, .indexAddr 40 (.tmp 66) (.tmp 67)⟩,
  ⟨none, some 74, .fieldAddr 44 (.tmp 73) 5⟩,
  ⟨none, none, .store 27 (.tmp 74) (.tmp 72)⟩] fr h Q := Eq.trans rfl rfl
def s5_5 : GC := .ops r5_4
theorem s5_5_w {E : Env} {nt : Nat} {rd : Option Nat} {fr : Fr} {h : Heap} {Q : Ex → Fr → Heap → Prop} : s5_5.wp E nt rd fr h Q = (GC.ops r5_4).wp E nt rd fr h Q := Eq.trans rfl rfl
def r5_6 : List GO := [⟨none, some 65, .call ⟨.value (.func 8), ⟨[]⟩, ⟨[]⟩⟩⟩,
  ⟨none, some 4, .assign (.tmp 65)⟩]
theorem r5_6_w {E : Env} {fr : Fr} {h : Heap} {Q : Fr → Heap → Prop} : opsW E r5_6 fr h Q = opsW E [⟨none, some 65, .call ⟨.value (.func 8), ⟨[]⟩, ⟨[]⟩⟩⟩,
  ⟨none, some 4, .assign (.tmp 65)⟩] fr h Q := Eq.trans rfl rfl
def s5_7 : GC := .seq (.ops r5_6) .ret
theorem s5_7_w {E : Env} {nt : Nat} {rd : Option Nat} {fr : Fr} {h : Heap} {Q : Ex → Fr → Heap → Prop} : s5_7.wp E nt rd fr h Q = (GC.seq (.ops r5_6) .ret).wp E nt rd fr h Q := Eq.trans rfl rfl
def s5_8 : GC := .cond (.tmp 64) s5_7 .skip
theorem s5_8_w {E : Env} {nt : Nat} {rd : Option Nat} {fr : Fr} {h : Heap} {Q : Ex → Fr → Heap → Prop} : s5_8.wp E nt rd fr h Q = (GC.cond (.tmp 64) s5_7 .skip).wp E nt rd fr h Q := Eq.trans rfl rfl
def r5_9 : List GO := [⟨none, some 26, .move (.tmp 5)⟩,
  ⟨none, some 27, .move (.tmp 6)⟩,
  ⟨none, some 28, .indexAddr 40 (.tmp 26) (.tmp 27)⟩,
  ⟨none, some 29, .fieldAddr 44 (.tmp 28) 0⟩,
  ⟨none, some 30, .fieldAddr 42 (.tmp 29) 0⟩,
  ⟨none, some 31, .load 3 (.tmp 30)⟩,
  ⟨none, some 32, .binOp .lss 3 (.tmp 31) (.const (.int .i64 (-1099511627776))) 3⟩,
  ⟨none, some 33, .move (.tmp 32)⟩,
  ⟨some (33, false), some 34, .move (.tmp 5)⟩,
  ⟨some (33, false), some 35, .move (.tmp 6)⟩,
  ⟨some (33, false), some 36, .indexAddr 40 (.tmp 34) (.tmp 35)⟩,
  ⟨some (33, false), some 37, .fieldAddr 44 (.tmp 36) 1⟩,
  ⟨some (33, false), some 38, .load 3 (.tmp 37)⟩,
  ⟨some (33, false), some 39, .binOp .lss 3 (.tmp 38) (.const (.int .i64 (-1099511627776))) 3⟩,
  ⟨none, some 40, .pick (.tmp 33) (.const (.bool true)) (.tmp 39)⟩,
  ⟨none, some 41, .move (.tmp 40)⟩,
  ⟨some (41, false), some 42, .move (.tmp 5)⟩,
  ⟨some (41, false), some 43, .move (.tmp 6)⟩,
  ⟨some (41, false), some 44, .indexAddr 40 (.tmp 42) (.tmp 43)⟩,
  ⟨some (41, false), some 45, .fieldAddr 44 (.tmp 44) 2⟩,
  ⟨some (41, false), some 46, .load 3 (.tmp 45)⟩,
  ⟨some (41, false), some 47, .binOp .lss 3 (.tmp 46) (.const (.int .i64 (-1099511627776))) 3⟩,
  ⟨none, some 48, .pick (.tmp 41) (.const (.bool true)) (.tmp 47)⟩,
  ⟨none, some 49, .move (.tmp 48)⟩,
  ⟨some (49, false), some 50, .move (.tmp 5)⟩,
  ⟨some (49, false), some 51, .move (.tmp 6)⟩,
  ⟨some (49, false), some 52, .indexAddr 40 (.tmp 50) (.tmp 51)⟩,
  ⟨some (49, false), some 53, .fieldAddr 44 (.tmp 52) 3⟩,
  ⟨some (49, false), some 54, .load 3 (.tmp 53)⟩,
  ⟨some (49, false), some 55, .binOp .lss 3 (.tmp 54) (.const (.int .i64 (-1099511627776))) 3⟩,
  ⟨none, some 56, .pick (.tmp 49) (.const (.bool true)) (.tmp 55)⟩,
  ⟨none, some 57, .move (.tmp 56)⟩,
  ⟨some (57, false), some 58, .move (.tmp 5)⟩,
  ⟨some (57, false), some 59, .move (.tmp 6)⟩,
  ⟨some (57, false), some 60, .indexAddr 40 (.tmp 58) (.tmp 59)⟩,
  ⟨some (57, false), some 61, .fieldAddr 44 (.tmp 60) 4⟩,
  ⟨some (57, false), some 62, .load 3 (.tmp 61)⟩,
  ⟨some (57, false), some 63, .binOp .lss 3 (.tmp 62) (.const (.int .i64 (-1099511627776))) 3⟩,
  ⟨none, some 64, .pick (.tmp 57) (.const (.bool true)) (.tmp 63)⟩]
theorem r5_9_w {E : Env} {fr : Fr} {h : Heap} {Q : Fr → Heap → Prop} : opsW E r5_9 fr h Q = opsW E [⟨none, some 26, .move (.tmp 5)⟩,
  ⟨none, some 27, .move (.tmp 6)⟩,
  ⟨none, some 28, .indexAddr 40 (.tmp 26) (.tmp 27)⟩,
  ⟨none, some 29, .fieldAddr 44 (.tmp 28) 0⟩,
  ⟨none, some 30, .fieldAddr 42 (.tmp 29) 0⟩,
  ⟨none, some 31, .load 3 (.tmp 30)⟩,
  ⟨none, some 32, .binOp .lss 3 (.tmp 31) (.const (.int .i64 (-1099511627776))) 3⟩,
  ⟨none, some 33, .move (.tmp 32)⟩,
  ⟨some (33, false), some 34, .move (.tmp 5)⟩,
  ⟨some (33, false), some 35, .move (.tmp 6)⟩,
  ⟨some (33, false), some 36, .indexAddr 40 (.tmp 34) (.tmp 35)⟩,
  ⟨some (33, false), some 37, .fieldAddr 44 (.tmp 36) 1⟩,
  ⟨some (33, false), some 38, .load 3 (.tmp 37)⟩,
  ⟨some (33, false), some 39, .binOp .lss 3 (.tmp 38) (.const (.int .i64 (-1099511627776))) 3⟩,
  ⟨none, some 40, .pick (.tmp 33) (.const (.bool true)) (.tmp 39)⟩,
  ⟨none, some 41, .move (.tmp 40)⟩,
  ⟨some (41, false), some 42, .move (.tmp 5)⟩,
  ⟨some (41, false), some 43, .move (.tmp 6)⟩,
  ⟨some (41, false), some 44, .indexAddr 40 (.tmp 42) (.tmp 43)⟩,
  ⟨some (41, false), some 45, .fieldAddr 44 (.tmp 44) 2⟩,
  ⟨some (41, false), some 46, .load 3 (.tmp 45)⟩,
  ⟨some (41, false), some 47, .binOp .lss 3 (.tmp 46) (.const (.int .i64 (-1099511627776))) 3⟩,
  ⟨none, some 48, .pick (.tmp 41) (.const (.bool true)) (.tmp 47)⟩,
  ⟨none, some 49, .move (.tmp 48)⟩,
  ⟨some (49, false), some 50, .move (.tmp 5)⟩,
  ⟨some (49, false), some 51, .move (.tmp 6)⟩,
  ⟨some (49, false), some 52, .indexAddr 40 (.tmp 50) (.tmp 51)⟩,
  ⟨some (49, false), some 53, .fieldAddr 44 (.tmp 52) 3⟩,
  ⟨some (49, false), some 54, .load 3 (.tmp 53)⟩,
  ⟨some (49, false), some 55, .binOp .lss 3 (.tmp 54) (.const (.int .i64 (-1099511627776))) 3⟩,
  ⟨none, some 56, .pick (.tmp 49) (.const (.bool true)) (.tmp 55)⟩,
  ⟨none, some 57, .move (.tmp 56)⟩,
  ⟨some (57, false), some 58, .move (.tmp 5)⟩,
  ⟨some (57, false), some 59, .move (.tmp 6)⟩,
  ⟨some (57, false), some 60, .indexAddr 40 (.tmp 58) (.tmp 59)⟩,
  ⟨some (57, false), some 61, .fieldAddr 44 (.tmp 60) 4⟩,
  ⟨some (57, false), some 62, .load 3 (.tmp 61)⟩,
  ⟨some (57, false), some 63, .binOp .lss 3 (.tmp 62) (.const (.int .i64 (-1099511627776))) 3⟩,
  ⟨none, some 64, .pick (.tmp 57) (.const (.bool true)) (.tmp 63)⟩] fr h Q := Eq.trans rfl rfl
def s5_10 : GC := .seq (.ops r5_9) s5_8
theorem s5_10_w {E : Env} {nt : Nat} {rd : Option Nat} {fr : Fr} {h : Heap} {Q : Ex → Fr → Heap → Prop} : s5_10.wp E nt rd fr h Q = (GC.seq (.ops r5_9) s5_8).wp E nt rd fr h Q := Eq.trans rfl rfl
def s5_11 : GC := .seq (s5_10) s5_5
theorem s5_11_w {E : Env} {nt : Nat} {rd : Option Nat} {fr : Fr} {h : Heap} {Q : Ex → Fr → Heap → Prop} : s5_11.wp E nt rd fr h Q = (GC.seq (s5_10) s5_5).wp E nt rd fr h Q := Eq.trans rfl rfl
def s5_12 : GC := .seq (.block 1 s5_11) s5_3
theorem s5_12_w {E : Env} {nt : Nat} {rd : Option Nat} {fr : Fr} {h : Heap} {Q : Ex → Fr → Heap → Prop} : s5_12.wp E nt rd fr h Q = (GC.seq (.block 1 s5_11) s5_3).wp E nt rd fr h Q := Eq.trans rfl rfl
def s5_13 : GC := .cond (.tmp 23) .skip (.exit 0)
theorem s5_13_w {E : Env} {nt : Nat} {rd : Option Nat} {fr : Fr} {h : Heap} {Q : Ex → Fr → Heap → Prop} : s5_13.wp E nt rd fr h Q = (GC.cond (.tmp 23) .skip (.exit 0)).wp E nt rd fr h Q := Eq.trans rfl rfl
def r5_14 : List GO := [⟨none, some 20, .move (.tmp 6)⟩,
  ⟨none, some 21, .move (.tmp 5)⟩,
  ⟨none, some 22, .call ⟨.builtin .len, ⟨[.tmp 21]⟩, ⟨[40]⟩⟩⟩,
  ⟨none, some 23, .binOp .lss 3 (.tmp 20) (.tmp 22) 3⟩]
theorem r5_14_w {E : Env} {fr : Fr} {h : Heap} {Q : Fr → Heap → Prop} : opsW E r5_14 fr h Q = opsW E [⟨none, some 20, .move (.tmp 6)⟩,
  ⟨none, some 21, .move (.tmp 5)⟩,
  ⟨none, some 22, .call ⟨.builtin .len, ⟨[.tmp 21]⟩, ⟨[40]⟩⟩⟩,
  ⟨none, some 23, .binOp .lss 3 (.tmp 20) (.tmp 22) 3⟩] fr h Q := Eq.trans rfl rfl
def s5_15 : GC := .seq (.ops r5_14) s5_13
theorem s5_15_w {E : Env} {nt : Nat} {rd : Option Nat} {fr : Fr} {h : Heap} {Q : Ex → Fr → Heap → Prop} : s5_15.wp E nt rd fr h Q = (GC.seq (.ops r5_14) s5_13).wp E nt rd fr h Q := Eq.trans rfl rfl
def s5_16 : GC := .seq (s5_15) s5_12
theorem s5_16_w {E : Env} {nt : Nat} {rd : Option Nat} {fr : Fr} {h : Heap} {Q : Ex → Fr → Heap → Prop} : s5_16.wp E nt rd fr h Q = (GC.seq (s5_15) s5_12).wp E nt rd fr h Q := Eq.trans rfl rfl
def s5_17 : GC := .loop s5_16
theorem s5_17_w {E : Env} {nt : Nat} {rd : Option Nat} {fr : Fr} {h : Heap} {Q : Ex → Fr → Heap → Prop} : s5_17.wp E nt rd fr h Q = (GC.loop s5_16).wp E nt rd fr h Q := Eq.trans rfl rfl
def s5_18 : GC := .block 0 s5_17
theorem s5_18_w {E : Env} {nt : Nat} {rd : Option Nat} {fr : Fr} {h : Heap} {Q : Ex → Fr → Heap → Prop} : s5_18.wp E nt rd fr h Q = (GC.block 0 s5_17).wp E nt rd fr h Q := Eq.trans rfl rfl
def r5_19 : List GO := [⟨none, some 6, .assign (.const (.int .i64 0))⟩]
theorem r5_19_w {E : Env} {fr : Fr} {h : Heap} {Q : Fr → Heap → Prop} : opsW E r5_19 fr h Q = opsW E [⟨none, some 6, .assign (.const (.int .i64 0))⟩] fr h Q := Eq.trans rfl rfl
def s5_20 : GC := .seq (.ops r5_19) s5_18
theorem s5_20_w {E : Env} {nt : Nat} {rd : Option Nat} {fr : Fr} {h : Heap} {Q : Ex → Fr → Heap → Prop} : s5_20.wp E nt rd fr h Q = (GC.seq (.ops r5_19) s5_18).wp E nt rd fr h Q := Eq.trans rfl rfl
def s5_21 : GC := .seq (s5_20) s5_1
theorem s5_21_w {E : Env} {nt : Nat} {rd : Option Nat} {fr : Fr} {h : Heap} {Q : Ex → Fr → Heap → Prop} : s5_21.wp E nt rd fr h Q = (GC.seq (s5_20) s5_1).wp E nt rd fr h Q := Eq.trans rfl rfl
def r5_22 : List GO := [⟨none, some 18, .move (.tmp 0)⟩,
  ⟨none, some 19, .call ⟨.builtin .append, ⟨[.const (.slice none 0 0), .tmp 18]⟩, ⟨[40, 40]⟩⟩⟩,
  ⟨none, some 5, .assign (.tmp 19)⟩]
theorem r5_22_w {E : Env} {fr : Fr} {h : Heap} {Q : Fr → Heap → Prop} : opsW E r5_22 fr h Q = opsW E [⟨none, some 18, .move (.tmp 0)⟩,
  ⟨none, some 19, .call ⟨.builtin .append, ⟨[.const (.slice none 0 0), .tmp 18]⟩, ⟨[40, 40]⟩⟩⟩,
  ⟨none, some 5, .assign (.tmp 19)⟩] fr h Q := Eq.trans rfl rfl
def s5_23 : GC := .seq (.ops r5_22) s5_21
theorem s5_23_w {E : Env} {nt : Nat} {rd : Option Nat} {fr : Fr} {h : Heap} {Q : Ex → Fr → Heap → Prop} : s5_23.wp E nt rd fr h Q = (GC.seq (.ops r5_22) s5_21).wp E nt rd fr h Q := Eq.trans rfl rfl
def r5_24 : List GO := [⟨none, some 17, .call ⟨.value (.func 8), ⟨[]⟩, ⟨[]⟩⟩⟩,
  ⟨none, some 4, .assign (.tmp 17)⟩]
theorem r5_24_w {E : Env} {fr : Fr} {h : Heap} {Q : Fr → Heap → Prop} : opsW E r5_24 fr h Q = opsW E [⟨none, some 17, .call ⟨.value (.func 8), ⟨[]⟩, ⟨[]⟩⟩⟩,
  ⟨none, some 4, .assign (.tmp 17)⟩] fr h Q := Eq.trans rfl rfl
def s5_25 : GC := .seq (.ops r5_24) .ret
theorem s5_25_w {E : Env} {nt : Nat} {rd : Option Nat} {fr : Fr} {h : Heap} {Q : Ex → Fr → Heap → Prop} : s5_25.wp E nt rd fr h Q = (GC.seq (.ops r5_24) .ret).wp E nt rd fr h Q := Eq.trans rfl rfl
def s5_26 : GC := .cond (.tmp 16) s5_25 .skip
theorem s5_26_w {E : Env} {nt : Nat} {rd : Option Nat} {fr : Fr} {h : Heap} {Q : Ex → Fr → Heap → Prop} : s5_26.wp E nt rd fr h Q = (GC.cond (.tmp 16) s5_25 .skip).wp E nt rd fr h Q := Eq.trans rfl rfl
def r5_27 : List GO := [⟨none, some 7, .move (.tmp 0)⟩,
  ⟨none, some 8, .call ⟨.builtin .len, ⟨[.tmp 7]⟩, ⟨[40]⟩⟩⟩,
  ⟨none, some 9, .binOp .gtr 3 (.tmp 8) (.const (.int .i64 40)) 3⟩,
  ⟨none, some 10, .move (.tmp 9)⟩,
  ⟨some (10, false), some 11, .move (.tmp 1)⟩,
  ⟨some (10, false), some 12, .call ⟨.builtin .len, ⟨[.tmp 11]⟩, ⟨[22]⟩⟩⟩,
  ⟨some (10, false), some 13, .move (.tmp 0)⟩,
  ⟨some (10, false), some 14, .call ⟨.builtin .len, ⟨[.tmp 13]⟩, ⟨[40]⟩⟩⟩,
  ⟨some (10, false), some 15, .binOp .lss 3 (.tmp 12) (.tmp 14) 3⟩,
  ⟨none, some 16, .pick (.tmp 10) (.const (.bool true)) (.tmp 15)⟩]
theorem r5_27_w {E : Env} {fr : Fr} {h : Heap} {Q : Fr → Heap → Prop} : opsW E r5_27 fr h Q = opsW E [⟨none, some 7, .move (.tmp 0)⟩,
  ⟨none, some 8, .call ⟨.builtin .len, ⟨[.tmp 7]⟩, ⟨[40]⟩⟩⟩,
  ⟨none, some 9, .binOp .gtr 3 (.tmp 8) (.const (.int .i64 40)) 3⟩,
  ⟨none, some 10, .move (.tmp 9)⟩,
  ⟨some (10, false), some 11, .move (.tmp 1)⟩,
  ⟨some (10, false), some 12, .call ⟨.builtin .len, ⟨[.tmp 11]⟩, ⟨[22]⟩⟩⟩,
  ⟨some (10, false), some 13, .move (.tmp 0)⟩,
  ⟨some (10, false), some 14, .call ⟨.builtin .len, ⟨[.tmp 13]⟩, ⟨[40]⟩⟩⟩,
  ⟨some (10, false), some 15, .binOp .lss 3 (.tmp 12) (.tmp 14) 3⟩,
  ⟨none, some 16, .pick (.tmp 10) (.const (.bool true)) (.tmp 15)⟩] fr h Q := Eq.trans rfl rfl
def s5_28 : GC := .seq (.ops r5_27) s5_26
theorem s5_28_w {E : Env} {nt : Nat} {rd : Option Nat} {fr : Fr} {h : Heap} {Q : Ex → Fr → Heap → Prop} : s5_28.wp E nt rd fr h Q = (GC.seq (.ops r5_27) s5_26).wp E nt rd fr h Q := Eq.trans rfl rfl
def s5_29 : GC := .seq (s5_28) s5_23
theorem s5_29_w {E : Env} {nt : Nat} {rd : Option Nat} {fr : Fr} {h : Heap} {Q : Ex → Fr → Heap → Prop} : s5_29.wp E nt rd fr h Q = (GC.seq (s5_28) s5_23).wp E nt rd fr h Q := Eq.trans rfl rfl
def r5_30 : List GO := [⟨none, some 4, .assign (.const (.bool false))⟩]
theorem r5_30_w {E : Env} {fr : Fr} {h : Heap} {Q : Fr → Heap → Prop} : opsW E r5_30 fr h Q = opsW E [⟨none, some 4, .assign (.const (.bool false))⟩] fr h Q := Eq.trans rfl rfl
def s5_31 : GC := .seq (.ops r5_30) s5_29
theorem s5_31_w {E : Env} {nt : Nat} {rd : Option Nat} {fr : Fr} {h : Heap} {Q : Ex → Fr → Heap → Prop} : s5_31.wp E nt rd fr h Q = (GC.seq (.ops r5_30) s5_29).wp E nt rd fr h Q := Eq.trans rfl rfl
theorem c5 : Tryd.f5.body.bind (clean env 83) = some s5_31 := by kernel_rfl
theorem e5 : env.funs.get 5 = some Tryd.f5 := by kernel_rfl
theorem F5 {args : List Value} {h : Heap} {K : Value → Heap → Prop} (hl : args.length = 2) (w : s5_31.wp env 83 none (setAll args 0 .leaf) h (resK env [.tmp 4] K)) : Ret env (.func 5) args h K :=
  Ret.of_body' rfl e5 c5 rfl rfl (by rw [hl]; decide) w
/-! helmsman/helmsmanref26.SameLines -/
def r31_0 : List GO := [⟨none, some 4, .assign (.const (.bool true))⟩]
theorem r31_0_w {E : Env} {fr : Fr} {h : Heap} {Q : Fr → Heap → Prop} : opsW E r31_0 fr h Q = opsW E [⟨none, some 4, .assign (.const (.bool true))⟩] fr h Q := Eq.trans rfl rfl
def s31_1 : GC := .seq (.ops r31_0) .ret
theorem s31_1_w {E : Env} {nt : Nat} {rd : Option Nat} {fr : Fr} {h : Heap} {Q : Ex → Fr → Heap → Prop} : s31_1.wp E nt rd fr h Q = (GC.seq (.ops r31_0) .ret).wp E nt rd fr h Q := Eq.trans rfl rfl
def r31_2 : List GO := [⟨none, some 15, .move (.tmp 5)⟩,
  ⟨none, some 16, .binOp .add 3 (.tmp 15) (.const (.int .i64 1)) 3⟩,
  ⟨none, some 5, .assign (.tmp 16)⟩]
theorem r31_2_w {E : Env} {fr : Fr} {h : Heap} {Q : Fr → Heap → Prop} : opsW E r31_2 fr h Q = opsW E [⟨none, some 15, .move (.tmp 5)⟩,
  ⟨none, some 16, .binOp .add 3 (.tmp 15) (.const (.int .i64 1)) 3⟩,
  ⟨none, some 5, .assign (.tmp 16)⟩] fr h Q := Eq.trans rfl rfl
def s31_3 : GC := .ops r31_2
theorem s31_3_w {E : Env} {nt : Nat} {rd : Option Nat} {fr : Fr} {h : Heap} {Q : Ex → Fr → Heap → Prop} : s31_3.wp E nt rd fr h Q = (GC.ops r31_2).wp E nt rd fr h Q := Eq.trans rfl rfl
def r31_4 : List GO := [⟨none, some 4, .assign (.const (.bool false))⟩]
theorem r31_4_w {E : Env} {fr : Fr} {h : Heap} {Q : Fr → Heap → Prop} : opsW E r31_4 fr h Q = opsW E [⟨none, some 4, .assign (.const (.bool false))⟩] fr h Q := Eq.trans rfl rfl
def s31_5 : GC := .seq (.ops r31_4) .ret
theorem s31_5_w {E : Env} {nt : Nat} {rd : Option Nat} {fr : Fr} {h : Heap} {Q : Ex → Fr → Heap → Prop} : s31_5.wp E nt rd fr h Q = (GC.seq (.ops r31_4) .ret).wp E nt rd fr h Q := Eq.trans rfl rfl
def s31_6 : GC := .cond (.tmp 25) s31_5 .skip
theorem s31_6_w {E : Env} {nt : Nat} {rd : Option Nat} {fr : Fr} {h : Heap} {Q : Ex → Fr → Heap → Prop} : s31_6.wp E nt rd fr h Q = (GC.cond (.tmp 25) s31_5 .skip).wp E nt rd fr h Q := Eq.trans rfl rfl
def p31_7 : List (GO × List GO) := [(⟨none, some 17, .move (.tmp 0)⟩, []),
  (⟨none, some 18, .move (.tmp 5)⟩, []),
  (⟨none, some 19, .indexAddr 46 (.tmp 17) (.tmp 18)⟩, []),
  (⟨none, some 20, .load 9 (.tmp 19)⟩, []),
  (⟨none, some 21, .move (.tmp 1)⟩, []),
  (⟨none, some 22, .move (.tmp 5)⟩, []),
  (⟨none, some 23, .indexAddr 46 (.tmp 21) (.tmp 22)⟩, []),
  (⟨none, some 24, .load 9 (.tmp 23)⟩, []),
  (⟨none, some 25, .binOp .neq 9 (.tmp 20) (.tmp 24) 9⟩, [])]
theorem p31_7_w {E : Env} {fr : Fr} {h : Heap} {Q : Fr → Heap → Prop} : planW E p31_7 fr h Q = planW E [(⟨none, some 17, .move (.tmp 0)⟩, []),
  (⟨none, some 18, .move (.tmp 5)⟩, []),
  (⟨none, some 19, .indexAddr 46 (.tmp 17) (.tmp 18)⟩, []),
  (⟨none, some 20, .load 9 (.tmp 19)⟩, []),
  (⟨none, some 21, .move (.tmp 1)⟩, []),
  (⟨none, some 22, .move (.tmp 5)⟩, []),
  (⟨none, some 23, .indexAddr 46 (.tmp 21) (.tmp 22)⟩, []),
  (⟨none, some 24, .load 9 (.tmp 23)⟩, []),
  (⟨none, some 25, .binOp .neq 9 (.tmp 20) (.tmp 24) 9⟩, [])] fr h Q := Eq.trans rfl rfl
def s31_8 : GC := .seq (.plan p31_7) s31_6
theorem s31_8_w {E : Env} {nt : Nat} {rd : Option Nat} {fr : Fr} {h : Heap} {Q : Ex → Fr → Heap → Prop} : s31_8.wp E nt rd fr h Q = (GC.seq (.plan p31_7) s31_6).wp E nt rd fr h Q := Eq.trans rfl rfl
def s31_9 : GC := .seq (.block 1 s31_8) s31_3
theorem s31_9_w {E : Env} {nt : Nat} {rd : Option Nat} {fr : Fr} {h : Heap} {Q : Ex → Fr → Heap → Prop} : s31_9.wp E nt rd fr h Q = (GC.seq (.block 1 s31_8) s31_3).wp E nt rd fr h Q := Eq.trans rfl rfl
def s31_10 : GC := .cond (.tmp 14) .skip (.exit 0)
theorem s31_10_w {E : Env} {nt : Nat} {rd : Option Nat} {fr : Fr} {h : Heap} {Q : Ex → Fr → Heap → Prop} : s31_10.wp E nt rd fr h Q = (GC.cond (.tmp 14) .skip (.exit 0)).wp E nt rd fr h Q := Eq.trans rfl rfl
def r31_11 : List GO := [⟨none, some 11, .move (.tmp 5)⟩,
  ⟨none, some 12, .move (.tmp 0)⟩,
  ⟨none, some 13, .call ⟨.builtin .len, ⟨[.tmp 12]⟩, ⟨[46]⟩⟩⟩,
  ⟨none, some 14, .binOp .lss 3 (.tmp 11) (.tmp 13) 3⟩]
theorem r31_11_w {E : Env} {fr : Fr} {h : Heap} {Q : Fr → Heap → Prop} : opsW E r31_11 fr h Q = opsW E [⟨none, some 11, .move (.tmp 5)⟩,
  ⟨none, some 12, .move (.tmp 0)⟩,
  ⟨none, some 13, .call ⟨.builtin .len, ⟨[.tmp 12]⟩, ⟨[46]⟩⟩⟩,
  ⟨none, some 14, .binOp .lss 3 (.tmp 11) (.tmp 13) 3⟩] fr h Q := Eq.trans rfl rfl
def s31_12 : GC := .seq (.ops r31_11) s31_10
theorem s31_12_w {E : Env} {nt : Nat} {rd : Option Nat} {fr : Fr} {h : Heap} {Q : Ex → Fr → Heap → Prop} : s31_12.wp E nt rd fr h Q = (GC.seq (.ops r31_11) s31_10).wp E nt rd fr h Q := Eq.trans rfl rfl
def s31_13 : GC := .seq (s31_12) s31_9
theorem s31_13_w {E : Env} {nt : Nat} {rd : Option Nat} {fr : Fr} {h : Heap} {Q : Ex → Fr → Heap → Prop} : s31_13.wp E nt rd fr h Q = (GC.seq (s31_12) s31_9).wp E nt rd fr h Q := Eq.trans rfl rfl
def s31_14 : GC := .loop s31_13
theorem s31_14_w {E : Env} {nt : Nat} {rd : Option Nat} {fr : Fr} {h : Heap} {Q : Ex → Fr → Heap → Prop} : s31_14.wp E nt rd fr h Q = (GC.loop s31_13).wp E nt rd fr h Q := Eq.trans rfl rfl
def s31_15 : GC := .block 0 s31_14
theorem s31_15_w {E : Env} {nt : Nat} {rd : Option Nat} {fr : Fr} {h : Heap} {Q : Ex → Fr → Heap → Prop} : s31_15.wp E nt rd fr h Q = (GC.block 0 s31_14).wp E nt rd fr h Q := Eq.trans rfl rfl
def r31_16 : List GO := [⟨none, some 5, .assign (.const (.int .i64 0))⟩]
theorem r31_16_w {E : Env} {fr : Fr} {h : Heap} {Q : Fr → Heap → Prop} : opsW E r31_16 fr h Q = opsW E [⟨none, some 5, .assign (.const (.int .i64 0))⟩] fr h Q := Eq.trans rfl rfl
def s31_17 : GC := .seq (.ops r31_16) s31_15
theorem s31_17_w {E : Env} {nt : Nat} {rd : Option Nat} {fr : Fr} {h : Heap} {Q : Ex → Fr → Heap → Prop} : s31_17.wp E nt rd fr h Q = (GC.seq (.ops r31_16) s31_15).wp E nt rd fr h Q := Eq.trans rfl rfl
def s31_18 : GC := .seq (s31_17) s31_1
theorem s31_18_w {E : Env} {nt : Nat} {rd : Option Nat} {fr : Fr} {h : Heap} {Q : Ex → Fr → Heap → Prop} : s31_18.wp E nt rd fr h Q = (GC.seq (s31_17) s31_1).wp E nt rd fr h Q := Eq.trans rfl rfl
def r31_19 : List GO := [⟨none, some 4, .assign (.const (.bool false))⟩]
theorem r31_19_w {E : Env} {fr : Fr} {h : Heap} {Q : Fr → Heap → Prop} : opsW E r31_19 fr h Q = opsW E [⟨none, some 4, .assign (.const (.bool false))⟩] fr h Q := Eq.trans rfl rfl
def s31_20 : GC := .seq (.ops r31_19) .ret
theorem s31_20_w {E : Env} {nt : Nat} {rd : Option Nat} {fr : Fr} {h : Heap} {Q : Ex → Fr → Heap → Prop} : s31_20.wp E nt rd fr h Q = (GC.seq (.ops r31_19) .ret).wp E nt rd fr h Q := Eq.trans rfl rfl
def s31_21 : GC := .cond (.tmp 10) s31_20 .skip
theorem s31_21_w {E : Env} {nt : Nat} {rd : Option Nat} {fr : Fr} {h : Heap} {Q : Ex → Fr → Heap → Prop} : s31_21.wp E nt rd fr h Q = (GC.cond (.tmp 10) s31_20 .skip).wp E nt rd fr h Q := Eq.trans rfl rfl
def r31_22 : List GO := [⟨none, some 6, .move (.tmp 0)⟩,
  ⟨none, some 7, .call ⟨.builtin .len, ⟨[.tmp 6]⟩, ⟨[46]⟩⟩⟩,
  ⟨none, some 8, .move (.tmp 1)⟩,
  ⟨none, some 9, .call ⟨.builtin .len, ⟨[.tmp 8]⟩, ⟨[46]⟩⟩⟩,
  ⟨none, some 10, .binOp .neq 3 (.tmp 7) (.tmp 9) 3⟩]
theorem r31_22_w {E : Env} {fr : Fr} {h : Heap} {Q : Fr → Heap → Prop} : opsW E r31_22 fr h Q = opsW E [⟨none, some 6, .move (.tmp 0)⟩,
  ⟨none, some 7, .call ⟨.builtin .len, ⟨[.tmp 6]⟩, ⟨[46]⟩⟩⟩,
  ⟨none, some 8, .move (.tmp 1)⟩,
  ⟨none, some 9, .call ⟨.builtin .len, ⟨[.tmp 8]⟩, ⟨[46]⟩⟩⟩,
  ⟨none, some 10, .binOp .neq 3 (.tmp 7) (.tmp 9) 3⟩] fr h Q := Eq.trans rfl rfl
def s31_23 : GC := .seq (.ops r31_22) s31_21
theorem s31_23_w {E : Env} {nt : Nat} {rd : Option Nat} {fr : Fr} {h : Heap} {Q : Ex → Fr → Heap → Prop} : s31_23.wp E nt rd fr h Q = (GC.seq (.ops r31_22) s31_21).wp E nt rd fr h Q := Eq.trans rfl rfl
def s31_24 : GC := .seq (s31_23) s31_18
theorem s31_24_w {E : Env} {nt : Nat} {rd : Option Nat} {fr : Fr} {h : Heap} {Q : Ex → Fr → Heap → Prop} : s31_24.wp E nt rd fr h Q = (GC.seq (s31_23) s31_18).wp E nt rd fr h Q := Eq.trans rfl rfl
def r31_25 : List GO := [⟨none, some 4, .assign (.const (.bool false))⟩]
theorem r31_25_w {E : Env} {fr : Fr} {h : Heap} {Q : Fr → Heap → Prop} : opsW E r31_25 fr h Q = opsW E [⟨none, some 4, .assign (.const (.bool false))⟩] fr h Q := Eq.trans rfl rfl
def s31_26 : GC := .seq (.ops r31_25) s31_24
theorem s31_26_w {E : Env} {nt : Nat} {rd : Option Nat} {fr : Fr} {h : Heap} {Q : Ex → Fr → Heap → Prop} : s31_26.wp E nt rd fr h Q = (GC.seq (.ops r31_25) s31_24).wp E nt rd fr h Q := Eq.trans rfl rfl
theorem c31 : Tryd.f31.body.bind (clean env 26) = some s31_26 := by kernel_rfl
theorem e31 : env.funs.get 31 = some Tryd.f31 := by kernel_rfl
theorem F31 {args : List Value} {h : Heap} {K : Value → Heap → Prop} (hl : args.length = 2) (w : s31_26.wp env 26 none (setAll args 0 .leaf) h (resK env [.tmp 4] K)) : Ret env (.func 31) args h K :=
  Ret.of_body' rfl e31 c31 rfl rfl (by rw [hl]; decide) w
/-! helmsman/share.Lines -/
def r32_0 : List GO := [⟨none, some 50, .move (.tmp 2)⟩,
  ⟨none, some 51, .move (.tmp 3)⟩,
  ⟨none, some 52, .call ⟨.value (.func 15), ⟨[.tmp 51]⟩, ⟨[25]⟩⟩⟩,
  ⟨none, some 53, .call ⟨.value (.func 34), ⟨[.tmp 52]⟩, ⟨[27]⟩⟩⟩,
  ⟨none, some 54, .binOp .add 9 (.const (.string ⟨⟨[102, 97, 105, 114, 32]⟩⟩)) (.tmp 53) 9⟩,
  ⟨none, some 55, .buildSlice 46 1 ⟨[(0, .tmp 54)]⟩⟩,
  ⟨none, some 56, .call ⟨.builtin .append, ⟨[.tmp 50, .tmp 55]⟩, ⟨[46, 46]⟩⟩⟩,
  ⟨none, some 2, .assign (.tmp 56)⟩]
theorem r32_0_w {E : Env} {fr : Fr} {h : Heap} {Q : Fr → Heap → Prop} : opsW E r32_0 fr h Q = opsW E [⟨none, some 50, .move (.tmp 2)⟩,
  ⟨none, some 51, .move (.tmp 3)⟩,
  ⟨none, some 52, .call ⟨.value (.func 15), ⟨[.tmp 51]⟩, ⟨[25]⟩⟩⟩,
  ⟨none, some 53, .call ⟨.value (.func 34), ⟨[.tmp 52]⟩, ⟨[27]⟩⟩⟩,
  ⟨none, some 54, .binOp .add 9 (.const (.string ⟨⟨[102, 97, 105, 114, 32]⟩⟩)) (.tmp 53) 9⟩,
  ⟨none, some 55, .buildSlice 46 1 ⟨[(0, .tmp 54)]⟩⟩,
  ⟨none, some 56, .call ⟨.builtin .append, ⟨[.tmp 50, .tmp 55]⟩, ⟨[46, 46]⟩⟩⟩,
  ⟨none, some 2, .assign (.tmp 56)⟩] fr h Q := Eq.trans rfl rfl
def s32_1 : GC := .seq (.ops r32_0) .ret
theorem s32_1_w {E : Env} {nt : Nat} {rd : Option Nat} {fr : Fr} {h : Heap} {Q : Ex → Fr → Heap → Prop} : s32_1.wp E nt rd fr h Q = (GC.seq (.ops r32_0) .ret).wp E nt rd fr h Q := Eq.trans rfl rfl
def r32_2 : List GO := [⟨none, some 49, .binOp .add 3 (.tmp 9) (.const (.int .i64 1)) 3⟩,
  ⟨none, some 9, .move (.tmp 49)⟩]
theorem r32_2_w {E : Env} {fr : Fr} {h : Heap} {Q : Fr → Heap → Prop} : opsW E r32_2 fr h Q = opsW E [⟨none, some 49, .binOp .add 3 (.tmp 9) (.const (.int .i64 1)) 3⟩,
  ⟨none, some 9, .move (.tmp 49)⟩] fr h Q := Eq.trans rfl rfl
def s32_3 : GC := .ops r32_2
theorem s32_3_w {E : Env} {nt : Nat} {rd : Option Nat} {fr : Fr} {h : Heap} {Q : Ex → Fr → Heap → Prop} : s32_3.wp E nt rd fr h Q = (GC.ops r32_2).wp E nt rd fr h Q := Eq.trans rfl rfl
def p32_4 : List (GO × List GO) := [(⟨none, some 28, .move (.tmp 2)⟩, []),
  (⟨none, some 29, .move (.tmp 6)⟩, []),
  (⟨none, some 30, .fieldAddr 44 (.tmp 5) 1⟩, []),
  (⟨none, some 31, .load 3 (.tmp 30)⟩, []),
  (⟨none, some 33, .fieldAddr 44 (.tmp 5) 2⟩, []),
  (⟨none, some 34, .load 3 (.tmp 33)⟩, []),
  (⟨none, some 36, .fieldAddr 44 (.tmp 5) 3⟩, []),
  (⟨none, some 37, .load 3 (.tmp 36)⟩, []),
  (⟨none, some 39, .fieldAddr 44 (.tmp 5) 4⟩, []),
  (⟨none, some 40, .load 3 (.tmp 39)⟩, []),
  (⟨none, some 42, .fieldAddr 44 (.tmp 5) 5⟩, []),
  (⟨none, some 43, .load 27 (.tmp 42)⟩, []),
  (⟨none, some 32, .call ⟨.value (.func 49), ⟨[.tmp 31]⟩, ⟨[3]⟩⟩⟩, [⟨none, some 34, .load 3 (.tmp 33)⟩, ⟨none, some 37, .load 3 (.tmp 36)⟩, ⟨none, some 40, .load 3 (.tmp 39)⟩, ⟨none, some 43, .load 27 (.tmp 42)⟩]),
  (⟨none, some 35, .call ⟨.value (.func 49), ⟨[.tmp 34]⟩, ⟨[3]⟩⟩⟩, [⟨none, some 37, .load 3 (.tmp 36)⟩, ⟨none, some 40, .load 3 (.tmp 39)⟩, ⟨none, some 43, .load 27 (.tmp 42)⟩]),
  (⟨none, some 38, .call ⟨.value (.func 49), ⟨[.tmp 37]⟩, ⟨[3]⟩⟩⟩, [⟨none, some 40, .load 3 (.tmp 39)⟩, ⟨none, some 43, .load 27 (.tmp 42)⟩]),
  (⟨none, some 41, .call ⟨.value (.func 49), ⟨[.tmp 40]⟩, ⟨[3]⟩⟩⟩, [⟨none, some 43, .load 27 (.tmp 42)⟩]),
  (⟨none, some 44, .call ⟨.value (.func 34), ⟨[.tmp 43]⟩, ⟨[27]⟩⟩⟩, []),
  (⟨none, some 45, .buildSlice 46 6 ⟨[(0, .tmp 29), (1, .tmp 32), (2, .tmp 35), (3, .tmp 38), (4, .tmp 41), (5, .tmp 44)]⟩⟩, []),
  (⟨none, some 46, .call ⟨.value (.func 51), ⟨[.tmp 45, .const (.string ⟨⟨[32]⟩⟩)]⟩, ⟨[46, 9]⟩⟩⟩, []),
  (⟨none, some 47, .buildSlice 46 1 ⟨[(0, .tmp 46)]⟩⟩, []),
  (⟨none, some 48, .call ⟨.builtin .append, ⟨[.tmp 28, .tmp 47]⟩, ⟨[46, 46]⟩⟩⟩, []),
  (⟨none, some 2, .assign (.tmp 48)⟩, [])]
theorem p32_4_w {E : Env} {fr : Fr} {h : Heap} {Q : Fr → Heap → Prop} : planW E p32_4 fr h Q = planW E [(⟨none, some 28, .move (.tmp 2)⟩, []),
  (⟨none, some 29, .move (.tmp 6)⟩, []),
  (⟨none, some 30, .fieldAddr 44 (.tmp 5) 1⟩, []),
  (⟨none, some 31, .load 3 (.tmp 30)⟩, []),
  (⟨none, some 33, .fieldAddr 44 (.tmp 5) 2⟩, []),
  (⟨none, some 34, .load 3 (.tmp 33)⟩, []),
  (⟨none, some 36, .fieldAddr 44 (.tmp 5) 3⟩, []),
  (⟨none, some 37, .load 3 (.tmp 36)⟩, []),
  (⟨none, some 39, .fieldAddr 44 (.tmp 5) 4⟩, []),
  (⟨none, some 40, .load 3 (.tmp 39)⟩, []),
  (⟨none, some 42, .fieldAddr 44 (.tmp 5) 5⟩, []),
  (⟨none, some 43, .load 27 (.tmp 42)⟩, []),
  (⟨none, some 32, .call ⟨.value (.func 49), ⟨[.tmp 31]⟩, ⟨[3]⟩⟩⟩, [⟨none, some 34, .load 3 (.tmp 33)⟩, ⟨none, some 37, .load 3 (.tmp 36)⟩, ⟨none, some 40, .load 3 (.tmp 39)⟩, ⟨none, some 43, .load 27 (.tmp 42)⟩]),
  (⟨none, some 35, .call ⟨.value (.func 49), ⟨[.tmp 34]⟩, ⟨[3]⟩⟩⟩, [⟨none, some 37, .load 3 (.tmp 36)⟩, ⟨none, some 40, .load 3 (.tmp 39)⟩, ⟨none, some 43, .load 27 (.tmp 42)⟩]),
  (⟨none, some 38, .call ⟨.value (.func 49), ⟨[.tmp 37]⟩, ⟨[3]⟩⟩⟩, [⟨none, some 40, .load 3 (.tmp 39)⟩, ⟨none, some 43, .load 27 (.tmp 42)⟩]),
  (⟨none, some 41, .call ⟨.value (.func 49), ⟨[.tmp 40]⟩, ⟨[3]⟩⟩⟩, [⟨none, some 43, .load 27 (.tmp 42)⟩]),
  (⟨none, some 44, .call ⟨.value (.func 34), ⟨[.tmp 43]⟩, ⟨[27]⟩⟩⟩, []),
  (⟨none, some 45, .buildSlice 46 6 ⟨[(0, .tmp 29), (1, .tmp 32), (2, .tmp 35), (3, .tmp 38), (4, .tmp 41), (5, .tmp 44)]⟩⟩, []),
  (⟨none, some 46, .call ⟨.value (.func 51), ⟨[.tmp 45, .const (.string ⟨⟨[32]⟩⟩)]⟩, ⟨[46, 9]⟩⟩⟩, []),
  (⟨none, some 47, .buildSlice 46 1 ⟨[(0, .tmp 46)]⟩⟩, []),
  (⟨none, some 48, .call ⟨.builtin .append, ⟨[.tmp 28, .tmp 47]⟩, ⟨[46, 46]⟩⟩⟩, []),
  (⟨none, some 2, .assign (.tmp 48)⟩, [])] fr h Q := Eq.trans rfl rfl
def s32_5 : GC := .plan p32_4
theorem s32_5_w {E : Env} {nt : Nat} {rd : Option Nat} {fr : Fr} {h : Heap} {Q : Ex → Fr → Heap → Prop} : s32_5.wp E nt rd fr h Q = (GC.plan p32_4).wp E nt rd fr h Q := Eq.trans rfl rfl
def p32_6 : List (GO × List GO) := [(⟨none, some 18, .fieldAddr 44 (.tmp 5) 0⟩, []),
  (⟨none, some 19, .fieldAddr 42 (.tmp 18) 0⟩, []),
  (⟨none, some 20, .load 3 (.tmp 19)⟩, []),
  (⟨none, some 23, .fieldAddr 44 (.tmp 5) 0⟩, []),
  (⟨none, some 24, .fieldAddr 42 (.tmp 23) 1⟩, []),
  (⟨none, some 25, .load 23 (.tmp 24)⟩, []),
  (⟨none, some 21, .call ⟨.value (.func 49), ⟨[.tmp 20]⟩, ⟨[3]⟩⟩⟩, [⟨none, some 25, .load 23 (.tmp 24)⟩]),
  (⟨none, some 22, .binOp .add 9 (.tmp 21) (.const (.string ⟨⟨[46]⟩⟩)) 9⟩, []),
  (⟨none, some 26, .call ⟨.value (.func 50), ⟨[.tmp 25, .const (.int .i64 10)]⟩, ⟨[23, 3]⟩⟩⟩, []),
  (⟨none, some 27, .binOp .add 9 (.tmp 22) (.tmp 26) 9⟩, []),
  (⟨none, some 6, .assign (.tmp 27)⟩, [])]
theorem p32_6_w {E : Env} {fr : Fr} {h : Heap} {Q : Fr → Heap → Prop} : planW E p32_6 fr h Q = planW E [(⟨none, some 18, .fieldAddr 44 (.tmp 5) 0⟩, []),
  (⟨none, some 19, .fieldAddr 42 (.tmp 18) 0⟩, []),
  (⟨none, some 20, .load 3 (.tmp 19)⟩, []),
  (⟨none, some 23, .fieldAddr 44 (.tmp 5) 0⟩, []),
  (⟨none, some 24, .fieldAddr 42 (.tmp 23) 1⟩, []),
  (⟨none, some 25, .load 23 (.tmp 24)⟩, []),
  (⟨none, some 21, .call ⟨.value (.func 49), ⟨[.tmp 20]⟩, ⟨[3]⟩⟩⟩, [⟨none, some 25, .load 23 (.tmp 24)⟩]),
  (⟨none, some 22, .binOp .add 9 (.tmp 21) (.const (.string ⟨⟨[46]⟩⟩)) 9⟩, []),
  (⟨none, some 26, .call ⟨.value (.func 50), ⟨[.tmp 25, .const (.int .i64 10)]⟩, ⟨[23, 3]⟩⟩⟩, []),
  (⟨none, some 27, .binOp .add 9 (.tmp 22) (.tmp 26) 9⟩, []),
  (⟨none, some 6, .assign (.tmp 27)⟩, [])] fr h Q := Eq.trans rfl rfl
def s32_7 : GC := .seq (.plan p32_6) s32_5
theorem s32_7_w {E : Env} {nt : Nat} {rd : Option Nat} {fr : Fr} {h : Heap} {Q : Ex → Fr → Heap → Prop} : s32_7.wp E nt rd fr h Q = (GC.seq (.plan p32_6) s32_5).wp E nt rd fr h Q := Eq.trans rfl rfl
def r32_8 : List GO := [⟨none, some 13, .move (.tmp 3)⟩,
  ⟨none, some 14, .fieldAddr 44 (.tmp 5) 5⟩,
  ⟨none, some 15, .load 27 (.tmp 14)⟩,
  ⟨none, some 16, .buildSlice 25 1 ⟨[(0, .tmp 15)]⟩⟩,
  ⟨none, some 17, .call ⟨.builtin .append, ⟨[.tmp 13, .tmp 16]⟩, ⟨[25, 25]⟩⟩⟩,
  ⟨none, some 3, .assign (.tmp 17)⟩]
theorem r32_8_w {E : Env} {fr : Fr} {h : Heap} {Q : Fr → Heap → Prop} : opsW E r32_8 fr h Q = opsW E [⟨none, some 13, .move (.tmp 3)⟩,
  ⟨none, some 14, .fieldAddr 44 (.tmp 5) 5⟩,
  ⟨none, some 15, .load 27 (.tmp 14)⟩,
  ⟨none, some 16, .buildSlice 25 1 ⟨[(0, .tmp 15)]⟩⟩,
  ⟨none, some 17, .call ⟨.builtin .append, ⟨[.tmp 13, .tmp 16]⟩, ⟨[25, 25]⟩⟩⟩,
  ⟨none, some 3, .assign (.tmp 17)⟩] fr h Q := Eq.trans rfl rfl
def s32_9 : GC := .seq (.ops r32_8) s32_7
theorem s32_9_w {E : Env} {nt : Nat} {rd : Option Nat} {fr : Fr} {h : Heap} {Q : Ex → Fr → Heap → Prop} : s32_9.wp E nt rd fr h Q = (GC.seq (.ops r32_8) s32_7).wp E nt rd fr h Q := Eq.trans rfl rfl
def r32_10 : List GO := [⟨none, some 11, .indexAddr 40 (.tmp 7) (.tmp 9)⟩,
  ⟨none, some 12, .load 44 (.tmp 11)⟩,
  ⟨none, some 5, .alloc 44⟩,
  ⟨none, none, .store 44 (.tmp 5) (.tmp 12)⟩]
theorem r32_10_w {E : Env} {fr : Fr} {h : Heap} {Q : Fr → Heap → Prop} : opsW E r32_10 fr h Q = opsW E [⟨none, some 11, .indexAddr 40 (.tmp 7) (.tmp 9)⟩,
  ⟨none, some 12, .load 44 (.tmp 11)⟩,
  ⟨none, some 5, .alloc 44⟩,
  ⟨none, none, .store 44 (.tmp 5) (.tmp 12)⟩] fr h Q := Eq.trans rfl rfl
def s32_11 : GC := .seq (.ops r32_10) s32_9
theorem s32_11_w {E : Env} {nt : Nat} {rd : Option Nat} {fr : Fr} {h : Heap} {Q : Ex → Fr → Heap → Prop} : s32_11.wp E nt rd fr h Q = (GC.seq (.ops r32_10) s32_9).wp E nt rd fr h Q := Eq.trans rfl rfl
def s32_12 : GC := .seq (.block 1 s32_11) s32_3
theorem s32_12_w {E : Env} {nt : Nat} {rd : Option Nat} {fr : Fr} {h : Heap} {Q : Ex → Fr → Heap → Prop} : s32_12.wp E nt rd fr h Q = (GC.seq (.block 1 s32_11) s32_3).wp E nt rd fr h Q := Eq.trans rfl rfl
def s32_13 : GC := .cond (.tmp 10) .skip (.exit 0)
theorem s32_13_w {E : Env} {nt : Nat} {rd : Option Nat} {fr : Fr} {h : Heap} {Q : Ex → Fr → Heap → Prop} : s32_13.wp E nt rd fr h Q = (GC.cond (.tmp 10) .skip (.exit 0)).wp E nt rd fr h Q := Eq.trans rfl rfl
def s32_14 : GC := .seq (s32_13) s32_12
theorem s32_14_w {E : Env} {nt : Nat} {rd : Option Nat} {fr : Fr} {h : Heap} {Q : Ex → Fr → Heap → Prop} : s32_14.wp E nt rd fr h Q = (GC.seq (s32_13) s32_12).wp E nt rd fr h Q := Eq.trans rfl rfl
def r32_15 : List GO := [⟨none, some 10, .binOp .lss 3 (.tmp 9) (.tmp 8) 3⟩]
theorem r32_15_w {E : Env} {fr : Fr} {h : Heap} {Q : Fr → Heap → Prop} : opsW E r32_15 fr h Q = opsW E [⟨none, some 10, .binOp .lss 3 (.tmp 9) (.tmp 8) 3⟩] fr h Q := Eq.trans rfl rfl
def s32_16 : GC := .seq (.ops r32_15) s32_14
theorem s32_16_w {E : Env} {nt : Nat} {rd : Option Nat} {fr : Fr} {h : Heap} {Q : Ex → Fr → Heap → Prop} : s32_16.wp E nt rd fr h Q = (GC.seq (.ops r32_15) s32_14).wp E nt rd fr h Q := Eq.trans rfl rfl
def s32_17 : GC := .loop s32_16
theorem s32_17_w {E : Env} {nt : Nat} {rd : Option Nat} {fr : Fr} {h : Heap} {Q : Ex → Fr → Heap → Prop} : s32_17.wp E nt rd fr h Q = (GC.loop s32_16).wp E nt rd fr h Q := Eq.trans rfl rfl
def s32_18 : GC := .block 0 s32_17
theorem s32_18_w {E : Env} {nt : Nat} {rd : Option Nat} {fr : Fr} {h : Heap} {Q : Ex → Fr → Heap → Prop} : s32_18.wp E nt rd fr h Q = (GC.block 0 s32_17).wp E nt rd fr h Q := Eq.trans rfl rfl
def r32_19 : List GO := [⟨none, some 7, .move (.tmp 0)⟩,
  ⟨none, some 8, .call ⟨.builtin .len, ⟨[.tmp 7]⟩, ⟨[40]⟩⟩⟩,
  ⟨none, some 9, .move (.const (.int .i64 0))⟩]
theorem r32_19_w {E : Env} {fr : Fr} {h : Heap} {Q : Fr → Heap → Prop} : opsW E r32_19 fr h Q = opsW E [⟨none, some 7, .move (.tmp 0)⟩,
  ⟨none, some 8, .call ⟨.builtin .len, ⟨[.tmp 7]⟩, ⟨[40]⟩⟩⟩,
  ⟨none, some 9, .move (.const (.int .i64 0))⟩] fr h Q := Eq.trans rfl rfl
def s32_20 : GC := .seq (.ops r32_19) s32_18
theorem s32_20_w {E : Env} {nt : Nat} {rd : Option Nat} {fr : Fr} {h : Heap} {Q : Ex → Fr → Heap → Prop} : s32_20.wp E nt rd fr h Q = (GC.seq (.ops r32_19) s32_18).wp E nt rd fr h Q := Eq.trans rfl rfl
def s32_21 : GC := .seq (s32_20) s32_1
theorem s32_21_w {E : Env} {nt : Nat} {rd : Option Nat} {fr : Fr} {h : Heap} {Q : Ex → Fr → Heap → Prop} : s32_21.wp E nt rd fr h Q = (GC.seq (s32_20) s32_1).wp E nt rd fr h Q := Eq.trans rfl rfl
def r32_22 : List GO := [⟨none, some 3, .assign (.const (.slice none 0 0))⟩]
theorem r32_22_w {E : Env} {fr : Fr} {h : Heap} {Q : Fr → Heap → Prop} : opsW E r32_22 fr h Q = opsW E [⟨none, some 3, .assign (.const (.slice none 0 0))⟩] fr h Q := Eq.trans rfl rfl
def s32_23 : GC := .seq (.ops r32_22) s32_21
theorem s32_23_w {E : Env} {nt : Nat} {rd : Option Nat} {fr : Fr} {h : Heap} {Q : Ex → Fr → Heap → Prop} : s32_23.wp E nt rd fr h Q = (GC.seq (.ops r32_22) s32_21).wp E nt rd fr h Q := Eq.trans rfl rfl
def r32_24 : List GO := [⟨none, some 2, .assign (.const (.slice none 0 0))⟩]
theorem r32_24_w {E : Env} {fr : Fr} {h : Heap} {Q : Fr → Heap → Prop} : opsW E r32_24 fr h Q = opsW E [⟨none, some 2, .assign (.const (.slice none 0 0))⟩] fr h Q := Eq.trans rfl rfl
def s32_25 : GC := .seq (.ops r32_24) s32_23
theorem s32_25_w {E : Env} {nt : Nat} {rd : Option Nat} {fr : Fr} {h : Heap} {Q : Ex → Fr → Heap → Prop} : s32_25.wp E nt rd fr h Q = (GC.seq (.ops r32_24) s32_23).wp E nt rd fr h Q := Eq.trans rfl rfl
theorem c32 : Tryd.f32.body.bind (clean env 57) = some s32_25 := by kernel_rfl
theorem e32 : env.funs.get 32 = some Tryd.f32 := by kernel_rfl
theorem F32 {args : List Value} {h : Heap} {K : Value → Heap → Prop} (hl : args.length = 1) (w : s32_25.wp env 57 none (setAll args 0 .leaf) h (resK env [.tmp 2] K)) : Ret env (.func 32) args h K :=
  Ret.of_body' rfl e32 c32 rfl rfl (by rw [hl]; decide) w
/-! helmsman/helmsmanref31.Lines -/
def r33_0 : List GO := [⟨none, some 60, .move (.tmp 3)⟩,
  ⟨none, some 61, .move (.tmp 4)⟩,
  ⟨none, some 62, .call ⟨.value (.func 16), ⟨[.tmp 61]⟩, ⟨[25]⟩⟩⟩,
  ⟨none, some 63, .call ⟨.value (.func 36), ⟨[.tmp 62]⟩, ⟨[27]⟩⟩⟩,
  ⟨none, some 64, .binOp .add 9 (.const (.string ⟨⟨[102, 97, 105, 114, 32]⟩⟩)) (.tmp 63) 9⟩,
  ⟨none, some 65, .buildSlice 46 1 ⟨[(0, .tmp 64)]⟩⟩,
  ⟨none, some 66, .call ⟨.builtin .append, ⟨[.tmp 60, .tmp 65]⟩, ⟨[46, 46]⟩⟩⟩,
  ⟨none, some 2, .assign (.tmp 66)⟩]
theorem r33_0_w {E : Env} {fr : Fr} {h : Heap} {Q : Fr → Heap → Prop} : opsW E r33_0 fr h Q = opsW E [⟨none, some 60, .move (.tmp 3)⟩,
  ⟨none, some 61, .move (.tmp 4)⟩,
  ⟨none, some 62, .call ⟨.value (.func 16), ⟨[.tmp 61]⟩, ⟨[25]⟩⟩⟩,
  ⟨none, some 63, .call ⟨.value (.func 36), ⟨[.tmp 62]⟩, ⟨[27]⟩⟩⟩,
  ⟨none, some 64, .binOp .add 9 (.const (.string ⟨⟨[102, 97, 105, 114, 32]⟩⟩)) (.tmp 63) 9⟩,
  ⟨none, some 65, .buildSlice 46 1 ⟨[(0, .tmp 64)]⟩⟩,
  ⟨none, some 66, .call ⟨.builtin .append, ⟨[.tmp 60, .tmp 65]⟩, ⟨[46, 46]⟩⟩⟩,
  ⟨none, some 2, .assign (.tmp 66)⟩] fr h Q := Eq.trans rfl rfl
def s33_1 : GC := .seq (.ops r33_0) .ret
theorem s33_1_w {E : Env} {nt : Nat} {rd : Option Nat} {fr : Fr} {h : Heap} {Q : Ex → Fr → Heap → Prop} : s33_1.wp E nt rd fr h Q = (GC.seq (.ops r33_0) .ret).wp E nt rd fr h Q := Eq.trans rfl rfl
def r33_2 : List GO := [⟨none, some 11, .move (.tmp 5)⟩,
  ⟨none, some 12, .binOp .add 3 (.tmp 11) (.const (.int .i64 1)) 3⟩,
  ⟨none, some 5, .assign (.tmp 12)⟩]
theorem r33_2_w {E : Env} {fr : Fr} {h : Heap} {Q : Fr → Heap → Prop} : opsW E r33_2 fr h Q = opsW E [⟨none, some 11, .move (.tmp 5)⟩,
  ⟨none, some 12, .binOp .add 3 (.tmp 11) (.const (.int .i64 1)) 3⟩,
  ⟨none, some 5, .assign (.tmp 12)⟩] fr h Q := Eq.trans rfl rfl
def s33_3 : GC := .ops r33_2
theorem s33_3_w {E : Env} {nt : Nat} {rd : Option Nat} {fr : Fr} {h : Heap} {Q : Ex → Fr → Heap → Prop} : s33_3.wp E nt rd fr h Q = (GC.ops r33_2).wp E nt rd fr h Q := Eq.trans rfl rfl
def p33_4 : List (GO × List GO) := [(⟨none, some 22, .move (.tmp 3)⟩, []),
  (⟨none, some 23, .fieldAddr 44 (.tmp 6) 0⟩, []),
  (⟨none, some 24, .fieldAddr 42 (.tmp 23) 0⟩, []),
  (⟨none, some 25, .load 3 (.tmp 24)⟩, []),
  (⟨none, some 28, .fieldAddr 44 (.tmp 6) 0⟩, []),
  (⟨none, some 29, .fieldAddr 42 (.tmp 28) 1⟩, []),
  (⟨none, some 30, .load 23 (.tmp 29)⟩, []),
  (⟨none, some 34, .fieldAddr 44 (.tmp 6) 1⟩, []),
  (⟨none, some 35, .load 3 (.tmp 34)⟩, []),
  (⟨none, some 39, .fieldAddr 44 (.tmp 6) 2⟩, []),
  (⟨none, some 40, .load 3 (.tmp 39)⟩, []),
  (⟨none, some 44, .fieldAddr 44 (.tmp 6) 3⟩, []),
  (⟨none, some 45, .load 3 (.tmp 44)⟩, []),
  (⟨none, some 49, .fieldAddr 44 (.tmp 6) 4⟩, []),
  (⟨none, some 50, .load 3 (.tmp 49)⟩, []),
  (⟨none, some 54, .fieldAddr 44 (.tmp 6) 5⟩, []),
  (⟨none, some 55, .load 27 (.tmp 54)⟩, []),
  (⟨none, some 26, .call ⟨.value (.func 52), ⟨[.tmp 25]⟩, ⟨[3]⟩⟩⟩, [⟨none, some 30, .load 23 (.tmp 29)⟩, ⟨none, some 35, .load 3 (.tmp 34)⟩, ⟨none, some 40, .load 3 (.tmp 39)⟩, ⟨none, some 45, .load 3 (.tmp 44)⟩, ⟨none, some 50, .load 3 (.tmp 49)⟩, ⟨none, some 55, .load 27 (.tmp 54)⟩]),
  (⟨none, some 27, .binOp .add 9 (.tmp 26) (.const (.string ⟨⟨[46]⟩⟩)) 9⟩, []),
  (⟨none, some 31, .call ⟨.value (.func 53), ⟨[.tmp 30]⟩, ⟨[23]⟩⟩⟩, [⟨none, some 35, .load 3 (.tmp 34)⟩, ⟨none, some 40, .load 3 (.tmp 39)⟩, ⟨none, some 45, .load 3 (.tmp 44)⟩, ⟨none, some 50, .load 3 (.tmp 49)⟩, ⟨none, some 55, .load 27 (.tmp 54)⟩]),
  (⟨none, some 32, .binOp .add 9 (.tmp 27) (.tmp 31) 9⟩, []),
  (⟨none, some 33, .binOp .add 9 (.tmp 32) (.const (.string ⟨⟨[32]⟩⟩)) 9⟩, []),
  (⟨none, some 36, .call ⟨.value (.func 52), ⟨[.tmp 35]⟩, ⟨[3]⟩⟩⟩, [⟨none, some 40, .load 3 (.tmp 39)⟩, ⟨none, some 45, .load 3 (.tmp 44)⟩, ⟨none, some 50, .load 3 (.tmp 49)⟩, ⟨none, some 55, .load 27 (.tmp 54)⟩]),
  (⟨none, some 37, .binOp .add 9 (.tmp 33) (.tmp 36) 9⟩, []),
  (⟨none, some 38, .binOp .add 9 (.tmp 37) (.const (.string ⟨⟨[32]⟩⟩)) 9⟩, []),
  (⟨none, some 41, .call ⟨.value (.func 52), ⟨[.tmp 40]⟩, ⟨[3]⟩⟩⟩, [⟨none, some 45, .load 3 (.tmp 44)⟩, ⟨none, some 50, .load 3 (.tmp 49)⟩, ⟨none, some 55, .load 27 (.tmp 54)⟩]),
  (⟨none, some 42, .binOp .add 9 (.tmp 38) (.tmp 41) 9⟩, []),
  (⟨none, some 43, .binOp .add 9 (.tmp 42) (.const (.string ⟨⟨[32]⟩⟩)) 9⟩, []),
  (⟨none, some 46, .call ⟨.value (.func 52), ⟨[.tmp 45]⟩, ⟨[3]⟩⟩⟩, [⟨none, some 50, .load 3 (.tmp 49)⟩, ⟨none, some 55, .load 27 (.tmp 54)⟩]),
  (⟨none, some 47, .binOp .add 9 (.tmp 43) (.tmp 46) 9⟩, []),
  (⟨none, some 48, .binOp .add 9 (.tmp 47) (.const (.string ⟨⟨[32]⟩⟩)) 9⟩, []),
  (⟨none, some 51, .call ⟨.value (.func 52), ⟨[.tmp 50]⟩, ⟨[3]⟩⟩⟩, [⟨none, some 55, .load 27 (.tmp 54)⟩]),
  (⟨none, some 52, .binOp .add 9 (.tmp 48) (.tmp 51) 9⟩, []),
  (⟨none, some 53, .binOp .add 9 (.tmp 52) (.const (.string ⟨⟨[32]⟩⟩)) 9⟩, []),
  (⟨none, some 56, .call ⟨.value (.func 36), ⟨[.tmp 55]⟩, ⟨[27]⟩⟩⟩, []),
  (⟨none, some 57, .binOp .add 9 (.tmp 53) (.tmp 56) 9⟩, []),
  (⟨none, some 58, .buildSlice 46 1 ⟨[(0, .tmp 57)]⟩⟩, []),
  (⟨none, some 59, .call ⟨.builtin .append, ⟨[.tmp 22, .tmp 58]⟩, ⟨[46, 46]⟩⟩⟩, []),
  (⟨none, some 3, .assign (.tmp 59)⟩, [])]
theorem p33_4_w {E : Env} {fr : Fr} {h : Heap} {Q : Fr → Heap → Prop} : planW E p33_4 fr h Q = planW E [(⟨none, some 22, .move (.tmp 3)⟩, []),
  (⟨none, some 23, .fieldAddr 44 (.tmp 6) 0⟩, []),
  (⟨none, some 24, .fieldAddr 42 (.tmp 23) 0⟩, []),
  (⟨none, some 25, .load 3 (.tmp 24)⟩, []),
  (⟨none, some 28, .fieldAddr 44 (.tmp 6) 0⟩, []),
  (⟨none, some 29, .fieldAddr 42 (.tmp 28) 1⟩, []),
  (⟨none, some 30, .load 23 (.tmp 29)⟩, []),
  (⟨none, some 34, .fieldAddr 44 (.tmp 6) 1⟩, []),
  (⟨none, some 35, .load 3 (.tmp 34)⟩, []),
  (⟨none, some 39, .fieldAddr 44 (.tmp 6) 2⟩, []),
  (⟨none, some 40, .load 3 (.tmp 39)⟩, []),
  (⟨none, some 44, .fieldAddr 44 (.tmp 6) 3⟩, []),
  (⟨none, some 45, .load 3 (.tmp 44)⟩, []),
  (⟨none, some 49, .fieldAddr 44 (.tmp 6) 4⟩, []),
  (⟨none, some 50, .load 3 (.tmp 49)⟩, []),
  (⟨none, some 54, .fieldAddr 44 (.tmp 6) 5⟩, []),
  (⟨none, some 55, .load 27 (.tmp 54)⟩, []),
  (⟨none, some 26, .call ⟨.value (.func 52), ⟨[.tmp 25]⟩, ⟨[3]⟩⟩⟩, [⟨none, some 30, .load 23 (.tmp 29)⟩, ⟨none, some 35, .load 3 (.tmp 34)⟩, ⟨none, some 40, .load 3 (.tmp 39)⟩, ⟨none, some 45, .load 3 (.tmp 44)⟩, ⟨none, some 50, .load 3 (.tmp 49)⟩, ⟨none, some 55, .load 27 (.tmp 54)⟩]),
  (⟨none, some 27, .binOp .add 9 (.tmp 26) (.const (.string ⟨⟨[46]⟩⟩)) 9⟩, []),
  (⟨none, some 31, .call ⟨.value (.func 53), ⟨[.tmp 30]⟩, ⟨[23]⟩⟩⟩, [⟨none, some 35, .load 3 (.tmp 34)⟩, ⟨none, some 40, .load 3 (.tmp 39)⟩, ⟨none, some 45, .load 3 (.tmp 44)⟩, ⟨none, some 50, .load 3 (.tmp 49)⟩, ⟨none, some 55, .load 27 (.tmp 54)⟩]),
  (⟨none, some 32, .binOp .add 9 (.tmp 27) (.tmp 31) 9⟩, []),
  (⟨none, some 33, .binOp .add 9 (.tmp 32) (.const (.string ⟨⟨[32]⟩⟩)) 9⟩, []),
  (⟨none, some 36, .call ⟨.value (.func 52), ⟨[.tmp 35]⟩, ⟨[3]⟩⟩⟩, [⟨none, some 40, .load 3 (.tmp 39)⟩, ⟨none, some 45, .load 3 (.tmp 44)⟩, ⟨none, some 50, .load 3 (.tmp 49)⟩, ⟨none, some 55, .load 27 (.tmp 54)⟩]),
  (⟨none, some 37, .binOp .add 9 (.tmp 33) (.tmp 36) 9⟩, []),
  (⟨none, some 38, .binOp .add 9 (.tmp 37) (.const (.string ⟨⟨[32]⟩⟩)) 9⟩, []),
  (⟨none, some 41, .call ⟨.value (.func 52), ⟨[.tmp 40]⟩, ⟨[3]⟩⟩⟩, [⟨none, some 45, .load 3 (.tmp 44)⟩, ⟨none, some 50, .load 3 (.tmp 49)⟩, ⟨none, some 55, .load 27 (.tmp 54)⟩]),
  (⟨none, some 42, .binOp .add 9 (.tmp 38) (.tmp 41) 9⟩, []),
  (⟨none, some 43, .binOp .add 9 (.tmp 42) (.const (.string ⟨⟨[32]⟩⟩)) 9⟩, []),
  (⟨none, some 46, .call ⟨.value (.func 52), ⟨[.tmp 45]⟩, ⟨[3]⟩⟩⟩, [⟨none, some 50, .load 3 (.tmp 49)⟩, ⟨none, some 55, .load 27 (.tmp 54)⟩]),
  (⟨none, some 47, .binOp .add 9 (.tmp 43) (.tmp 46) 9⟩, []),
  (⟨none, some 48, .binOp .add 9 (.tmp 47) (.const (.string ⟨⟨[32]⟩⟩)) 9⟩, []),
  (⟨none, some 51, .call ⟨.value (.func 52), ⟨[.tmp 50]⟩, ⟨[3]⟩⟩⟩, [⟨none, some 55, .load 27 (.tmp 54)⟩]),
  (⟨none, some 52, .binOp .add 9 (.tmp 48) (.tmp 51) 9⟩, []),
  (⟨none, some 53, .binOp .add 9 (.tmp 52) (.const (.string ⟨⟨[32]⟩⟩)) 9⟩, []),
  (⟨none, some 56, .call ⟨.value (.func 36), ⟨[.tmp 55]⟩, ⟨[27]⟩⟩⟩, []),
  (⟨none, some 57, .binOp .add 9 (.tmp 53) (.tmp 56) 9⟩, []),
  (⟨none, some 58, .buildSlice 46 1 ⟨[(0, .tmp 57)]⟩⟩, []),
  (⟨none, some 59, .call ⟨.builtin .append, ⟨[.tmp 22, .tmp 58]⟩, ⟨[46, 46]⟩⟩⟩, []),
  (⟨none, some 3, .assign (.tmp 59)⟩, [])] fr h Q := Eq.trans rfl rfl
def s33_5 : GC := .plan p33_4
theorem s33_5_w {E : Env} {nt : Nat} {rd : Option Nat} {fr : Fr} {h : Heap} {Q : Ex → Fr → Heap → Prop} : s33_5.wp E nt rd fr h Q = (GC.plan p33_4).wp E nt rd fr h Q := Eq.trans rfl rfl
def r33_6 : List GO := [⟨none, some 17, .move (.tmp 4)⟩,
  ⟨none, some 18, .fieldAddr 44 (.tmp 6) 5⟩,
  ⟨none, some 19, .load 27 (.tmp 18)⟩,
  ⟨none, some 20, .buildSlice 25 1 ⟨[(0, .tmp 19)]⟩⟩,
  ⟨none, some 21, .call ⟨.builtin .append, ⟨[.tmp 17, .tmp 20]⟩, ⟨[25, 25]⟩⟩⟩,
  ⟨none, some 4, .assign (.tmp 21)⟩]
theorem r33_6_w {E : Env} {fr : Fr} {h : Heap} {Q : Fr → Heap → Prop} : opsW E r33_6 fr h Q = opsW E [⟨none, some 17, .move (.tmp 4)⟩,
  ⟨none, some 18, .fieldAddr 44 (.tmp 6) 5⟩,
  ⟨none, some 19, .load 27 (.tmp 18)⟩,
  ⟨none, some 20, .buildSlice 25 1 ⟨[(0, .tmp 19)]⟩⟩,
  ⟨none, some 21, .call ⟨.builtin .append, ⟨[.tmp 17, .tmp 20]⟩, ⟨[25, 25]⟩⟩⟩,
  ⟨none, some 4, .assign (.tmp 21)⟩] fr h Q := Eq.trans rfl rfl
def s33_7 : GC := .seq (.ops r33_6) s33_5
theorem s33_7_w {E : Env} {nt : Nat} {rd : Option Nat} {fr : Fr} {h : Heap} {Q : Ex → Fr → Heap → Prop} : s33_7.wp E nt rd fr h Q = (GC.seq (.ops r33_6) s33_5).wp E nt rd fr h Q := Eq.trans rfl rfl
def r33_8 : List GO := [⟨none, some 13, .move (.tmp 0)⟩,
  ⟨none, some 14, .move (.tmp 5)⟩,
  ⟨none, some 15, .indexAddr 40 (.tmp 13) (.tmp 14)⟩,
  ⟨none, some 16, .load 44 (.tmp 15)⟩,
  ⟨none, some 6, .alloc 44⟩,
  ⟨none, none, .store 44 (.tmp 6) (.tmp 16)⟩]
theorem r33_8_w {E : Env} {fr : Fr} {h : Heap} {Q : Fr → Heap → Prop} : opsW E r33_8 fr h Q = opsW E [⟨none, some 13, .move (.tmp 0)⟩,
  ⟨none, some 14, .move (.tmp 5)⟩,
  ⟨none, some 15, .indexAddr 40 (.tmp 13) (.tmp 14)⟩,
  ⟨none, some 16, .load 44 (.tmp 15)⟩,
  ⟨none, some 6, .alloc 44⟩,
  ⟨none, none, .store 44 (.tmp 6) (.tmp 16)⟩] fr h Q := Eq.trans rfl rfl
def s33_9 : GC := .seq (.ops r33_8) s33_7
theorem s33_9_w {E : Env} {nt : Nat} {rd : Option Nat} {fr : Fr} {h : Heap} {Q : Ex → Fr → Heap → Prop} : s33_9.wp E nt rd fr h Q = (GC.seq (.ops r33_8) s33_7).wp E nt rd fr h Q := Eq.trans rfl rfl
def s33_10 : GC := .seq (.block 1 s33_9) s33_3
theorem s33_10_w {E : Env} {nt : Nat} {rd : Option Nat} {fr : Fr} {h : Heap} {Q : Ex → Fr → Heap → Prop} : s33_10.wp E nt rd fr h Q = (GC.seq (.block 1 s33_9) s33_3).wp E nt rd fr h Q := Eq.trans rfl rfl
def s33_11 : GC := .cond (.tmp 10) .skip (.exit 0)
theorem s33_11_w {E : Env} {nt : Nat} {rd : Option Nat} {fr : Fr} {h : Heap} {Q : Ex → Fr → Heap → Prop} : s33_11.wp E nt rd fr h Q = (GC.cond (.tmp 10) .skip (.exit 0)).wp E nt rd fr h Q := Eq.trans rfl rfl
def r33_12 : List GO := [⟨none, some 7, .move (.tmp 5)⟩,
  ⟨none, some 8, .move (.tmp 0)⟩,
  ⟨none, some 9, .call ⟨.builtin .len, ⟨[.tmp 8]⟩, ⟨[40]⟩⟩⟩,
  ⟨none, some 10, .binOp .lss 3 (.tmp 7) (.tmp 9) 3⟩]
theorem r33_12_w {E : Env} {fr : Fr} {h : Heap} {Q : Fr → Heap → Prop} : opsW E r33_12 fr h Q = opsW E [⟨none, some 7, .move (.tmp 5)⟩,
  ⟨none, some 8, .move (.tmp 0)⟩,
  ⟨none, some 9, .call ⟨.builtin .len, ⟨[.tmp 8]⟩, ⟨[40]⟩⟩⟩,
  ⟨none, some 10, .binOp .lss 3 (.tmp 7) (.tmp 9) 3⟩] fr h Q := Eq.trans rfl rfl
def s33_13 : GC := .seq (.ops r33_12) s33_11
theorem s33_13_w {E : Env} {nt : Nat} {rd : Option Nat} {fr : Fr} {h : Heap} {Q : Ex → Fr → Heap → Prop} : s33_13.wp E nt rd fr h Q = (GC.seq (.ops r33_12) s33_11).wp E nt rd fr h Q := Eq.trans rfl rfl
def s33_14 : GC := .seq (s33_13) s33_10
theorem s33_14_w {E : Env} {nt : Nat} {rd : Option Nat} {fr : Fr} {h : Heap} {Q : Ex → Fr → Heap → Prop} : s33_14.wp E nt rd fr h Q = (GC.seq (s33_13) s33_10).wp E nt rd fr h Q := Eq.trans rfl rfl
def s33_15 : GC := .loop s33_14
theorem s33_15_w {E : Env} {nt : Nat} {rd : Option Nat} {fr : Fr} {h : Heap} {Q : Ex → Fr → Heap → Prop} : s33_15.wp E nt rd fr h Q = (GC.loop s33_14).wp E nt rd fr h Q := Eq.trans rfl rfl
def s33_16 : GC := .block 0 s33_15
theorem s33_16_w {E : Env} {nt : Nat} {rd : Option Nat} {fr : Fr} {h : Heap} {Q : Ex → Fr → Heap → Prop} : s33_16.wp E nt rd fr h Q = (GC.block 0 s33_15).wp E nt rd fr h Q := Eq.trans rfl rfl
def r33_17 : List GO := [⟨none, some 5, .assign (.const (.int .i64 0))⟩]
theorem r33_17_w {E : Env} {fr : Fr} {h : Heap} {Q : Fr → Heap → Prop} : opsW E r33_17 fr h Q = opsW E [⟨none, some 5, .assign (.const (.int .i64 0))⟩] fr h Q := Eq.trans rfl rfl
def s33_18 : GC := .seq (.ops r33_17) s33_16
theorem s33_18_w {E : Env} {nt : Nat} {rd : Option Nat} {fr : Fr} {h : Heap} {Q : Ex → Fr → Heap → Prop} : s33_18.wp E nt rd fr h Q = (GC.seq (.ops r33_17) s33_16).wp E nt rd fr h Q := Eq.trans rfl rfl
def s33_19 : GC := .seq (s33_18) s33_1
theorem s33_19_w {E : Env} {nt : Nat} {rd : Option Nat} {fr : Fr} {h : Heap} {Q : Ex → Fr → Heap → Prop} : s33_19.wp E nt rd fr h Q = (GC.seq (s33_18) s33_1).wp E nt rd fr h Q := Eq.trans rfl rfl
def r33_20 : List GO := [⟨none, some 4, .assign (.const (.slice none 0 0))⟩]
theorem r33_20_w {E : Env} {fr : Fr} {h : Heap} {Q : Fr → Heap → Prop} : opsW E r33_20 fr h Q = opsW E [⟨none, some 4, .assign (.const (.slice none 0 0))⟩] fr h Q := Eq.trans rfl rfl
def s33_21 : GC := .seq (.ops r33_20) s33_19
theorem s33_21_w {E : Env} {nt : Nat} {rd : Option Nat} {fr : Fr} {h : Heap} {Q : Ex → Fr → Heap → Prop} : s33_21.wp E nt rd fr h Q = (GC.seq (.ops r33_20) s33_19).wp E nt rd fr h Q := Eq.trans rfl rfl
def r33_22 : List GO := [⟨none, some 3, .assign (.const (.slice none 0 0))⟩]
theorem r33_22_w {E : Env} {fr : Fr} {h : Heap} {Q : Fr → Heap → Prop} : opsW E r33_22 fr h Q = opsW E [⟨none, some 3, .assign (.const (.slice none 0 0))⟩] fr h Q := Eq.trans rfl rfl
def s33_23 : GC := .seq (.ops r33_22) s33_21
theorem s33_23_w {E : Env} {nt : Nat} {rd : Option Nat} {fr : Fr} {h : Heap} {Q : Ex → Fr → Heap → Prop} : s33_23.wp E nt rd fr h Q = (GC.seq (.ops r33_22) s33_21).wp E nt rd fr h Q := Eq.trans rfl rfl
def r33_24 : List GO := [⟨none, some 2, .assign (.const (.slice none 0 0))⟩]
theorem r33_24_w {E : Env} {fr : Fr} {h : Heap} {Q : Fr → Heap → Prop} : opsW E r33_24 fr h Q = opsW E [⟨none, some 2, .assign (.const (.slice none 0 0))⟩] fr h Q := Eq.trans rfl rfl
def s33_25 : GC := .seq (.ops r33_24) s33_23
theorem s33_25_w {E : Env} {nt : Nat} {rd : Option Nat} {fr : Fr} {h : Heap} {Q : Ex → Fr → Heap → Prop} : s33_25.wp E nt rd fr h Q = (GC.seq (.ops r33_24) s33_23).wp E nt rd fr h Q := Eq.trans rfl rfl
theorem c33 : Tryd.f33.body.bind (clean env 67) = some s33_25 := by kernel_rfl
theorem e33 : env.funs.get 33 = some Tryd.f33 := by kernel_rfl
theorem F33 {args : List Value} {h : Heap} {K : Value → Heap → Prop} (hl : args.length = 1) (w : s33_25.wp env 67 none (setAll args 0 .leaf) h (resK env [.tmp 2] K)) : Ret env (.func 33) args h K :=
  Ret.of_body' rfl e33 c33 rfl rfl (by rw [hl]; decide) w
/-! helmsman/share.Text -/
def r34_0 : List GO := [⟨none, some 57, .move (.tmp 4)⟩,
  ⟨none, some 2, .assign (.tmp 57)⟩]
theorem r34_0_w {E : Env} {fr : Fr} {h : Heap} {Q : Fr → Heap → Prop} : opsW E r34_0 fr h Q = opsW E [⟨none, some 57, .move (.tmp 4)⟩,
  ⟨none, some 2, .assign (.tmp 57)⟩] fr h Q := Eq.trans rfl rfl
def s34_1 : GC := .seq (.ops r34_0) .ret
theorem s34_1_w {E : Env} {nt : Nat} {rd : Option Nat} {fr : Fr} {h : Heap} {Q : Ex → Fr → Heap → Prop} : s34_1.wp E nt rd fr h Q = (GC.seq (.ops r34_0) .ret).wp E nt rd fr h Q := Eq.trans rfl rfl
def r34_2 : List GO := [⟨none, some 43, .move (.tmp 4)⟩,
  ⟨none, some 44, .binOp .add 9 (.tmp 43) (.const (.string ⟨⟨[42, 50, 94]⟩⟩)) 9⟩,
  ⟨none, some 45, .move (.tmp 6)⟩,
  ⟨none, some 46, .call ⟨.value (.func 49), ⟨[.tmp 45]⟩, ⟨[3]⟩⟩⟩,
  ⟨none, some 47, .binOp .add 9 (.tmp 44) (.tmp 46) 9⟩,
  ⟨none, some 2, .assign (.tmp 47)⟩]
theorem r34_2_w {E : Env} {fr : Fr} {h : Heap} {Q : Fr → Heap → Prop} : opsW E r34_2 fr h Q = opsW E [⟨none, some 43, .move (.tmp 4)⟩,
  ⟨none, some 44, .binOp .add 9 (.tmp 43) (.const (.string ⟨⟨[42, 50, 94]⟩⟩)) 9⟩,
  ⟨none, some 45, .move (.tmp 6)⟩,
  ⟨none, some 46, .call ⟨.value (.func 49), ⟨[.tmp 45]⟩, ⟨[3]⟩⟩⟩,
  ⟨none, some 47, .binOp .add 9 (.tmp 44) (.tmp 46) 9⟩,
  ⟨none, some 2, .assign (.tmp 47)⟩] fr h Q := Eq.trans rfl rfl
def s34_3 : GC := .seq (.ops r34_2) .ret
theorem s34_3_w {E : Env} {nt : Nat} {rd : Option Nat} {fr : Fr} {h : Heap} {Q : Ex → Fr → Heap → Prop} : s34_3.wp E nt rd fr h Q = (GC.seq (.ops r34_2) .ret).wp E nt rd fr h Q := Eq.trans rfl rfl
def r34_4 : List GO := [⟨none, some 51, .move (.tmp 4)⟩,
  ⟨none, some 52, .binOp .add 9 (.tmp 51) (.const (.string ⟨⟨[47, 50, 94]⟩⟩)) 9⟩,
  ⟨none, some 53, .move (.tmp 6)⟩,
  ⟨none, some 54, .unOp .neg 3 (.tmp 53)⟩,
  ⟨none, some 55, .call ⟨.value (.func 49), ⟨[.tmp 54]⟩, ⟨[3]⟩⟩⟩,
  ⟨none, some 56, .binOp .add 9 (.tmp 52) (.tmp 55) 9⟩,
  ⟨none, some 2, .assign (.tmp 56)⟩]
theorem r34_4_w {E : Env} {fr : Fr} {h : Heap} {Q : Fr → Heap → Prop} : opsW E r34_4 fr h Q = opsW E [⟨none, some 51, .move (.tmp 4)⟩,
  ⟨none, some 52, .binOp .add 9 (.tmp 51) (.const (.string ⟨⟨[47, 50, 94]⟩⟩)) 9⟩,
  ⟨none, some 53, .move (.tmp 6)⟩,
  ⟨none, some 54, .unOp .neg 3 (.tmp 53)⟩,
  ⟨none, some 55, .call ⟨.value (.func 49), ⟨[.tmp 54]⟩, ⟨[3]⟩⟩⟩,
  ⟨none, some 56, .binOp .add 9 (.tmp 52) (.tmp 55) 9⟩,
  ⟨none, some 2, .assign (.tmp 56)⟩] fr h Q := Eq.trans rfl rfl
def s34_5 : GC := .seq (.ops r34_4) .ret
theorem s34_5_w {E : Env} {nt : Nat} {rd : Option Nat} {fr : Fr} {h : Heap} {Q : Ex → Fr → Heap → Prop} : s34_5.wp E nt rd fr h Q = (GC.seq (.ops r34_4) .ret).wp E nt rd fr h Q := Eq.trans rfl rfl
def s34_6 : GC := .cond (.tmp 48) s34_5 .skip
theorem s34_6_w {E : Env} {nt : Nat} {rd : Option Nat} {fr : Fr} {h : Heap} {Q : Ex → Fr → Heap → Prop} : s34_6.wp E nt rd fr h Q = (GC.cond (.tmp 48) s34_5 .skip).wp E nt rd fr h Q := Eq.trans rfl rfl
def r34_7 : List GO := [⟨none, some 49, .move (.tmp 6)⟩,
  ⟨none, some 50, .binOp .lss 3 (.tmp 49) (.const (.int .i64 0)) 3⟩,
  ⟨none, some 48, .assign (.tmp 50)⟩]
theorem r34_7_w {E : Env} {fr : Fr} {h : Heap} {Q : Fr → Heap → Prop} : opsW E r34_7 fr h Q = opsW E [⟨none, some 49, .move (.tmp 6)⟩,
  ⟨none, some 50, .binOp .lss 3 (.tmp 49) (.const (.int .i64 0)) 3⟩,
  ⟨none, some 48, .assign (.tmp 50)⟩] fr h Q := Eq.trans rfl rfl
def s34_8 : GC := .seq (.ops r34_7) s34_6
theorem s34_8_w {E : Env} {nt : Nat} {rd : Option Nat} {fr : Fr} {h : Heap} {Q : Ex → Fr → Heap → Prop} : s34_8.wp E nt rd fr h Q = (GC.seq (.ops r34_7) s34_6).wp E nt rd fr h Q := Eq.trans rfl rfl
def s34_9 : GC := .cond (.tmp 40) s34_3 s34_8
theorem s34_9_w {E : Env} {nt : Nat} {rd : Option Nat} {fr : Fr} {h : Heap} {Q : Ex → Fr → Heap → Prop} : s34_9.wp E nt rd fr h Q = (GC.cond (.tmp 40) s34_3 s34_8).wp E nt rd fr h Q := Eq.trans rfl rfl
def r34_10 : List GO := [⟨none, some 41, .move (.tmp 6)⟩,
  ⟨none, some 42, .binOp .gtr 3 (.tmp 41) (.const (.int .i64 0)) 3⟩,
  ⟨none, some 40, .assign (.tmp 42)⟩]
theorem r34_10_w {E : Env} {fr : Fr} {h : Heap} {Q : Fr → Heap → Prop} : opsW E r34_10 fr h Q = opsW E [⟨none, some 41, .move (.tmp 6)⟩,
  ⟨none, some 42, .binOp .gtr 3 (.tmp 41) (.const (.int .i64 0)) 3⟩,
  ⟨none, some 40, .assign (.tmp 42)⟩] fr h Q := Eq.trans rfl rfl
def s34_11 : GC := .seq (.ops r34_10) s34_9
theorem s34_11_w {E : Env} {nt : Nat} {rd : Option Nat} {fr : Fr} {h : Heap} {Q : Ex → Fr → Heap → Prop} : s34_11.wp E nt rd fr h Q = (GC.seq (.ops r34_10) s34_9).wp E nt rd fr h Q := Eq.trans rfl rfl
def s34_12 : GC := .seq (.block 0 s34_11) s34_1
theorem s34_12_w {E : Env} {nt : Nat} {rd : Option Nat} {fr : Fr} {h : Heap} {Q : Ex → Fr → Heap → Prop} : s34_12.wp E nt rd fr h Q = (GC.seq (.block 0 s34_11) s34_1).wp E nt rd fr h Q := Eq.trans rfl rfl
def r34_13 : List GO := [⟨none, some 34, .move (.tmp 4)⟩,
  ⟨none, some 35, .move (.tmp 5)⟩,
  ⟨none, some 36, .move (.tmp 7)⟩,
  ⟨none, some 37, .binOp .shr 23 (.tmp 35) (.tmp 36) 3⟩,
  ⟨none, some 38, .call ⟨.value (.func 50), ⟨[.tmp 37, .const (.int .i64 10)]⟩, ⟨[23, 3]⟩⟩⟩,
  ⟨none, some 39, .binOp .add 9 (.tmp 34) (.tmp 38) 9⟩,
  ⟨none, some 4, .assign (.tmp 39)⟩]
theorem r34_13_w {E : Env} {fr : Fr} {h : Heap} {Q : Fr → Heap → Prop} : opsW E r34_13 fr h Q = opsW E [⟨none, some 34, .move (.tmp 4)⟩,
  ⟨none, some 35, .move (.tmp 5)⟩,
  ⟨none, some 36, .move (.tmp 7)⟩,
  ⟨none, some 37, .binOp .shr 23 (.tmp 35) (.tmp 36) 3⟩,
  ⟨none, some 38, .call ⟨.value (.func 50), ⟨[.tmp 37, .const (.int .i64 10)]⟩, ⟨[23, 3]⟩⟩⟩,
  ⟨none, some 39, .binOp .add 9 (.tmp 34) (.tmp 38) 9⟩,
  ⟨none, some 4, .assign (.tmp 39)⟩] fr h Q := Eq.trans rfl rfl
def s34_14 : GC := .seq (.ops r34_13) s34_12
theorem s34_14_w {E : Env} {nt : Nat} {rd : Option Nat} {fr : Fr} {h : Heap} {Q : Ex → Fr → Heap → Prop} : s34_14.wp E nt rd fr h Q = (GC.seq (.ops r34_13) s34_12).wp E nt rd fr h Q := Eq.trans rfl rfl
def r34_15 : List GO := [⟨none, some 31, .move (.tmp 6)⟩,
  ⟨none, some 32, .move (.tmp 7)⟩,
  ⟨none, some 33, .binOp .add 3 (.tmp 31) (.tmp 32) 3⟩,
  ⟨none, some 6, .assign (.tmp 33)⟩]
theorem r34_15_w {E : Env} {fr : Fr} {h : Heap} {Q : Fr → Heap → Prop} : opsW E r34_15 fr h Q = opsW E [⟨none, some 31, .move (.tmp 6)⟩,
  ⟨none, some 32, .move (.tmp 7)⟩,
  ⟨none, some 33, .binOp .add 3 (.tmp 31) (.tmp 32) 3⟩,
  ⟨none, some 6, .assign (.tmp 33)⟩] fr h Q := Eq.trans rfl rfl
def s34_16 : GC := .seq (.ops r34_15) s34_14
theorem s34_16_w {E : Env} {nt : Nat} {rd : Option Nat} {fr : Fr} {h : Heap} {Q : Ex → Fr → Heap → Prop} : s34_16.wp E nt rd fr h Q = (GC.seq (.ops r34_15) s34_14).wp E nt rd fr h Q := Eq.trans rfl rfl
def r34_17 : List GO := [⟨none, some 29, .move (.tmp 5)⟩,
  ⟨none, some 30, .call ⟨.value (.func 55), ⟨[.tmp 29]⟩, ⟨[23]⟩⟩⟩,
  ⟨none, some 7, .assign (.tmp 30)⟩]
theorem r34_17_w {E : Env} {fr : Fr} {h : Heap} {Q : Fr → Heap → Prop} : opsW E r34_17 fr h Q = opsW E [⟨none, some 29, .move (.tmp 5)⟩,
  ⟨none, some 30, .call ⟨.value (.func 55), ⟨[.tmp 29]⟩, ⟨[23]⟩⟩⟩,
  ⟨none, some 7, .assign (.tmp 30)⟩] fr h Q := Eq.trans rfl rfl
def s34_18 : GC := .seq (.ops r34_17) s34_16
theorem s34_18_w {E : Env} {nt : Nat} {rd : Option Nat} {fr : Fr} {h : Heap} {Q : Ex → Fr → Heap → Prop} : s34_18.wp E nt rd fr h Q = (GC.seq (.ops r34_17) s34_16).wp E nt rd fr h Q := Eq.trans rfl rfl
def r34_19 : List GO := [⟨none, some 26, .move (.tmp 5)⟩,
  ⟨none, some 27, .binOp .and 23 (.tmp 26) (.const (.int .u64 4503599627370495)) 23⟩,
  ⟨none, some 28, .binOp .or 23 (.tmp 27) (.const (.int .u64 4503599627370496)) 23⟩,
  ⟨none, some 5, .assign (.tmp 28)⟩]
theorem r34_19_w {E : Env} {fr : Fr} {h : Heap} {Q : Fr → Heap → Prop} : opsW E r34_19 fr h Q = opsW E [⟨none, some 26, .move (.tmp 5)⟩,
  ⟨none, some 27, .binOp .and 23 (.tmp 26) (.const (.int .u64 4503599627370495)) 23⟩,
  ⟨none, some 28, .binOp .or 23 (.tmp 27) (.const (.int .u64 4503599627370496)) 23⟩,
  ⟨none, some 5, .assign (.tmp 28)⟩] fr h Q := Eq.trans rfl rfl
def s34_20 : GC := .ops r34_19
theorem s34_20_w {E : Env} {nt : Nat} {rd : Option Nat} {fr : Fr} {h : Heap} {Q : Ex → Fr → Heap → Prop} : s34_20.wp E nt rd fr h Q = (GC.ops r34_19).wp E nt rd fr h Q := Eq.trans rfl rfl
def s34_21 : GC := .cond (.tmp 25) s34_20 .skip
theorem s34_21_w {E : Env} {nt : Nat} {rd : Option Nat} {fr : Fr} {h : Heap} {Q : Ex → Fr → Heap → Prop} : s34_21.wp E nt rd fr h Q = (GC.cond (.tmp 25) s34_20 .skip).wp E nt rd fr h Q := Eq.trans rfl rfl
def r34_22 : List GO := [⟨none, some 24, .move (.tmp 5)⟩,
  ⟨none, some 25, .binOp .geq 23 (.tmp 24) (.const (.int .u64 4503599627370496)) 23⟩]
theorem r34_22_w {E : Env} {fr : Fr} {h : Heap} {Q : Fr → Heap → Prop} : opsW E r34_22 fr h Q = opsW E [⟨none, some 24, .move (.tmp 5)⟩,
  ⟨none, some 25, .binOp .geq 23 (.tmp 24) (.const (.int .u64 4503599627370496)) 23⟩] fr h Q := Eq.trans rfl rfl
def s34_23 : GC := .seq (.ops r34_22) s34_21
theorem s34_23_w {E : Env} {nt : Nat} {rd : Option Nat} {fr : Fr} {h : Heap} {Q : Ex → Fr → Heap → Prop} : s34_23.wp E nt rd fr h Q = (GC.seq (.ops r34_22) s34_21).wp E nt rd fr h Q := Eq.trans rfl rfl
def s34_24 : GC := .seq (s34_23) s34_18
theorem s34_24_w {E : Env} {nt : Nat} {rd : Option Nat} {fr : Fr} {h : Heap} {Q : Ex → Fr → Heap → Prop} : s34_24.wp E nt rd fr h Q = (GC.seq (s34_23) s34_18).wp E nt rd fr h Q := Eq.trans rfl rfl
def r34_25 : List GO := [⟨none, some 19, .move (.tmp 5)⟩,
  ⟨none, some 20, .binOp .shr 23 (.tmp 19) (.const (.int .u64 52)) 69⟩,
  ⟨none, some 21, .convert 23 3 (.tmp 20)⟩,
  ⟨none, some 22, .call ⟨.builtin .max, ⟨[.tmp 21, .const (.int .i64 1)]⟩, ⟨[3, 3]⟩⟩⟩,
  ⟨none, some 23, .binOp .sub 3 (.tmp 22) (.const (.int .i64 1075)) 3⟩,
  ⟨none, some 6, .assign (.tmp 23)⟩]
theorem r34_25_w {E : Env} {fr : Fr} {h : Heap} {Q : Fr → Heap → Prop} : opsW E r34_25 fr h Q = opsW E [⟨none, some 19, .move (.tmp 5)⟩,
  ⟨none, some 20, .binOp .shr 23 (.tmp 19) (.const (.int .u64 52)) 69⟩,
  ⟨none, some 21, .convert 23 3 (.tmp 20)⟩,
  ⟨none, some 22, .call ⟨.builtin .max, ⟨[.tmp 21, .const (.int .i64 1)]⟩, ⟨[3, 3]⟩⟩⟩,
  ⟨none, some 23, .binOp .sub 3 (.tmp 22) (.const (.int .i64 1075)) 3⟩,
  ⟨none, some 6, .assign (.tmp 23)⟩] fr h Q := Eq.trans rfl rfl
def s34_26 : GC := .seq (.ops r34_25) s34_24
theorem s34_26_w {E : Env} {nt : Nat} {rd : Option Nat} {fr : Fr} {h : Heap} {Q : Ex → Fr → Heap → Prop} : s34_26.wp E nt rd fr h Q = (GC.seq (.ops r34_25) s34_24).wp E nt rd fr h Q := Eq.trans rfl rfl
def r34_27 : List GO := [⟨none, some 17, .move (.tmp 0)⟩,
  ⟨none, some 18, .call ⟨.value (.func 18), ⟨[.tmp 17]⟩, ⟨[27]⟩⟩⟩,
  ⟨none, some 5, .assign (.tmp 18)⟩]
theorem r34_27_w {E : Env} {fr : Fr} {h : Heap} {Q : Fr → Heap → Prop} : opsW E r34_27 fr h Q = opsW E [⟨none, some 17, .move (.tmp 0)⟩,
  ⟨none, some 18, .call ⟨.value (.func 18), ⟨[.tmp 17]⟩, ⟨[27]⟩⟩⟩,
  ⟨none, some 5, .assign (.tmp 18)⟩] fr h Q := Eq.trans rfl rfl
def s34_28 : GC := .seq (.ops r34_27) s34_26
theorem s34_28_w {E : Env} {nt : Nat} {rd : Option Nat} {fr : Fr} {h : Heap} {Q : Ex → Fr → Heap → Prop} : s34_28.wp E nt rd fr h Q = (GC.seq (.ops r34_27) s34_26).wp E nt rd fr h Q := Eq.trans rfl rfl
def r34_29 : List GO := [⟨none, some 15, .move (.tmp 0)⟩,
  ⟨none, some 16, .unOp .neg 27 (.tmp 15)⟩,
  ⟨none, some 4, .assign (.const (.string ⟨⟨[45]⟩⟩))⟩,
  ⟨none, some 0, .assign (.tmp 16)⟩]
theorem r34_29_w {E : Env} {fr : Fr} {h : Heap} {Q : Fr → Heap → Prop} : opsW E r34_29 fr h Q = opsW E [⟨none, some 15, .move (.tmp 0)⟩,
  ⟨none, some 16, .unOp .neg 27 (.tmp 15)⟩,
  ⟨none, some 4, .assign (.const (.string ⟨⟨[45]⟩⟩))⟩,
  ⟨none, some 0, .assign (.tmp 16)⟩] fr h Q := Eq.trans rfl rfl
def s34_30 : GC := .ops r34_29
theorem s34_30_w {E : Env} {nt : Nat} {rd : Option Nat} {fr : Fr} {h : Heap} {Q : Ex → Fr → Heap → Prop} : s34_30.wp E nt rd fr h Q = (GC.ops r34_29).wp E nt rd fr h Q := Eq.trans rfl rfl
def s34_31 : GC := .cond (.tmp 14) s34_30 .skip
theorem s34_31_w {E : Env} {nt : Nat} {rd : Option Nat} {fr : Fr} {h : Heap} {Q : Ex → Fr → Heap → Prop} : s34_31.wp E nt rd fr h Q = (GC.cond (.tmp 14) s34_30 .skip).wp E nt rd fr h Q := Eq.trans rfl rfl
def r34_32 : List GO := [⟨none, some 13, .move (.tmp 0)⟩,
  ⟨none, some 14, .binOp .lss 27 (.tmp 13) (.const (.float .f64 0)) 27⟩]
theorem r34_32_w {E : Env} {fr : Fr} {h : Heap} {Q : Fr → Heap → Prop} : opsW E r34_32 fr h Q = opsW E [⟨none, some 13, .move (.tmp 0)⟩,
  ⟨none, some 14, .binOp .lss 27 (.tmp 13) (.const (.float .f64 0)) 27⟩] fr h Q := Eq.trans rfl rfl
def s34_33 : GC := .seq (.ops r34_32) s34_31
theorem s34_33_w {E : Env} {nt : Nat} {rd : Option Nat} {fr : Fr} {h : Heap} {Q : Ex → Fr → Heap → Prop} : s34_33.wp E nt rd fr h Q = (GC.seq (.ops r34_32) s34_31).wp E nt rd fr h Q := Eq.trans rfl rfl
def s34_34 : GC := .seq (s34_33) s34_28
theorem s34_34_w {E : Env} {nt : Nat} {rd : Option Nat} {fr : Fr} {h : Heap} {Q : Ex → Fr → Heap → Prop} : s34_34.wp E nt rd fr h Q = (GC.seq (s34_33) s34_28).wp E nt rd fr h Q := Eq.trans rfl rfl
def r34_35 : List GO := [⟨none, some 4, .assign (.const (.string ⟨⟨[]⟩⟩))⟩]
theorem r34_35_w {E : Env} {fr : Fr} {h : Heap} {Q : Fr → Heap → Prop} : opsW E r34_35 fr h Q = opsW E [⟨none, some 4, .assign (.const (.string ⟨⟨[]⟩⟩))⟩] fr h Q := Eq.trans rfl rfl
def s34_36 : GC := .seq (.ops r34_35) s34_34
theorem s34_36_w {E : Env} {nt : Nat} {rd : Option Nat} {fr : Fr} {h : Heap} {Q : Ex → Fr → Heap → Prop} : s34_36.wp E nt rd fr h Q = (GC.seq (.ops r34_35) s34_34).wp E nt rd fr h Q := Eq.trans rfl rfl
def r34_37 : List GO := [⟨none, some 12, .move (.tmp 3)⟩,
  ⟨none, some 2, .assign (.tmp 12)⟩]
theorem r34_37_w {E : Env} {fr : Fr} {h : Heap} {Q : Fr → Heap → Prop} : opsW E r34_37 fr h Q = opsW E [⟨none, some 12, .move (.tmp 3)⟩,
  ⟨none, some 2, .assign (.tmp 12)⟩] fr h Q := Eq.trans rfl rfl
def s34_38 : GC := .seq (.ops r34_37) .ret
theorem s34_38_w {E : Env} {nt : Nat} {rd : Option Nat} {fr : Fr} {h : Heap} {Q : Ex → Fr → Heap → Prop} : s34_38.wp E nt rd fr h Q = (GC.seq (.ops r34_37) .ret).wp E nt rd fr h Q := Eq.trans rfl rfl
def s34_39 : GC := .cond (.tmp 11) s34_38 .skip
theorem s34_39_w {E : Env} {nt : Nat} {rd : Option Nat} {fr : Fr} {h : Heap} {Q : Ex → Fr → Heap → Prop} : s34_39.wp E nt rd fr h Q = (GC.cond (.tmp 11) s34_38 .skip).wp E nt rd fr h Q := Eq.trans rfl rfl
def r34_40 : List GO := [⟨none, some 10, .move (.tmp 3)⟩,
  ⟨none, some 11, .binOp .neq 9 (.tmp 10) (.const (.string ⟨⟨[]⟩⟩)) 9⟩]
theorem r34_40_w {E : Env} {fr : Fr} {h : Heap} {Q : Fr → Heap → Prop} : opsW E r34_40 fr h Q = opsW E [⟨none, some 10, .move (.tmp 3)⟩,
  ⟨none, some 11, .binOp .neq 9 (.tmp 10) (.const (.string ⟨⟨[]⟩⟩)) 9⟩] fr h Q := Eq.trans rfl rfl
def s34_41 : GC := .seq (.ops r34_40) s34_39
theorem s34_41_w {E : Env} {nt : Nat} {rd : Option Nat} {fr : Fr} {h : Heap} {Q : Ex → Fr → Heap → Prop} : s34_41.wp E nt rd fr h Q = (GC.seq (.ops r34_40) s34_39).wp E nt rd fr h Q := Eq.trans rfl rfl
def r34_42 : List GO := [⟨none, some 8, .move (.tmp 0)⟩,
  ⟨none, some 9, .call ⟨.value (.func 54), ⟨[.tmp 8]⟩, ⟨[27]⟩⟩⟩,
  ⟨none, some 3, .assign (.tmp 9)⟩]
theorem r34_42_w {E : Env} {fr : Fr} {h : Heap} {Q : Fr → Heap → Prop} : opsW E r34_42 fr h Q = opsW E [⟨none, some 8, .move (.tmp 0)⟩,
  ⟨none, some 9, .call ⟨.value (.func 54), ⟨[.tmp 8]⟩, ⟨[27]⟩⟩⟩,
  ⟨none, some 3, .assign (.tmp 9)⟩] fr h Q := Eq.trans rfl rfl
def s34_43 : GC := .seq (.ops r34_42) s34_41
theorem s34_43_w {E : Env} {nt : Nat} {rd : Option Nat} {fr : Fr} {h : Heap} {Q : Ex → Fr → Heap → Prop} : s34_43.wp E nt rd fr h Q = (GC.seq (.ops r34_42) s34_41).wp E nt rd fr h Q := Eq.trans rfl rfl
def s34_44 : GC := .seq (s34_43) s34_36
theorem s34_44_w {E : Env} {nt : Nat} {rd : Option Nat} {fr : Fr} {h : Heap} {Q : Ex → Fr → Heap → Prop} : s34_44.wp E nt rd fr h Q = (GC.seq (s34_43) s34_36).wp E nt rd fr h Q := Eq.trans rfl rfl
def r34_45 : List GO := [⟨none, some 2, .assign (.const (.string ⟨⟨[]⟩⟩))⟩]
theorem r34_45_w {E : Env} {fr : Fr} {h : Heap} {Q : Fr → Heap → Prop} : opsW E r34_45 fr h Q = opsW E [⟨none, some 2, .assign (.const (.string ⟨⟨[]⟩⟩))⟩] fr h Q := Eq.trans rfl rfl
def s34_46 : GC := .seq (.ops r34_45) s34_44
theorem s34_46_w {E : Env} {nt : Nat} {rd : Option Nat} {fr : Fr} {h : Heap} {Q : Ex → Fr → Heap → Prop} : s34_46.wp E nt rd fr h Q = (GC.seq (.ops r34_45) s34_44).wp E nt rd fr h Q := Eq.trans rfl rfl
theorem c34 : Tryd.f34.body.bind (clean env 58) = some s34_46 := by kernel_rfl
theorem e34 : env.funs.get 34 = some Tryd.f34 := by kernel_rfl
theorem F34 {args : List Value} {h : Heap} {K : Value → Heap → Prop} (hl : args.length = 1) (w : s34_46.wp env 58 none (setAll args 0 .leaf) h (resK env [.tmp 2] K)) : Ret env (.func 34) args h K :=
  Ret.of_body' rfl e34 c34 rfl rfl (by rw [hl]; decide) w
/-! helmsman/helmsmanref31.Text -/
def r36_0 : List GO := [⟨none, some 67, .move (.tmp 6)⟩,
  ⟨none, some 2, .assign (.tmp 67)⟩]
theorem r36_0_w {E : Env} {fr : Fr} {h : Heap} {Q : Fr → Heap → Prop} : opsW E r36_0 fr h Q = opsW E [⟨none, some 67, .move (.tmp 6)⟩,
  ⟨none, some 2, .assign (.tmp 67)⟩] fr h Q := Eq.trans rfl rfl
def s36_1 : GC := .seq (.ops r36_0) .ret
theorem s36_1_w {E : Env} {nt : Nat} {rd : Option Nat} {fr : Fr} {h : Heap} {Q : Ex → Fr → Heap → Prop} : s36_1.wp E nt rd fr h Q = (GC.seq (.ops r36_0) .ret).wp E nt rd fr h Q := Eq.trans rfl rfl
def r36_2 : List GO := [⟨none, some 61, .move (.tmp 6)⟩,
  ⟨none, some 62, .binOp .add 9 (.tmp 61) (.const (.string ⟨⟨[47, 50, 94]⟩⟩)) 9⟩,
  ⟨none, some 63, .move (.tmp 8)⟩,
  ⟨none, some 64, .unOp .neg 3 (.tmp 63)⟩,
  ⟨none, some 65, .call ⟨.value (.func 52), ⟨[.tmp 64]⟩, ⟨[3]⟩⟩⟩,
  ⟨none, some 66, .binOp .add 9 (.tmp 62) (.tmp 65) 9⟩,
  ⟨none, some 2, .assign (.tmp 66)⟩]
theorem r36_2_w {E : Env} {fr : Fr} {h : Heap} {Q : Fr → Heap → Prop} : opsW E r36_2 fr h Q = opsW E [⟨none, some 61, .move (.tmp 6)⟩,
  ⟨none, some 62, .binOp .add 9 (.tmp 61) (.const (.string ⟨⟨[47, 50, 94]⟩⟩)) 9⟩,
  ⟨none, some 63, .move (.tmp 8)⟩,
  ⟨none, some 64, .unOp .neg 3 (.tmp 63)⟩,
  ⟨none, some 65, .call ⟨.value (.func 52), ⟨[.tmp 64]⟩, ⟨[3]⟩⟩⟩,
  ⟨none, some 66, .binOp .add 9 (.tmp 62) (.tmp 65) 9⟩,
  ⟨none, some 2, .assign (.tmp 66)⟩] fr h Q := Eq.trans rfl rfl
def s36_3 : GC := .seq (.ops r36_2) .ret
theorem s36_3_w {E : Env} {nt : Nat} {rd : Option Nat} {fr : Fr} {h : Heap} {Q : Ex → Fr → Heap → Prop} : s36_3.wp E nt rd fr h Q = (GC.seq (.ops r36_2) .ret).wp E nt rd fr h Q := Eq.trans rfl rfl
def s36_4 : GC := .cond (.tmp 60) s36_3 .skip
theorem s36_4_w {E : Env} {nt : Nat} {rd : Option Nat} {fr : Fr} {h : Heap} {Q : Ex → Fr → Heap → Prop} : s36_4.wp E nt rd fr h Q = (GC.cond (.tmp 60) s36_3 .skip).wp E nt rd fr h Q := Eq.trans rfl rfl
def r36_5 : List GO := [⟨none, some 59, .move (.tmp 8)⟩,
  ⟨none, some 60, .binOp .lss 3 (.tmp 59) (.const (.int .i64 0)) 3⟩]
theorem r36_5_w {E : Env} {fr : Fr} {h : Heap} {Q : Fr → Heap → Prop} : opsW E r36_5 fr h Q = opsW E [⟨none, some 59, .move (.tmp 8)⟩,
  ⟨none, some 60, .binOp .lss 3 (.tmp 59) (.const (.int .i64 0)) 3⟩] fr h Q := Eq.trans rfl rfl
def s36_6 : GC := .seq (.ops r36_5) s36_4
theorem s36_6_w {E : Env} {nt : Nat} {rd : Option Nat} {fr : Fr} {h : Heap} {Q : Ex → Fr → Heap → Prop} : s36_6.wp E nt rd fr h Q = (GC.seq (.ops r36_5) s36_4).wp E nt rd fr h Q := Eq.trans rfl rfl
def s36_7 : GC := .seq (s36_6) s36_1
theorem s36_7_w {E : Env} {nt : Nat} {rd : Option Nat} {fr : Fr} {h : Heap} {Q : Ex → Fr → Heap → Prop} : s36_7.wp E nt rd fr h Q = (GC.seq (s36_6) s36_1).wp E nt rd fr h Q := Eq.trans rfl rfl
def r36_8 : List GO := [⟨none, some 54, .move (.tmp 6)⟩,
  ⟨none, some 55, .binOp .add 9 (.tmp 54) (.const (.string ⟨⟨[42, 50, 94]⟩⟩)) 9⟩,
  ⟨none, some 56, .move (.tmp 8)⟩,
  ⟨none, some 57, .call ⟨.value (.func 52), ⟨[.tmp 56]⟩, ⟨[3]⟩⟩⟩,
  ⟨none, some 58, .binOp .add 9 (.tmp 55) (.tmp 57) 9⟩,
  ⟨none, some 2, .assign (.tmp 58)⟩]
theorem r36_8_w {E : Env} {fr : Fr} {h : Heap} {Q : Fr → Heap → Prop} : opsW E r36_8 fr h Q = opsW E [⟨none, some 54, .move (.tmp 6)⟩,
  ⟨none, some 55, .binOp .add 9 (.tmp 54) (.const (.string ⟨⟨[42, 50, 94]⟩⟩)) 9⟩,
  ⟨none, some 56, .move (.tmp 8)⟩,
  ⟨none, some 57, .call ⟨.value (.func 52), ⟨[.tmp 56]⟩, ⟨[3]⟩⟩⟩,
  ⟨none, some 58, .binOp .add 9 (.tmp 55) (.tmp 57) 9⟩,
  ⟨none, some 2, .assign (.tmp 58)⟩] fr h Q := Eq.trans rfl rfl
def s36_9 : GC := .seq (.ops r36_8) .ret
theorem s36_9_w {E : Env} {nt : Nat} {rd : Option Nat} {fr : Fr} {h : Heap} {Q : Ex → Fr → Heap → Prop} : s36_9.wp E nt rd fr h Q = (GC.seq (.ops r36_8) .ret).wp E nt rd fr h Q := Eq.trans rfl rfl
def s36_10 : GC := .cond (.tmp 53) s36_9 .skip
theorem s36_10_w {E : Env} {nt : Nat} {rd : Option Nat} {fr : Fr} {h : Heap} {Q : Ex → Fr → Heap → Prop} : s36_10.wp E nt rd fr h Q = (GC.cond (.tmp 53) s36_9 .skip).wp E nt rd fr h Q := Eq.trans rfl rfl
def r36_11 : List GO := [⟨none, some 52, .move (.tmp 8)⟩,
  ⟨none, some 53, .binOp .gtr 3 (.tmp 52) (.const (.int .i64 0)) 3⟩]
theorem r36_11_w {E : Env} {fr : Fr} {h : Heap} {Q : Fr → Heap → Prop} : opsW E r36_11 fr h Q = opsW E [⟨none, some 52, .move (.tmp 8)⟩,
  ⟨none, some 53, .binOp .gtr 3 (.tmp 52) (.const (.int .i64 0)) 3⟩] fr h Q := Eq.trans rfl rfl
def s36_12 : GC := .seq (.ops r36_11) s36_10
theorem s36_12_w {E : Env} {nt : Nat} {rd : Option Nat} {fr : Fr} {h : Heap} {Q : Ex → Fr → Heap → Prop} : s36_12.wp E nt rd fr h Q = (GC.seq (.ops r36_11) s36_10).wp E nt rd fr h Q := Eq.trans rfl rfl
def s36_13 : GC := .seq (s36_12) s36_7
theorem s36_13_w {E : Env} {nt : Nat} {rd : Option Nat} {fr : Fr} {h : Heap} {Q : Ex → Fr → Heap → Prop} : s36_13.wp E nt rd fr h Q = (GC.seq (s36_12) s36_7).wp E nt rd fr h Q := Eq.trans rfl rfl
def r36_14 : List GO := [⟨none, some 48, .move (.tmp 6)⟩,
  ⟨none, some 49, .move (.tmp 7)⟩,
  ⟨none, some 50, .call ⟨.value (.func 53), ⟨[.tmp 49]⟩, ⟨[23]⟩⟩⟩,
  ⟨none, some 51, .binOp .add 9 (.tmp 48) (.tmp 50) 9⟩,
  ⟨none, some 6, .assign (.tmp 51)⟩]
theorem r36_14_w {E : Env} {fr : Fr} {h : Heap} {Q : Fr → Heap → Prop} : opsW E r36_14 fr h Q = opsW E [⟨none, some 48, .move (.tmp 6)⟩,
  ⟨none, some 49, .move (.tmp 7)⟩,
  ⟨none, some 50, .call ⟨.value (.func 53), ⟨[.tmp 49]⟩, ⟨[23]⟩⟩⟩,
  ⟨none, some 51, .binOp .add 9 (.tmp 48) (.tmp 50) 9⟩,
  ⟨none, some 6, .assign (.tmp 51)⟩] fr h Q := Eq.trans rfl rfl
def s36_15 : GC := .seq (.ops r36_14) s36_13
theorem s36_15_w {E : Env} {nt : Nat} {rd : Option Nat} {fr : Fr} {h : Heap} {Q : Ex → Fr → Heap → Prop} : s36_15.wp E nt rd fr h Q = (GC.seq (.ops r36_14) s36_13).wp E nt rd fr h Q := Eq.trans rfl rfl
def r36_16 : List GO := [⟨none, some 46, .move (.tmp 8)⟩,
  ⟨none, some 47, .binOp .add 3 (.tmp 46) (.const (.int .i64 1)) 3⟩,
  ⟨none, some 8, .assign (.tmp 47)⟩]
theorem r36_16_w {E : Env} {fr : Fr} {h : Heap} {Q : Fr → Heap → Prop} : opsW E r36_16 fr h Q = opsW E [⟨none, some 46, .move (.tmp 8)⟩,
  ⟨none, some 47, .binOp .add 3 (.tmp 46) (.const (.int .i64 1)) 3⟩,
  ⟨none, some 8, .assign (.tmp 47)⟩] fr h Q := Eq.trans rfl rfl
def s36_17 : GC := .ops r36_16
theorem s36_17_w {E : Env} {nt : Nat} {rd : Option Nat} {fr : Fr} {h : Heap} {Q : Ex → Fr → Heap → Prop} : s36_17.wp E nt rd fr h Q = (GC.ops r36_16).wp E nt rd fr h Q := Eq.trans rfl rfl
def r36_18 : List GO := [⟨none, some 44, .move (.tmp 7)⟩,
  ⟨none, some 45, .binOp .quo 23 (.tmp 44) (.const (.int .u64 2)) 23⟩,
  ⟨none, some 7, .assign (.tmp 45)⟩]
theorem r36_18_w {E : Env} {fr : Fr} {h : Heap} {Q : Fr → Heap → Prop} : opsW E r36_18 fr h Q = opsW E [⟨none, some 44, .move (.tmp 7)⟩,
  ⟨none, some 45, .binOp .quo 23 (.tmp 44) (.const (.int .u64 2)) 23⟩,
  ⟨none, some 7, .assign (.tmp 45)⟩] fr h Q := Eq.trans rfl rfl
def s36_19 : GC := .seq (.ops r36_18) s36_17
theorem s36_19_w {E : Env} {nt : Nat} {rd : Option Nat} {fr : Fr} {h : Heap} {Q : Ex → Fr → Heap → Prop} : s36_19.wp E nt rd fr h Q = (GC.seq (.ops r36_18) s36_17).wp E nt rd fr h Q := Eq.trans rfl rfl
def s36_20 : GC := .block 1 s36_19
theorem s36_20_w {E : Env} {nt : Nat} {rd : Option Nat} {fr : Fr} {h : Heap} {Q : Ex → Fr → Heap → Prop} : s36_20.wp E nt rd fr h Q = (GC.block 1 s36_19).wp E nt rd fr h Q := Eq.trans rfl rfl
def s36_21 : GC := .cond (.tmp 43) .skip (.exit 0)
theorem s36_21_w {E : Env} {nt : Nat} {rd : Option Nat} {fr : Fr} {h : Heap} {Q : Ex → Fr → Heap → Prop} : s36_21.wp E nt rd fr h Q = (GC.cond (.tmp 43) .skip (.exit 0)).wp E nt rd fr h Q := Eq.trans rfl rfl
def r36_22 : List GO := [⟨none, some 41, .move (.tmp 7)⟩,
  ⟨none, some 42, .binOp .rem 23 (.tmp 41) (.const (.int .u64 2)) 23⟩,
  ⟨none, some 43, .binOp .eql 23 (.tmp 42) (.const (.int .u64 0)) 23⟩]
theorem r36_22_w {E : Env} {fr : Fr} {h : Heap} {Q : Fr → Heap → Prop} : opsW E r36_22 fr h Q = opsW E [⟨none, some 41, .move (.tmp 7)⟩,
  ⟨none, some 42, .binOp .rem 23 (.tmp 41) (.const (.int .u64 2)) 23⟩,
  ⟨none, some 43, .binOp .eql 23 (.tmp 42) (.const (.int .u64 0)) 23⟩] fr h Q := Eq.trans rfl rfl
def s36_23 : GC := .seq (.ops r36_22) s36_21
theorem s36_23_w {E : Env} {nt : Nat} {rd : Option Nat} {fr : Fr} {h : Heap} {Q : Ex → Fr → Heap → Prop} : s36_23.wp E nt rd fr h Q = (GC.seq (.ops r36_22) s36_21).wp E nt rd fr h Q := Eq.trans rfl rfl
def s36_24 : GC := .seq (s36_23) s36_20
theorem s36_24_w {E : Env} {nt : Nat} {rd : Option Nat} {fr : Fr} {h : Heap} {Q : Ex → Fr → Heap → Prop} : s36_24.wp E nt rd fr h Q = (GC.seq (s36_23) s36_20).wp E nt rd fr h Q := Eq.trans rfl rfl
def s36_25 : GC := .loop s36_24
theorem s36_25_w {E : Env} {nt : Nat} {rd : Option Nat} {fr : Fr} {h : Heap} {Q : Ex → Fr → Heap → Prop} : s36_25.wp E nt rd fr h Q = (GC.loop s36_24).wp E nt rd fr h Q := Eq.trans rfl rfl
def s36_26 : GC := .seq (.block 0 s36_25) s36_15
theorem s36_26_w {E : Env} {nt : Nat} {rd : Option Nat} {fr : Fr} {h : Heap} {Q : Ex → Fr → Heap → Prop} : s36_26.wp E nt rd fr h Q = (GC.seq (.block 0 s36_25) s36_15).wp E nt rd fr h Q := Eq.trans rfl rfl
def r36_27 : List GO := [⟨none, some 39, .move (.tmp 4)⟩,
  ⟨none, some 40, .binOp .sub 3 (.tmp 39) (.const (.int .i64 1075)) 3⟩,
  ⟨none, some 8, .assign (.tmp 40)⟩]
theorem r36_27_w {E : Env} {fr : Fr} {h : Heap} {Q : Fr → Heap → Prop} : opsW E r36_27 fr h Q = opsW E [⟨none, some 39, .move (.tmp 4)⟩,
  ⟨none, some 40, .binOp .sub 3 (.tmp 39) (.const (.int .i64 1075)) 3⟩,
  ⟨none, some 8, .assign (.tmp 40)⟩] fr h Q := Eq.trans rfl rfl
def s36_28 : GC := .ops r36_27
theorem s36_28_w {E : Env} {nt : Nat} {rd : Option Nat} {fr : Fr} {h : Heap} {Q : Ex → Fr → Heap → Prop} : s36_28.wp E nt rd fr h Q = (GC.ops r36_27).wp E nt rd fr h Q := Eq.trans rfl rfl
def r36_29 : List GO := [⟨none, some 37, .move (.tmp 5)⟩,
  ⟨none, some 38, .binOp .add 23 (.tmp 37) (.const (.int .u64 4503599627370496)) 23⟩,
  ⟨none, some 7, .assign (.tmp 38)⟩]
theorem r36_29_w {E : Env} {fr : Fr} {h : Heap} {Q : Fr → Heap → Prop} : opsW E r36_29 fr h Q = opsW E [⟨none, some 37, .move (.tmp 5)⟩,
  ⟨none, some 38, .binOp .add 23 (.tmp 37) (.const (.int .u64 4503599627370496)) 23⟩,
  ⟨none, some 7, .assign (.tmp 38)⟩] fr h Q := Eq.trans rfl rfl
def s36_30 : GC := .seq (.ops r36_29) s36_28
theorem s36_30_w {E : Env} {nt : Nat} {rd : Option Nat} {fr : Fr} {h : Heap} {Q : Ex → Fr → Heap → Prop} : s36_30.wp E nt rd fr h Q = (GC.seq (.ops r36_29) s36_28).wp E nt rd fr h Q := Eq.trans rfl rfl
def s36_31 : GC := .cond (.tmp 36) s36_30 .skip
theorem s36_31_w {E : Env} {nt : Nat} {rd : Option Nat} {fr : Fr} {h : Heap} {Q : Ex → Fr → Heap → Prop} : s36_31.wp E nt rd fr h Q = (GC.cond (.tmp 36) s36_30 .skip).wp E nt rd fr h Q := Eq.trans rfl rfl
def r36_32 : List GO := [⟨none, some 35, .move (.tmp 4)⟩,
  ⟨none, some 36, .binOp .gtr 3 (.tmp 35) (.const (.int .i64 0)) 3⟩]
theorem r36_32_w {E : Env} {fr : Fr} {h : Heap} {Q : Fr → Heap → Prop} : opsW E r36_32 fr h Q = opsW E [⟨none, some 35, .move (.tmp 4)⟩,
  ⟨none, some 36, .binOp .gtr 3 (.tmp 35) (.const (.int .i64 0)) 3⟩] fr h Q := Eq.trans rfl rfl
def s36_33 : GC := .seq (.ops r36_32) s36_31
theorem s36_33_w {E : Env} {nt : Nat} {rd : Option Nat} {fr : Fr} {h : Heap} {Q : Ex → Fr → Heap → Prop} : s36_33.wp E nt rd fr h Q = (GC.seq (.ops r36_32) s36_31).wp E nt rd fr h Q := Eq.trans rfl rfl
def s36_34 : GC := .seq (s36_33) s36_26
theorem s36_34_w {E : Env} {nt : Nat} {rd : Option Nat} {fr : Fr} {h : Heap} {Q : Ex → Fr → Heap → Prop} : s36_34.wp E nt rd fr h Q = (GC.seq (s36_33) s36_26).wp E nt rd fr h Q := Eq.trans rfl rfl
def r36_35 : List GO := [⟨none, some 34, .move (.tmp 5)⟩,
  ⟨none, some 7, .assign (.tmp 34)⟩,
  ⟨none, some 8, .assign (.const (.int .i64 (-1074)))⟩]
theorem r36_35_w {E : Env} {fr : Fr} {h : Heap} {Q : Fr → Heap → Prop} : opsW E r36_35 fr h Q = opsW E [⟨none, some 34, .move (.tmp 5)⟩,
  ⟨none, some 7, .assign (.tmp 34)⟩,
  ⟨none, some 8, .assign (.const (.int .i64 (-1074)))⟩] fr h Q := Eq.trans rfl rfl
def s36_36 : GC := .seq (.ops r36_35) s36_34
theorem s36_36_w {E : Env} {nt : Nat} {rd : Option Nat} {fr : Fr} {h : Heap} {Q : Ex → Fr → Heap → Prop} : s36_36.wp E nt rd fr h Q = (GC.seq (.ops r36_35) s36_34).wp E nt rd fr h Q := Eq.trans rfl rfl
def r36_37 : List GO := [⟨none, some 32, .move (.tmp 6)⟩,
  ⟨none, some 33, .binOp .add 9 (.tmp 32) (.const (.string ⟨⟨[48]⟩⟩)) 9⟩,
  ⟨none, some 2, .assign (.tmp 33)⟩]
theorem r36_37_w {E : Env} {fr : Fr} {h : Heap} {Q : Fr → Heap → Prop} : opsW E r36_37 fr h Q = opsW E [⟨none, some 32, .move (.tmp 6)⟩,
  ⟨none, some 33, .binOp .add 9 (.tmp 32) (.const (.string ⟨⟨[48]⟩⟩)) 9⟩,
  ⟨none, some 2, .assign (.tmp 33)⟩] fr h Q := Eq.trans rfl rfl
def s36_38 : GC := .seq (.ops r36_37) .ret
theorem s36_38_w {E : Env} {nt : Nat} {rd : Option Nat} {fr : Fr} {h : Heap} {Q : Ex → Fr → Heap → Prop} : s36_38.wp E nt rd fr h Q = (GC.seq (.ops r36_37) .ret).wp E nt rd fr h Q := Eq.trans rfl rfl
def s36_39 : GC := .cond (.tmp 31) s36_38 .skip
theorem s36_39_w {E : Env} {nt : Nat} {rd : Option Nat} {fr : Fr} {h : Heap} {Q : Ex → Fr → Heap → Prop} : s36_39.wp E nt rd fr h Q = (GC.cond (.tmp 31) s36_38 .skip).wp E nt rd fr h Q := Eq.trans rfl rfl
def r36_40 : List GO := [⟨none, some 26, .move (.tmp 4)⟩,
  ⟨none, some 27, .binOp .eql 3 (.tmp 26) (.const (.int .i64 0)) 3⟩,
  ⟨none, some 28, .move (.tmp 27)⟩,
  ⟨some (28, true), some 29, .move (.tmp 5)⟩,
  ⟨some (28, true), some 30, .binOp .eql 23 (.tmp 29) (.const (.int .u64 0)) 23⟩,
  ⟨none, some 31, .pick (.tmp 28) (.tmp 30) (.const (.bool false))⟩]
theorem r36_40_w {E : Env} {fr : Fr} {h : Heap} {Q : Fr → Heap → Prop} : opsW E r36_40 fr h Q = opsW E [⟨none, some 26, .move (.tmp 4)⟩,
  ⟨none, some 27, .binOp .eql 3 (.tmp 26) (.const (.int .i64 0)) 3⟩,
  ⟨none, some 28, .move (.tmp 27)⟩,
  ⟨some (28, true), some 29, .move (.tmp 5)⟩,
  ⟨some (28, true), some 30, .binOp .eql 23 (.tmp 29) (.const (.int .u64 0)) 23⟩,
  ⟨none, some 31, .pick (.tmp 28) (.tmp 30) (.const (.bool false))⟩] fr h Q := Eq.trans rfl rfl
def s36_41 : GC := .seq (.ops r36_40) s36_39
theorem s36_41_w {E : Env} {nt : Nat} {rd : Option Nat} {fr : Fr} {h : Heap} {Q : Ex → Fr → Heap → Prop} : s36_41.wp E nt rd fr h Q = (GC.seq (.ops r36_40) s36_39).wp E nt rd fr h Q := Eq.trans rfl rfl
def s36_42 : GC := .seq (s36_41) s36_36
theorem s36_42_w {E : Env} {nt : Nat} {rd : Option Nat} {fr : Fr} {h : Heap} {Q : Ex → Fr → Heap → Prop} : s36_42.wp E nt rd fr h Q = (GC.seq (s36_41) s36_36).wp E nt rd fr h Q := Eq.trans rfl rfl
def r36_43 : List GO := [⟨none, some 24, .move (.tmp 6)⟩,
  ⟨none, some 25, .binOp .add 9 (.tmp 24) (.const (.string ⟨⟨[105, 110, 102]⟩⟩)) 9⟩,
  ⟨none, some 2, .assign (.tmp 25)⟩]
theorem r36_43_w {E : Env} {fr : Fr} {h : Heap} {Q : Fr → Heap → Prop} : opsW E r36_43 fr h Q = opsW E [⟨none, some 24, .move (.tmp 6)⟩,
  ⟨none, some 25, .binOp .add 9 (.tmp 24) (.const (.string ⟨⟨[105, 110, 102]⟩⟩)) 9⟩,
  ⟨none, some 2, .assign (.tmp 25)⟩] fr h Q := Eq.trans rfl rfl
def s36_44 : GC := .seq (.ops r36_43) .ret
theorem s36_44_w {E : Env} {nt : Nat} {rd : Option Nat} {fr : Fr} {h : Heap} {Q : Ex → Fr → Heap → Prop} : s36_44.wp E nt rd fr h Q = (GC.seq (.ops r36_43) .ret).wp E nt rd fr h Q := Eq.trans rfl rfl
def s36_45 : GC := .cond (.tmp 23) s36_44 .skip
theorem s36_45_w {E : Env} {nt : Nat} {rd : Option Nat} {fr : Fr} {h : Heap} {Q : Ex → Fr → Heap → Prop} : s36_45.wp E nt rd fr h Q = (GC.cond (.tmp 23) s36_44 .skip).wp E nt rd fr h Q := Eq.trans rfl rfl
def r36_46 : List GO := [⟨none, some 22, .move (.tmp 4)⟩,
  ⟨none, some 23, .binOp .eql 3 (.tmp 22) (.const (.int .i64 2047)) 3⟩]
theorem r36_46_w {E : Env} {fr : Fr} {h : Heap} {Q : Fr → Heap → Prop} : opsW E r36_46 fr h Q = opsW E [⟨none, some 22, .move (.tmp 4)⟩,
  ⟨none, some 23, .binOp .eql 3 (.tmp 22) (.const (.int .i64 2047)) 3⟩] fr h Q := Eq.trans rfl rfl
def s36_47 : GC := .seq (.ops r36_46) s36_45
theorem s36_47_w {E : Env} {nt : Nat} {rd : Option Nat} {fr : Fr} {h : Heap} {Q : Ex → Fr → Heap → Prop} : s36_47.wp E nt rd fr h Q = (GC.seq (.ops r36_46) s36_45).wp E nt rd fr h Q := Eq.trans rfl rfl
def s36_48 : GC := .seq (s36_47) s36_42
theorem s36_48_w {E : Env} {nt : Nat} {rd : Option Nat} {fr : Fr} {h : Heap} {Q : Ex → Fr → Heap → Prop} : s36_48.wp E nt rd fr h Q = (GC.seq (s36_47) s36_42).wp E nt rd fr h Q := Eq.trans rfl rfl
def r36_49 : List GO := [⟨none, some 2, .assign (.const (.string ⟨⟨[110, 97, 110]⟩⟩))⟩]
theorem r36_49_w {E : Env} {fr : Fr} {h : Heap} {Q : Fr → Heap → Prop} : opsW E r36_49 fr h Q = opsW E [⟨none, some 2, .assign (.const (.string ⟨⟨[110, 97, 110]⟩⟩))⟩] fr h Q := Eq.trans rfl rfl
def s36_50 : GC := .seq (.ops r36_49) .ret
theorem s36_50_w {E : Env} {nt : Nat} {rd : Option Nat} {fr : Fr} {h : Heap} {Q : Ex → Fr → Heap → Prop} : s36_50.wp E nt rd fr h Q = (GC.seq (.ops r36_49) .ret).wp E nt rd fr h Q := Eq.trans rfl rfl
def s36_51 : GC := .cond (.tmp 21) s36_50 .skip
theorem s36_51_w {E : Env} {nt : Nat} {rd : Option Nat} {fr : Fr} {h : Heap} {Q : Ex → Fr → Heap → Prop} : s36_51.wp E nt rd fr h Q = (GC.cond (.tmp 21) s36_50 .skip).wp E nt rd fr h Q := Eq.trans rfl rfl
def r36_52 : List GO := [⟨none, some 16, .move (.tmp 4)⟩,
  ⟨none, some 17, .binOp .eql 3 (.tmp 16) (.const (.int .i64 2047)) 3⟩,
  ⟨none, some 18, .move (.tmp 17)⟩,
  ⟨some (18, true), some 19, .move (.tmp 5)⟩,
  ⟨some (18, true), some 20, .binOp .gtr 23 (.tmp 19) (.const (.int .u64 0)) 23⟩,
  ⟨none, some 21, .pick (.tmp 18) (.tmp 20) (.const (.bool false))⟩]
theorem r36_52_w {E : Env} {fr : Fr} {h : Heap} {Q : Fr → Heap → Prop} : opsW E r36_52 fr h Q = opsW E [⟨none, some 16, .move (.tmp 4)⟩,
  ⟨none, some 17, .binOp .eql 3 (.tmp 16) (.const (.int .i64 2047)) 3⟩,
  ⟨none, some 18, .move (.tmp 17)⟩,
  ⟨some (18, true), some 19, .move (.tmp 5)⟩,
  ⟨some (18, true), some 20, .binOp .gtr 23 (.tmp 19) (.const (.int .u64 0)) 23⟩,
  ⟨none, some 21, .pick (.tmp 18) (.tmp 20) (.const (.bool false))⟩] fr h Q := Eq.trans rfl rfl
def s36_53 : GC := .seq (.ops r36_52) s36_51
theorem s36_53_w {E : Env} {nt : Nat} {rd : Option Nat} {fr : Fr} {h : Heap} {Q : Ex → Fr → Heap → Prop} : s36_53.wp E nt rd fr h Q = (GC.seq (.ops r36_52) s36_51).wp E nt rd fr h Q := Eq.trans rfl rfl
def s36_54 : GC := .seq (s36_53) s36_48
theorem s36_54_w {E : Env} {nt : Nat} {rd : Option Nat} {fr : Fr} {h : Heap} {Q : Ex → Fr → Heap → Prop} : s36_54.wp E nt rd fr h Q = (GC.seq (s36_53) s36_48).wp E nt rd fr h Q := Eq.trans rfl rfl
def r36_55 : List GO := [⟨none, some 6, .assign (.const (.string ⟨⟨[45]⟩⟩))⟩]
theorem r36_55_w {E : Env} {fr : Fr} {h : Heap} {Q : Fr → Heap → Prop} : opsW E r36_55 fr h Q = opsW E [⟨none, some 6, .assign (.const (.string ⟨⟨[45]⟩⟩))⟩] fr h Q := Eq.trans rfl rfl
def s36_56 : GC := .ops r36_55
theorem s36_56_w {E : Env} {nt : Nat} {rd : Option Nat} {fr : Fr} {h : Heap} {Q : Ex → Fr → Heap → Prop} : s36_56.wp E nt rd fr h Q = (GC.ops r36_55).wp E nt rd fr h Q := Eq.trans rfl rfl
def s36_57 : GC := .cond (.tmp 15) s36_56 .skip
theorem s36_57_w {E : Env} {nt : Nat} {rd : Option Nat} {fr : Fr} {h : Heap} {Q : Ex → Fr → Heap → Prop} : s36_57.wp E nt rd fr h Q = (GC.cond (.tmp 15) s36_56 .skip).wp E nt rd fr h Q := Eq.trans rfl rfl
def r36_58 : List GO := [⟨none, some 15, .move (.tmp 3)⟩]
theorem r36_58_w {E : Env} {fr : Fr} {h : Heap} {Q : Fr → Heap → Prop} : opsW E r36_58 fr h Q = opsW E [⟨none, some 15, .move (.tmp 3)⟩] fr h Q := Eq.trans rfl rfl
def s36_59 : GC := .seq (.ops r36_58) s36_57
theorem s36_59_w {E : Env} {nt : Nat} {rd : Option Nat} {fr : Fr} {h : Heap} {Q : Ex → Fr → Heap → Prop} : s36_59.wp E nt rd fr h Q = (GC.seq (.ops r36_58) s36_57).wp E nt rd fr h Q := Eq.trans rfl rfl
def s36_60 : GC := .seq (s36_59) s36_54
theorem s36_60_w {E : Env} {nt : Nat} {rd : Option Nat} {fr : Fr} {h : Heap} {Q : Ex → Fr → Heap → Prop} : s36_60.wp E nt rd fr h Q = (GC.seq (s36_59) s36_54).wp E nt rd fr h Q := Eq.trans rfl rfl
def r36_61 : List GO := [⟨none, some 6, .assign (.const (.string ⟨⟨[]⟩⟩))⟩]
theorem r36_61_w {E : Env} {fr : Fr} {h : Heap} {Q : Fr → Heap → Prop} : opsW E r36_61 fr h Q = opsW E [⟨none, some 6, .assign (.const (.string ⟨⟨[]⟩⟩))⟩] fr h Q := Eq.trans rfl rfl
def s36_62 : GC := .seq (.ops r36_61) s36_60
theorem s36_62_w {E : Env} {nt : Nat} {rd : Option Nat} {fr : Fr} {h : Heap} {Q : Ex → Fr → Heap → Prop} : s36_62.wp E nt rd fr h Q = (GC.seq (.ops r36_61) s36_60).wp E nt rd fr h Q := Eq.trans rfl rfl
def r36_63 : List GO := [⟨none, some 10, .move (.tmp 0)⟩,
  ⟨none, some 11, .call ⟨.value (.func 40), ⟨[.tmp 10]⟩, ⟨[27]⟩⟩⟩,
  ⟨none, some 9, .move (.tmp 11)⟩,
  ⟨none, some 12, .extract (.tmp 9) 0⟩,
  ⟨none, some 13, .extract (.tmp 9) 1⟩,
  ⟨none, some 14, .extract (.tmp 9) 2⟩,
  ⟨none, some 3, .assign (.tmp 12)⟩,
  ⟨none, some 4, .assign (.tmp 13)⟩,
  ⟨none, some 5, .assign (.tmp 14)⟩]
theorem r36_63_w {E : Env} {fr : Fr} {h : Heap} {Q : Fr → Heap → Prop} : opsW E r36_63 fr h Q = opsW E [⟨none, some 10, .move (.tmp 0)⟩,
  ⟨none, some 11, .call ⟨.value (.func 40), ⟨[.tmp 10]⟩, ⟨[27]⟩⟩⟩,
  ⟨none, some 9, .move (.tmp 11)⟩,
  ⟨none, some 12, .extract (.tmp 9) 0⟩,
  ⟨none, some 13, .extract (.tmp 9) 1⟩,
  ⟨none, some 14, .extract (.tmp 9) 2⟩,
  ⟨none, some 3, .assign (.tmp 12)⟩,
  ⟨none, some 4, .assign (.tmp 13)⟩,
  ⟨none, some 5, .assign (.tmp 14)⟩] fr h Q := Eq.trans rfl rfl
def s36_64 : GC := .seq (.ops r36_63) s36_62
theorem s36_64_w {E : Env} {nt : Nat} {rd : Option Nat} {fr : Fr} {h : Heap} {Q : Ex → Fr → Heap → Prop} : s36_64.wp E nt rd fr h Q = (GC.seq (.ops r36_63) s36_62).wp E nt rd fr h Q := Eq.trans rfl rfl
def r36_65 : List GO := [⟨none, some 2, .assign (.const (.string ⟨⟨[]⟩⟩))⟩]
theorem r36_65_w {E : Env} {fr : Fr} {h : Heap} {Q : Fr → Heap → Prop} : opsW E r36_65 fr h Q = opsW E [⟨none, some 2, .assign (.const (.string ⟨⟨[]⟩⟩))⟩] fr h Q := Eq.trans rfl rfl
def s36_66 : GC := .seq (.ops r36_65) s36_64
theorem s36_66_w {E : Env} {nt : Nat} {rd : Option Nat} {fr : Fr} {h : Heap} {Q : Ex → Fr → Heap → Prop} : s36_66.wp E nt rd fr h Q = (GC.seq (.ops r36_65) s36_64).wp E nt rd fr h Q := Eq.trans rfl rfl
theorem c36 : Tryd.f36.body.bind (clean env 68) = some s36_66 := by kernel_rfl
theorem e36 : env.funs.get 36 = some Tryd.f36 := by kernel_rfl
theorem F36 {args : List Value} {h : Heap} {K : Value → Heap → Prop} (hx : env.ext 36 args h = none) (hl : args.length = 1) (w : s36_66.wp env 68 none (setAll args 0 .leaf) h (resK env [.tmp 2] K)) : Ret env (.func 36) args h K :=
  Ret.of_body' hx e36 c36 rfl rfl (by rw [hl]; decide) w
/-! helmsman/helmsmanref31.parts -/
def r40_0 : List GO := [⟨none, some 8, .move (.tmp 5)⟩,
  ⟨none, some 9, .binOp .gtr 23 (.tmp 8) (.const (.int .u64 9223372036854775807)) 23⟩,
  ⟨none, some 10, .move (.tmp 5)⟩,
  ⟨none, some 11, .binOp .quo 23 (.tmp 10) (.const (.int .u64 4503599627370496)) 23⟩,
  ⟨none, some 12, .binOp .rem 23 (.tmp 11) (.const (.int .u64 2048)) 23⟩,
  ⟨none, some 13, .convert 23 3 (.tmp 12)⟩,
  ⟨none, some 14, .move (.tmp 5)⟩,
  ⟨none, some 15, .binOp .rem 23 (.tmp 14) (.const (.int .u64 4503599627370496)) 23⟩,
  ⟨none, some 2, .assign (.tmp 9)⟩,
  ⟨none, some 3, .assign (.tmp 13)⟩,
  ⟨none, some 4, .assign (.tmp 15)⟩]
theorem r40_0_w {E : Env} {fr : Fr} {h : Heap} {Q : Fr → Heap → Prop} : opsW E r40_0 fr h Q = opsW E [⟨none, some 8, .move (.tmp 5)⟩,
  ⟨none, some 9, .binOp .gtr 23 (.tmp 8) (.const (.int .u64 9223372036854775807)) 23⟩,
  ⟨none, some 10, .move (.tmp 5)⟩,
  ⟨none, some 11, .binOp .quo 23 (.tmp 10) (.const (.int .u64 4503599627370496)) 23⟩,
  ⟨none, some 12, .binOp .rem 23 (.tmp 11) (.const (.int .u64 2048)) 23⟩,
  ⟨none, some 13, .convert 23 3 (.tmp 12)⟩,
  ⟨none, some 14, .move (.tmp 5)⟩,
  ⟨none, some 15, .binOp .rem 23 (.tmp 14) (.const (.int .u64 4503599627370496)) 23⟩,
  ⟨none, some 2, .assign (.tmp 9)⟩,
  ⟨none, some 3, .assign (.tmp 13)⟩,
  ⟨none, some 4, .assign (.tmp 15)⟩] fr h Q := Eq.trans rfl rfl
def s40_1 : GC := .seq (.ops r40_0) .ret
theorem s40_1_w {E : Env} {nt : Nat} {rd : Option Nat} {fr : Fr} {h : Heap} {Q : Ex → Fr → Heap → Prop} : s40_1.wp E nt rd fr h Q = (GC.seq (.ops r40_0) .ret).wp E nt rd fr h Q := Eq.trans rfl rfl
def r40_2 : List GO := [⟨none, some 6, .move (.tmp 0)⟩,
  ⟨none, some 7, .call ⟨.value (.func 18), ⟨[.tmp 6]⟩, ⟨[27]⟩⟩⟩,
  ⟨none, some 5, .assign (.tmp 7)⟩]
theorem r40_2_w {E : Env} {fr : Fr} {h : Heap} {Q : Fr → Heap → Prop} : opsW E r40_2 fr h Q = opsW E [⟨none, some 6, .move (.tmp 0)⟩,
  ⟨none, some 7, .call ⟨.value (.func 18), ⟨[.tmp 6]⟩, ⟨[27]⟩⟩⟩,
  ⟨none, some 5, .assign (.tmp 7)⟩] fr h Q := Eq.trans rfl rfl
def s40_3 : GC := .seq (.ops r40_2) s40_1
theorem s40_3_w {E : Env} {nt : Nat} {rd : Option Nat} {fr : Fr} {h : Heap} {Q : Ex → Fr → Heap → Prop} : s40_3.wp E nt rd fr h Q = (GC.seq (.ops r40_2) s40_1).wp E nt rd fr h Q := Eq.trans rfl rfl
def r40_4 : List GO := [⟨none, some 2, .assign (.const (.bool false))⟩,
  ⟨none, some 3, .assign (.const (.int .i64 0))⟩,
  ⟨none, some 4, .assign (.const (.int .u64 0))⟩]
theorem r40_4_w {E : Env} {fr : Fr} {h : Heap} {Q : Fr → Heap → Prop} : opsW E r40_4 fr h Q = opsW E [⟨none, some 2, .assign (.const (.bool false))⟩,
  ⟨none, some 3, .assign (.const (.int .i64 0))⟩,
  ⟨none, some 4, .assign (.const (.int .u64 0))⟩] fr h Q := Eq.trans rfl rfl
def s40_5 : GC := .seq (.ops r40_4) s40_3
theorem s40_5_w {E : Env} {nt : Nat} {rd : Option Nat} {fr : Fr} {h : Heap} {Q : Ex → Fr → Heap → Prop} : s40_5.wp E nt rd fr h Q = (GC.seq (.ops r40_4) s40_3).wp E nt rd fr h Q := Eq.trans rfl rfl
theorem c40 : Tryd.f40.body.bind (clean env 16) = some s40_5 := by kernel_rfl
theorem e40 : env.funs.get 40 = some Tryd.f40 := by kernel_rfl
theorem F40 {args : List Value} {h : Heap} {K : Value → Heap → Prop} (hl : args.length = 1) (w : s40_5.wp env 16 none (setAll args 0 .leaf) h (resK env [.tmp 2, .tmp 3, .tmp 4] K)) : Ret env (.func 40) args h K :=
  Ret.of_body' rfl e40 c40 rfl rfl (by rw [hl]; decide) w
/-! strconv.FormatUint -/
def r50_0 : List GO := [⟨none, some 5, .move (.tmp 0)⟩,
  ⟨none, some 6, .move (.tmp 1)⟩,
  ⟨none, some 7, .call ⟨.value (.func 67), ⟨[.tmp 5, .tmp 6]⟩, ⟨[23, 3]⟩⟩⟩,
  ⟨none, some 4, .assign (.tmp 7)⟩]
theorem r50_0_w {E : Env} {fr : Fr} {h : Heap} {Q : Fr → Heap → Prop} : opsW E r50_0 fr h Q = opsW E [⟨none, some 5, .move (.tmp 0)⟩,
  ⟨none, some 6, .move (.tmp 1)⟩,
  ⟨none, some 7, .call ⟨.value (.func 67), ⟨[.tmp 5, .tmp 6]⟩, ⟨[23, 3]⟩⟩⟩,
  ⟨none, some 4, .assign (.tmp 7)⟩] fr h Q := Eq.trans rfl rfl
def s50_1 : GC := .seq (.ops r50_0) .ret
theorem s50_1_w {E : Env} {nt : Nat} {rd : Option Nat} {fr : Fr} {h : Heap} {Q : Ex → Fr → Heap → Prop} : s50_1.wp E nt rd fr h Q = (GC.seq (.ops r50_0) .ret).wp E nt rd fr h Q := Eq.trans rfl rfl
def r50_2 : List GO := [⟨none, some 4, .assign (.const (.string ⟨⟨[]⟩⟩))⟩]
theorem r50_2_w {E : Env} {fr : Fr} {h : Heap} {Q : Fr → Heap → Prop} : opsW E r50_2 fr h Q = opsW E [⟨none, some 4, .assign (.const (.string ⟨⟨[]⟩⟩))⟩] fr h Q := Eq.trans rfl rfl
def s50_3 : GC := .seq (.ops r50_2) s50_1
theorem s50_3_w {E : Env} {nt : Nat} {rd : Option Nat} {fr : Fr} {h : Heap} {Q : Ex → Fr → Heap → Prop} : s50_3.wp E nt rd fr h Q = (GC.seq (.ops r50_2) s50_1).wp E nt rd fr h Q := Eq.trans rfl rfl
theorem c50 : Tryd.f50.body.bind (clean env 8) = some s50_3 := by kernel_rfl
theorem e50 : env.funs.get 50 = some Tryd.f50 := by kernel_rfl
theorem F50 {args : List Value} {h : Heap} {K : Value → Heap → Prop} (hl : args.length = 2) (w : s50_3.wp env 8 none (setAll args 0 .leaf) h (resK env [.tmp 4] K)) : Ret env (.func 50) args h K :=
  Ret.of_body' rfl e50 c50 rfl rfl (by rw [hl]; decide) w
/-! helmsman/helmsmanref31.num -/
def r52_0 : List GO := [⟨none, some 10, .move (.tmp 0)⟩,
  ⟨none, some 11, .convert 3 23 (.tmp 10)⟩,
  ⟨none, some 12, .call ⟨.value (.func 53), ⟨[.tmp 11]⟩, ⟨[23]⟩⟩⟩,
  ⟨none, some 2, .assign (.tmp 12)⟩]
theorem r52_0_w {E : Env} {fr : Fr} {h : Heap} {Q : Fr → Heap → Prop} : opsW E r52_0 fr h Q = opsW E [⟨none, some 10, .move (.tmp 0)⟩,
  ⟨none, some 11, .convert 3 23 (.tmp 10)⟩,
  ⟨none, some 12, .call ⟨.value (.func 53), ⟨[.tmp 11]⟩, ⟨[23]⟩⟩⟩,
  ⟨none, some 2, .assign (.tmp 12)⟩] fr h Q := Eq.trans rfl rfl
def s52_1 : GC := .seq (.ops r52_0) .ret
theorem s52_1_w {E : Env} {nt : Nat} {rd : Option Nat} {fr : Fr} {h : Heap} {Q : Ex → Fr → Heap → Prop} : s52_1.wp E nt rd fr h Q = (GC.seq (.ops r52_0) .ret).wp E nt rd fr h Q := Eq.trans rfl rfl
def r52_2 : List GO := [⟨none, some 5, .move (.tmp 0)⟩,
  ⟨none, some 6, .unOp .neg 3 (.tmp 5)⟩,
  ⟨none, some 7, .convert 3 23 (.tmp 6)⟩,
  ⟨none, some 8, .call ⟨.value (.func 53), ⟨[.tmp 7]⟩, ⟨[23]⟩⟩⟩,
  ⟨none, some 9, .binOp .add 9 (.const (.string ⟨⟨[45]⟩⟩)) (.tmp 8) 9⟩,
  ⟨none, some 2, .assign (.tmp 9)⟩]
theorem r52_2_w {E : Env} {fr : Fr} {h : Heap} {Q : Fr → Heap → Prop} : opsW E r52_2 fr h Q = opsW E [⟨none, some 5, .move (.tmp 0)⟩,
  ⟨none, some 6, .unOp .neg 3 (.tmp 5)⟩,
  ⟨none, some 7, .convert 3 23 (.tmp 6)⟩,
  ⟨none, some 8, .call ⟨.value (.func 53), ⟨[.tmp 7]⟩, ⟨[23]⟩⟩⟩,
  ⟨none, some 9, .binOp .add 9 (.const (.string ⟨⟨[45]⟩⟩)) (.tmp 8) 9⟩,
  ⟨none, some 2, .assign (.tmp 9)⟩] fr h Q := Eq.trans rfl rfl
def s52_3 : GC := .seq (.ops r52_2) .ret
theorem s52_3_w {E : Env} {nt : Nat} {rd : Option Nat} {fr : Fr} {h : Heap} {Q : Ex → Fr → Heap → Prop} : s52_3.wp E nt rd fr h Q = (GC.seq (.ops r52_2) .ret).wp E nt rd fr h Q := Eq.trans rfl rfl
def s52_4 : GC := .cond (.tmp 4) s52_3 .skip
theorem s52_4_w {E : Env} {nt : Nat} {rd : Option Nat} {fr : Fr} {h : Heap} {Q : Ex → Fr → Heap → Prop} : s52_4.wp E nt rd fr h Q = (GC.cond (.tmp 4) s52_3 .skip).wp E nt rd fr h Q := Eq.trans rfl rfl
def r52_5 : List GO := [⟨none, some 3, .move (.tmp 0)⟩,
  ⟨none, some 4, .binOp .lss 3 (.tmp 3) (.const (.int .i64 0)) 3⟩]
theorem r52_5_w {E : Env} {fr : Fr} {h : Heap} {Q : Fr → Heap → Prop} : opsW E r52_5 fr h Q = opsW E [⟨none, some 3, .move (.tmp 0)⟩,
  ⟨none, some 4, .binOp .lss 3 (.tmp 3) (.const (.int .i64 0)) 3⟩] fr h Q := Eq.trans rfl rfl
def s52_6 : GC := .seq (.ops r52_5) s52_4
theorem s52_6_w {E : Env} {nt : Nat} {rd : Option Nat} {fr : Fr} {h : Heap} {Q : Ex → Fr → Heap → Prop} : s52_6.wp E nt rd fr h Q = (GC.seq (.ops r52_5) s52_4).wp E nt rd fr h Q := Eq.trans rfl rfl
def s52_7 : GC := .seq (s52_6) s52_1
theorem s52_7_w {E : Env} {nt : Nat} {rd : Option Nat} {fr : Fr} {h : Heap} {Q : Ex → Fr → Heap → Prop} : s52_7.wp E nt rd fr h Q = (GC.seq (s52_6) s52_1).wp E nt rd fr h Q := Eq.trans rfl rfl
def r52_8 : List GO := [⟨none, some 2, .assign (.const (.string ⟨⟨[]⟩⟩))⟩]
theorem r52_8_w {E : Env} {fr : Fr} {h : Heap} {Q : Fr → Heap → Prop} : opsW E r52_8 fr h Q = opsW E [⟨none, some 2, .assign (.const (.string ⟨⟨[]⟩⟩))⟩] fr h Q := Eq.trans rfl rfl
def s52_9 : GC := .seq (.ops r52_8) s52_7
theorem s52_9_w {E : Env} {nt : Nat} {rd : Option Nat} {fr : Fr} {h : Heap} {Q : Ex → Fr → Heap → Prop} : s52_9.wp E nt rd fr h Q = (GC.seq (.ops r52_8) s52_7).wp E nt rd fr h Q := Eq.trans rfl rfl
theorem c52 : Tryd.f52.body.bind (clean env 13) = some s52_9 := by kernel_rfl
theorem e52 : env.funs.get 52 = some Tryd.f52 := by kernel_rfl
theorem F52 {args : List Value} {h : Heap} {K : Value → Heap → Prop} (hl : args.length = 1) (w : s52_9.wp env 13 none (setAll args 0 .leaf) h (resK env [.tmp 2] K)) : Ret env (.func 52) args h K :=
  Ret.of_body' rfl e52 c52 rfl rfl (by rw [hl]; decide) w
/-! helmsman/helmsmanref31.big -/
def p53_0 : List (GO × List GO) := [(⟨none, some 10, .move (.tmp 0)⟩, []),
  (⟨none, some 11, .binOp .quo 23 (.tmp 10) (.const (.int .u64 10)) 23⟩, []),
  (⟨none, some 13, .move (.tmp 0)⟩, []),
  (⟨none, some 14, .binOp .rem 23 (.tmp 13) (.const (.int .u64 10)) 23⟩, []),
  (⟨none, some 15, .binOp .add 23 (.const (.int .u64 48)) (.tmp 14) 23⟩, []),
  (⟨none, some 16, .convert 23 5 (.tmp 15)⟩, []),
  (⟨none, some 17, .buildSlice 87 1 ⟨[(0, .tmp 16)]⟩⟩, []),
  (⟨none, some 18, .convert 87 9 (.tmp 17)⟩, []),
  (⟨none, some 12, .call ⟨.value (.func 53), ⟨[.tmp 11]⟩, ⟨[23]⟩⟩⟩, [⟨none, some 18, .convert 87 9 (.tmp 17)⟩]),
  (⟨none, some 19, .binOp .add 9 (.tmp 12) (.tmp 18) 9⟩, []),
  (⟨none, some 2, .assign (.tmp 19)⟩, [])]
theorem p53_0_w {E : Env} {fr : Fr} {h : Heap} {Q : Fr → Heap → Prop} : planW E p53_0 fr h Q = planW E [(⟨none, some 10, .move (.tmp 0)⟩, []),
  (⟨none, some 11, .binOp .quo 23 (.tmp 10) (.const (.int .u64 10)) 23⟩, []),
  (⟨none, some 13, .move (.tmp 0)⟩, []),
  (⟨none, some 14, .binOp .rem 23 (.tmp 13) (.const (.int .u64 10)) 23⟩, []),
  (⟨none, some 15, .binOp .add 23 (.const (.int .u64 48)) (.tmp 14) 23⟩, []),
  (⟨none, some 16, .convert 23 5 (.tmp 15)⟩, []),
  (⟨none, some 17, .buildSlice 87 1 ⟨[(0, .tmp 16)]⟩⟩, []),
  (⟨none, some 18, .convert 87 9 (.tmp 17)⟩, []),
  (⟨none, some 12, .call ⟨.value (.func 53), ⟨[.tmp 11]⟩, ⟨[23]⟩⟩⟩, [⟨none, some 18, .convert 87 9 (.tmp 17)⟩]),
  (⟨none, some 19, .binOp .add 9 (.tmp 12) (.tmp 18) 9⟩, []),
  (⟨none, some 2, .assign (.tmp 19)⟩, [])] fr h Q := Eq.trans rfl rfl
def s53_1 : GC := .seq (.plan p53_0) .ret
theorem s53_1_w {E : Env} {nt : Nat} {rd : Option Nat} {fr : Fr} {h : Heap} {Q : Ex → Fr → Heap → Prop} : s53_1.wp E nt rd fr h Q = (GC.seq (.plan p53_0) .ret).wp E nt rd fr h Q := Eq.trans rfl rfl
def r53_2 : List GO := [⟨none, some 5, .move (.tmp 0)⟩,
  ⟨none, some 6, .binOp .add 23 (.const (.int .u64 48)) (.tmp 5) 23⟩,
  ⟨none, some 7, .convert 23 5 (.tmp 6)⟩,
  ⟨none, some 8, .buildSlice 87 1 ⟨[(0, .tmp 7)]⟩⟩,
  ⟨none, some 9, .convert 87 9 (.tmp 8)⟩,
  ⟨none, some 2, .assign (.tmp 9)⟩]
theorem r53_2_w {E : Env} {fr : Fr} {h : Heap} {Q : Fr → Heap → Prop} : opsW E r53_2 fr h Q = opsW E [⟨none, some 5, .move (.tmp 0)⟩,
  ⟨none, some 6, .binOp .add 23 (.const (.int .u64 48)) (.tmp 5) 23⟩,
  ⟨none, some 7, .convert 23 5 (.tmp 6)⟩,
  ⟨none, some 8, .buildSlice 87 1 ⟨[(0, .tmp 7)]⟩⟩,
  ⟨none, some 9, .convert 87 9 (.tmp 8)⟩,
  ⟨none, some 2, .assign (.tmp 9)⟩] fr h Q := Eq.trans rfl rfl
def s53_3 : GC := .seq (.ops r53_2) .ret
theorem s53_3_w {E : Env} {nt : Nat} {rd : Option Nat} {fr : Fr} {h : Heap} {Q : Ex → Fr → Heap → Prop} : s53_3.wp E nt rd fr h Q = (GC.seq (.ops r53_2) .ret).wp E nt rd fr h Q := Eq.trans rfl rfl
def s53_4 : GC := .cond (.tmp 4) s53_3 .skip
theorem s53_4_w {E : Env} {nt : Nat} {rd : Option Nat} {fr : Fr} {h : Heap} {Q : Ex → Fr → Heap → Prop} : s53_4.wp E nt rd fr h Q = (GC.cond (.tmp 4) s53_3 .skip).wp E nt rd fr h Q := Eq.trans rfl rfl
def r53_5 : List GO := [⟨none, some 3, .move (.tmp 0)⟩,
  ⟨none, some 4, .binOp .lss 23 (.tmp 3) (.const (.int .u64 10)) 23⟩]
theorem r53_5_w {E : Env} {fr : Fr} {h : Heap} {Q : Fr → Heap → Prop} : opsW E r53_5 fr h Q = opsW E [⟨none, some 3, .move (.tmp 0)⟩,
  ⟨none, some 4, .binOp .lss 23 (.tmp 3) (.const (.int .u64 10)) 23⟩] fr h Q := Eq.trans rfl rfl
def s53_6 : GC := .seq (.ops r53_5) s53_4
theorem s53_6_w {E : Env} {nt : Nat} {rd : Option Nat} {fr : Fr} {h : Heap} {Q : Ex → Fr → Heap → Prop} : s53_6.wp E nt rd fr h Q = (GC.seq (.ops r53_5) s53_4).wp E nt rd fr h Q := Eq.trans rfl rfl
def s53_7 : GC := .seq (s53_6) s53_1
theorem s53_7_w {E : Env} {nt : Nat} {rd : Option Nat} {fr : Fr} {h : Heap} {Q : Ex → Fr → Heap → Prop} : s53_7.wp E nt rd fr h Q = (GC.seq (s53_6) s53_1).wp E nt rd fr h Q := Eq.trans rfl rfl
def r53_8 : List GO := [⟨none, some 2, .assign (.const (.string ⟨⟨[]⟩⟩))⟩]
theorem r53_8_w {E : Env} {fr : Fr} {h : Heap} {Q : Fr → Heap → Prop} : opsW E r53_8 fr h Q = opsW E [⟨none, some 2, .assign (.const (.string ⟨⟨[]⟩⟩))⟩] fr h Q := Eq.trans rfl rfl
def s53_9 : GC := .seq (.ops r53_8) s53_7
theorem s53_9_w {E : Env} {nt : Nat} {rd : Option Nat} {fr : Fr} {h : Heap} {Q : Ex → Fr → Heap → Prop} : s53_9.wp E nt rd fr h Q = (GC.seq (.ops r53_8) s53_7).wp E nt rd fr h Q := Eq.trans rfl rfl
theorem c53 : Tryd.f53.body.bind (clean env 20) = some s53_9 := by kernel_rfl
theorem e53 : env.funs.get 53 = some Tryd.f53 := by kernel_rfl
theorem F53 {args : List Value} {h : Heap} {K : Value → Heap → Prop} (hl : args.length = 1) (w : s53_9.wp env 20 none (setAll args 0 .leaf) h (resK env [.tmp 2] K)) : Ret env (.func 53) args h K :=
  Ret.of_body' rfl e53 c53 rfl rfl (by rw [hl]; decide) w
/-! helmsman/share.class -/
def r54_0 : List GO := [⟨none, some 2, .assign (.const (.string ⟨⟨[]⟩⟩))⟩]
theorem r54_0_w {E : Env} {fr : Fr} {h : Heap} {Q : Fr → Heap → Prop} : opsW E r54_0 fr h Q = opsW E [⟨none, some 2, .assign (.const (.string ⟨⟨[]⟩⟩))⟩] fr h Q := Eq.trans rfl rfl
def s54_1 : GC := .seq (.ops r54_0) .ret
theorem s54_1_w {E : Env} {nt : Nat} {rd : Option Nat} {fr : Fr} {h : Heap} {Q : Ex → Fr → Heap → Prop} : s54_1.wp E nt rd fr h Q = (GC.seq (.ops r54_0) .ret).wp E nt rd fr h Q := Eq.trans rfl rfl
def r54_2 : List GO := [⟨none, some 2, .assign (.const (.string ⟨⟨[110, 97, 110]⟩⟩))⟩]
theorem r54_2_w {E : Env} {fr : Fr} {h : Heap} {Q : Fr → Heap → Prop} : opsW E r54_2 fr h Q = opsW E [⟨none, some 2, .assign (.const (.string ⟨⟨[110, 97, 110]⟩⟩))⟩] fr h Q := Eq.trans rfl rfl
def s54_3 : GC := .seq (.ops r54_2) .ret
theorem s54_3_w {E : Env} {nt : Nat} {rd : Option Nat} {fr : Fr} {h : Heap} {Q : Ex → Fr → Heap → Prop} : s54_3.wp E nt rd fr h Q = (GC.seq (.ops r54_2) .ret).wp E nt rd fr h Q := Eq.trans rfl rfl
def r54_4 : List GO := [⟨none, some 2, .assign (.const (.string ⟨⟨[105, 110, 102]⟩⟩))⟩]
theorem r54_4_w {E : Env} {fr : Fr} {h : Heap} {Q : Fr → Heap → Prop} : opsW E r54_4 fr h Q = opsW E [⟨none, some 2, .assign (.const (.string ⟨⟨[105, 110, 102]⟩⟩))⟩] fr h Q := Eq.trans rfl rfl
def s54_5 : GC := .seq (.ops r54_4) .ret
theorem s54_5_w {E : Env} {nt : Nat} {rd : Option Nat} {fr : Fr} {h : Heap} {Q : Ex → Fr → Heap → Prop} : s54_5.wp E nt rd fr h Q = (GC.seq (.ops r54_4) .ret).wp E nt rd fr h Q := Eq.trans rfl rfl
def r54_6 : List GO := [⟨none, some 2, .assign (.const (.string ⟨⟨[45, 105, 110, 102]⟩⟩))⟩]
theorem r54_6_w {E : Env} {fr : Fr} {h : Heap} {Q : Fr → Heap → Prop} : opsW E r54_6 fr h Q = opsW E [⟨none, some 2, .assign (.const (.string ⟨⟨[45, 105, 110, 102]⟩⟩))⟩] fr h Q := Eq.trans rfl rfl
def s54_7 : GC := .seq (.ops r54_6) .ret
theorem s54_7_w {E : Env} {nt : Nat} {rd : Option Nat} {fr : Fr} {h : Heap} {Q : Ex → Fr → Heap → Prop} : s54_7.wp E nt rd fr h Q = (GC.seq (.ops r54_6) .ret).wp E nt rd fr h Q := Eq.trans rfl rfl
def r54_8 : List GO := [⟨none, some 2, .assign (.const (.string ⟨⟨[45, 48]⟩⟩))⟩]
theorem r54_8_w {E : Env} {fr : Fr} {h : Heap} {Q : Fr → Heap → Prop} : opsW E r54_8 fr h Q = opsW E [⟨none, some 2, .assign (.const (.string ⟨⟨[45, 48]⟩⟩))⟩] fr h Q := Eq.trans rfl rfl
def s54_9 : GC := .seq (.ops r54_8) .ret
theorem s54_9_w {E : Env} {nt : Nat} {rd : Option Nat} {fr : Fr} {h : Heap} {Q : Ex → Fr → Heap → Prop} : s54_9.wp E nt rd fr h Q = (GC.seq (.ops r54_8) .ret).wp E nt rd fr h Q := Eq.trans rfl rfl
def r54_10 : List GO := [⟨none, some 2, .assign (.const (.string ⟨⟨[48]⟩⟩))⟩]
theorem r54_10_w {E : Env} {fr : Fr} {h : Heap} {Q : Fr → Heap → Prop} : opsW E r54_10 fr h Q = opsW E [⟨none, some 2, .assign (.const (.string ⟨⟨[48]⟩⟩))⟩] fr h Q := Eq.trans rfl rfl
def s54_11 : GC := .seq (.ops r54_10) .ret
theorem s54_11_w {E : Env} {nt : Nat} {rd : Option Nat} {fr : Fr} {h : Heap} {Q : Ex → Fr → Heap → Prop} : s54_11.wp E nt rd fr h Q = (GC.seq (.ops r54_10) .ret).wp E nt rd fr h Q := Eq.trans rfl rfl
def s54_12 : GC := .cond (.tmp 19) s54_11 .skip
theorem s54_12_w {E : Env} {nt : Nat} {rd : Option Nat} {fr : Fr} {h : Heap} {Q : Ex → Fr → Heap → Prop} : s54_12.wp E nt rd fr h Q = (GC.cond (.tmp 19) s54_11 .skip).wp E nt rd fr h Q := Eq.trans rfl rfl
def r54_13 : List GO := [⟨none, some 20, .move (.tmp 0)⟩,
  ⟨none, some 21, .binOp .eql 27 (.tmp 20) (.const (.float .f64 0)) 27⟩,
  ⟨none, some 19, .assign (.tmp 21)⟩]
theorem r54_13_w {E : Env} {fr : Fr} {h : Heap} {Q : Fr → Heap → Prop} : opsW E r54_13 fr h Q = opsW E [⟨none, some 20, .move (.tmp 0)⟩,
  ⟨none, some 21, .binOp .eql 27 (.tmp 20) (.const (.float .f64 0)) 27⟩,
  ⟨none, some 19, .assign (.tmp 21)⟩] fr h Q := Eq.trans rfl rfl
def s54_14 : GC := .seq (.ops r54_13) s54_12
theorem s54_14_w {E : Env} {nt : Nat} {rd : Option Nat} {fr : Fr} {h : Heap} {Q : Ex → Fr → Heap → Prop} : s54_14.wp E nt rd fr h Q = (GC.seq (.ops r54_13) s54_12).wp E nt rd fr h Q := Eq.trans rfl rfl
def s54_15 : GC := .cond (.tmp 12) s54_9 s54_14
theorem s54_15_w {E : Env} {nt : Nat} {rd : Option Nat} {fr : Fr} {h : Heap} {Q : Ex → Fr → Heap → Prop} : s54_15.wp E nt rd fr h Q = (GC.cond (.tmp 12) s54_9 s54_14).wp E nt rd fr h Q := Eq.trans rfl rfl
def r54_16 : List GO := [⟨none, some 13, .move (.tmp 0)⟩,
  ⟨none, some 14, .binOp .eql 27 (.tmp 13) (.const (.float .f64 0)) 27⟩,
  ⟨none, some 15, .move (.tmp 14)⟩,
  ⟨some (15, true), some 16, .move (.tmp 0)⟩,
  ⟨some (15, true), some 17, .call ⟨.value (.func 72), ⟨[.tmp 16]⟩, ⟨[27]⟩⟩⟩,
  ⟨none, some 18, .pick (.tmp 15) (.tmp 17) (.const (.bool false))⟩,
  ⟨none, some 12, .assign (.tmp 18)⟩]
theorem r54_16_w {E : Env} {fr : Fr} {h : Heap} {Q : Fr → Heap → Prop} : opsW E r54_16 fr h Q = opsW E [⟨none, some 13, .move (.tmp 0)⟩,
  ⟨none, some 14, .binOp .eql 27 (.tmp 13) (.const (.float .f64 0)) 27⟩,
  ⟨none, some 15, .move (.tmp 14)⟩,
  ⟨some (15, true), some 16, .move (.tmp 0)⟩,
  ⟨some (15, true), some 17, .call ⟨.value (.func 72), ⟨[.tmp 16]⟩, ⟨[27]⟩⟩⟩,
  ⟨none, some 18, .pick (.tmp 15) (.tmp 17) (.const (.bool false))⟩,
  ⟨none, some 12, .assign (.tmp 18)⟩] fr h Q := Eq.trans rfl rfl
def s54_17 : GC := .seq (.ops r54_16) s54_15
theorem s54_17_w {E : Env} {nt : Nat} {rd : Option Nat} {fr : Fr} {h : Heap} {Q : Ex → Fr → Heap → Prop} : s54_17.wp E nt rd fr h Q = (GC.seq (.ops r54_16) s54_15).wp E nt rd fr h Q := Eq.trans rfl rfl
def s54_18 : GC := .cond (.tmp 9) s54_7 s54_17
theorem s54_18_w {E : Env} {nt : Nat} {rd : Option Nat} {fr : Fr} {h : Heap} {Q : Ex → Fr → Heap → Prop} : s54_18.wp E nt rd fr h Q = (GC.cond (.tmp 9) s54_7 s54_17).wp E nt rd fr h Q := Eq.trans rfl rfl
def r54_19 : List GO := [⟨none, some 10, .move (.tmp 0)⟩,
  ⟨none, some 11, .call ⟨.value (.func 71), ⟨[.tmp 10, .const (.int .i64 (-1))]⟩, ⟨[27, 3]⟩⟩⟩,
  ⟨none, some 9, .assign (.tmp 11)⟩]
theorem r54_19_w {E : Env} {fr : Fr} {h : Heap} {Q : Fr → Heap → Prop} : opsW E r54_19 fr h Q = opsW E [⟨none, some 10, .move (.tmp 0)⟩,
  ⟨none, some 11, .call ⟨.value (.func 71), ⟨[.tmp 10, .const (.int .i64 (-1))]⟩, ⟨[27, 3]⟩⟩⟩,
  ⟨none, some 9, .assign (.tmp 11)⟩] fr h Q := Eq.trans rfl rfl
def s54_20 : GC := .seq (.ops r54_19) s54_18
theorem s54_20_w {E : Env} {nt : Nat} {rd : Option Nat} {fr : Fr} {h : Heap} {Q : Ex → Fr → Heap → Prop} : s54_20.wp E nt rd fr h Q = (GC.seq (.ops r54_19) s54_18).wp E nt rd fr h Q := Eq.trans rfl rfl
def s54_21 : GC := .cond (.tmp 6) s54_5 s54_20
theorem s54_21_w {E : Env} {nt : Nat} {rd : Option Nat} {fr : Fr} {h : Heap} {Q : Ex → Fr → Heap → Prop} : s54_21.wp E nt rd fr h Q = (GC.cond (.tmp 6) s54_5 s54_20).wp E nt rd fr h Q := Eq.trans rfl rfl
def r54_22 : List GO := [⟨none, some 7, .move (.tmp 0)⟩,
  ⟨none, some 8, .call ⟨.value (.func 71), ⟨[.tmp 7, .const (.int .i64 1)]⟩, ⟨[27, 3]⟩⟩⟩,
  ⟨none, some 6, .assign (.tmp 8)⟩]
theorem r54_22_w {E : Env} {fr : Fr} {h : Heap} {Q : Fr → Heap → Prop} : opsW E r54_22 fr h Q = opsW E [⟨none, some 7, .move (.tmp 0)⟩,
  ⟨none, some 8, .call ⟨.value (.func 71), ⟨[.tmp 7, .const (.int .i64 1)]⟩, ⟨[27, 3]⟩⟩⟩,
  ⟨none, some 6, .assign (.tmp 8)⟩] fr h Q := Eq.trans rfl rfl
def s54_23 : GC := .seq (.ops r54_22) s54_21
theorem s54_23_w {E : Env} {nt : Nat} {rd : Option Nat} {fr : Fr} {h : Heap} {Q : Ex → Fr → Heap → Prop} : s54_23.wp E nt rd fr h Q = (GC.seq (.ops r54_22) s54_21).wp E nt rd fr h Q := Eq.trans rfl rfl
def s54_24 : GC := .cond (.tmp 3) s54_3 s54_23
theorem s54_24_w {E : Env} {nt : Nat} {rd : Option Nat} {fr : Fr} {h : Heap} {Q : Ex → Fr → Heap → Prop} : s54_24.wp E nt rd fr h Q = (GC.cond (.tmp 3) s54_3 s54_23).wp E nt rd fr h Q := Eq.trans rfl rfl
def r54_25 : List GO := [⟨none, some 4, .move (.tmp 0)⟩,
  ⟨none, some 5, .call ⟨.value (.func 63), ⟨[.tmp 4]⟩, ⟨[27]⟩⟩⟩,
  ⟨none, some 3, .assign (.tmp 5)⟩]
theorem r54_25_w {E : Env} {fr : Fr} {h : Heap} {Q : Fr → Heap → Prop} : opsW E r54_25 fr h Q = opsW E [⟨none, some 4, .move (.tmp 0)⟩,
  ⟨none, some 5, .call ⟨.value (.func 63), ⟨[.tmp 4]⟩, ⟨[27]⟩⟩⟩,
  ⟨none, some 3, .assign (.tmp 5)⟩] fr h Q := Eq.trans rfl rfl
def s54_26 : GC := .seq (.ops r54_25) s54_24
theorem s54_26_w {E : Env} {nt : Nat} {rd : Option Nat} {fr : Fr} {h : Heap} {Q : Ex → Fr → Heap → Prop} : s54_26.wp E nt rd fr h Q = (GC.seq (.ops r54_25) s54_24).wp E nt rd fr h Q := Eq.trans rfl rfl
def s54_27 : GC := .seq (.block 0 s54_26) s54_1
theorem s54_27_w {E : Env} {nt : Nat} {rd : Option Nat} {fr : Fr} {h : Heap} {Q : Ex → Fr → Heap → Prop} : s54_27.wp E nt rd fr h Q = (GC.seq (.block 0 s54_26) s54_1).wp E nt rd fr h Q := Eq.trans rfl rfl
def r54_28 : List GO := [⟨none, some 2, .assign (.const (.string ⟨⟨[]⟩⟩))⟩]
theorem r54_28_w {E : Env} {fr : Fr} {h : Heap} {Q : Fr → Heap → Prop} : opsW E r54_28 fr h Q = opsW E [⟨none, some 2, .assign (.const (.string ⟨⟨[]⟩⟩))⟩] fr h Q := Eq.trans rfl rfl
def s54_29 : GC := .seq (.ops r54_28) s54_27
theorem s54_29_w {E : Env} {nt : Nat} {rd : Option Nat} {fr : Fr} {h : Heap} {Q : Ex → Fr → Heap → Prop} : s54_29.wp E nt rd fr h Q = (GC.seq (.ops r54_28) s54_27).wp E nt rd fr h Q := Eq.trans rfl rfl
theorem c54 : Tryd.f54.body.bind (clean env 22) = some s54_29 := by kernel_rfl
theorem e54 : env.funs.get 54 = some Tryd.f54 := by kernel_rfl
theorem F54 {args : List Value} {h : Heap} {K : Value → Heap → Prop} (hl : args.length = 1) (w : s54_29.wp env 22 none (setAll args 0 .leaf) h (resK env [.tmp 2] K)) : Ret env (.func 54) args h K :=
  Ret.of_body' rfl e54 c54 rfl rfl (by rw [hl]; decide) w
/-! math.IsNaN -/
def r63_0 : List GO := [⟨none, some 3, .move (.tmp 0)⟩,
  ⟨none, some 4, .move (.tmp 0)⟩,
  ⟨none, some 5, .binOp .neq 27 (.tmp 3) (.tmp 4) 27⟩,
  ⟨none, some 2, .assign (.tmp 5)⟩]
theorem r63_0_w {E : Env} {fr : Fr} {h : Heap} {Q : Fr → Heap → Prop} : opsW E r63_0 fr h Q = opsW E [⟨none, some 3, .move (.tmp 0)⟩,
  ⟨none, some 4, .move (.tmp 0)⟩,
  ⟨none, some 5, .binOp .neq 27 (.tmp 3) (.tmp 4) 27⟩,
  ⟨none, some 2, .assign (.tmp 5)⟩] fr h Q := Eq.trans rfl rfl
def s63_1 : GC := .seq (.ops r63_0) .ret
theorem s63_1_w {E : Env} {nt : Nat} {rd : Option Nat} {fr : Fr} {h : Heap} {Q : Ex → Fr → Heap → Prop} : s63_1.wp E nt rd fr h Q = (GC.seq (.ops r63_0) .ret).wp E nt rd fr h Q := Eq.trans rfl rfl
def r63_2 : List GO := [⟨none, some 2, .assign (.const (.bool false))⟩]
theorem r63_2_w {E : Env} {fr : Fr} {h : Heap} {Q : Fr → Heap → Prop} : opsW E r63_2 fr h Q = opsW E [⟨none, some 2, .assign (.const (.bool false))⟩] fr h Q := Eq.trans rfl rfl
def s63_3 : GC := .seq (.ops r63_2) s63_1
theorem s63_3_w {E : Env} {nt : Nat} {rd : Option Nat} {fr : Fr} {h : Heap} {Q : Ex → Fr → Heap → Prop} : s63_3.wp E nt rd fr h Q = (GC.seq (.ops r63_2) s63_1).wp E nt rd fr h Q := Eq.trans rfl rfl
theorem c63 : Tryd.f63.body.bind (clean env 6) = some s63_3 := by kernel_rfl
theorem e63 : env.funs.get 63 = some Tryd.f63 := by kernel_rfl
theorem F63 {args : List Value} {h : Heap} {K : Value → Heap → Prop} (hl : args.length = 1) (w : s63_3.wp env 6 none (setAll args 0 .leaf) h (resK env [.tmp 2] K)) : Ret env (.func 63) args h K :=
  Ret.of_body' rfl e63 c63 rfl rfl (by rw [hl]; decide) w
/-! internal/strconv.Itoa -/
def r66_0 : List GO := [⟨none, some 3, .move (.tmp 0)⟩,
  ⟨none, some 4, .call ⟨.value (.func 83), ⟨[.tmp 3, .const (.int .i64 10)]⟩, ⟨[2, 3]⟩⟩⟩,
  ⟨none, some 2, .assign (.tmp 4)⟩]
theorem r66_0_w {E : Env} {fr : Fr} {h : Heap} {Q : Fr → Heap → Prop} : opsW E r66_0 fr h Q = opsW E [⟨none, some 3, .move (.tmp 0)⟩,
  ⟨none, some 4, .call ⟨.value (.func 83), ⟨[.tmp 3, .const (.int .i64 10)]⟩, ⟨[2, 3]⟩⟩⟩,
  ⟨none, some 2, .assign (.tmp 4)⟩] fr h Q := Eq.trans rfl rfl
def s66_1 : GC := .seq (.ops r66_0) .ret
theorem s66_1_w {E : Env} {nt : Nat} {rd : Option Nat} {fr : Fr} {h : Heap} {Q : Ex → Fr → Heap → Prop} : s66_1.wp E nt rd fr h Q = (GC.seq (.ops r66_0) .ret).wp E nt rd fr h Q := Eq.trans rfl rfl
def r66_2 : List GO := [⟨none, some 2, .assign (.const (.string ⟨⟨[]⟩⟩))⟩]
theorem r66_2_w {E : Env} {fr : Fr} {h : Heap} {Q : Fr → Heap → Prop} : opsW E r66_2 fr h Q = opsW E [⟨none, some 2, .assign (.const (.string ⟨⟨[]⟩⟩))⟩] fr h Q := Eq.trans rfl rfl
def s66_3 : GC := .seq (.ops r66_2) s66_1
theorem s66_3_w {E : Env} {nt : Nat} {rd : Option Nat} {fr : Fr} {h : Heap} {Q : Ex → Fr → Heap → Prop} : s66_3.wp E nt rd fr h Q = (GC.seq (.ops r66_2) s66_1).wp E nt rd fr h Q := Eq.trans rfl rfl
theorem c66 : Tryd.f66.body.bind (clean env 5) = some s66_3 := by kernel_rfl
theorem e66 : env.funs.get 66 = some Tryd.f66 := by kernel_rfl
theorem F66 {args : List Value} {h : Heap} {K : Value → Heap → Prop} (hl : args.length = 1) (w : s66_3.wp env 5 none (setAll args 0 .leaf) h (resK env [.tmp 2] K)) : Ret env (.func 66) args h K :=
  Ret.of_body' rfl e66 c66 rfl rfl (by rw [hl]; decide) w
/-! strconv.Itoa -/
def r49_0 : List GO := [⟨none, some 3, .move (.tmp 0)⟩,
  ⟨none, some 4, .call ⟨.value (.func 66), ⟨[.tmp 3]⟩, ⟨[3]⟩⟩⟩,
  ⟨none, some 2, .assign (.tmp 4)⟩]
theorem r49_0_w {E : Env} {fr : Fr} {h : Heap} {Q : Fr → Heap → Prop} : opsW E r49_0 fr h Q = opsW E [⟨none, some 3, .move (.tmp 0)⟩,
  ⟨none, some 4, .call ⟨.value (.func 66), ⟨[.tmp 3]⟩, ⟨[3]⟩⟩⟩,
  ⟨none, some 2, .assign (.tmp 4)⟩] fr h Q := Eq.trans rfl rfl
def s49_1 : GC := .seq (.ops r49_0) .ret
theorem s49_1_w {E : Env} {nt : Nat} {rd : Option Nat} {fr : Fr} {h : Heap} {Q : Ex → Fr → Heap → Prop} : s49_1.wp E nt rd fr h Q = (GC.seq (.ops r49_0) .ret).wp E nt rd fr h Q := Eq.trans rfl rfl
def r49_2 : List GO := [⟨none, some 2, .assign (.const (.string ⟨⟨[]⟩⟩))⟩]
theorem r49_2_w {E : Env} {fr : Fr} {h : Heap} {Q : Fr → Heap → Prop} : opsW E r49_2 fr h Q = opsW E [⟨none, some 2, .assign (.const (.string ⟨⟨[]⟩⟩))⟩] fr h Q := Eq.trans rfl rfl
def s49_3 : GC := .seq (.ops r49_2) s49_1
theorem s49_3_w {E : Env} {nt : Nat} {rd : Option Nat} {fr : Fr} {h : Heap} {Q : Ex → Fr → Heap → Prop} : s49_3.wp E nt rd fr h Q = (GC.seq (.ops r49_2) s49_1).wp E nt rd fr h Q := Eq.trans rfl rfl
theorem c49 : Tryd.f49.body.bind (clean env 5) = some s49_3 := by kernel_rfl
theorem e49 : env.funs.get 49 = some Tryd.f49 := by kernel_rfl
theorem F49 {args : List Value} {h : Heap} {K : Value → Heap → Prop} (hl : args.length = 1) (w : s49_3.wp env 5 none (setAll args 0 .leaf) h (resK env [.tmp 2] K)) : Ret env (.func 49) args h K :=
  Ret.of_body' rfl e49 c49 rfl rfl (by rw [hl]; decide) w
/-! internal/strconv.FormatUint -/
def r67_0 : List GO := [⟨none, some 31, .move (.tmp 8)⟩,
  ⟨none, some 4, .assign (.tmp 31)⟩]
theorem r67_0_w {E : Env} {fr : Fr} {h : Heap} {Q : Fr → Heap → Prop} : opsW E r67_0 fr h Q = opsW E [⟨none, some 31, .move (.tmp 8)⟩,
  ⟨none, some 4, .assign (.tmp 31)⟩] fr h Q := Eq.trans rfl rfl
def s67_1 : GC := .seq (.ops r67_0) .ret
theorem s67_1_w {E : Env} {nt : Nat} {rd : Option Nat} {fr : Fr} {h : Heap} {Q : Ex → Fr → Heap → Prop} : s67_1.wp E nt rd fr h Q = (GC.seq (.ops r67_0) .ret).wp E nt rd fr h Q := Eq.trans rfl rfl
def r67_2 : List GO := [⟨none, some 26, .move (.tmp 0)⟩,
  ⟨none, some 27, .move (.tmp 1)⟩,
  ⟨none, some 28, .call ⟨.value (.func 87), ⟨[.const (.slice none 0 0), .tmp 26, .tmp 27, .const (.bool false), .const (.bool false)]⟩, ⟨[87, 23, 3, 4, 4]⟩⟩⟩,
  ⟨none, some 25, .move (.tmp 28)⟩,
  ⟨none, some 29, .extract (.tmp 25) 0⟩,
  ⟨none, some 30, .extract (.tmp 25) 1⟩,
  ⟨none, some 7, .assign (.tmp 29)⟩,
  ⟨none, some 8, .assign (.tmp 30)⟩]
theorem r67_2_w {E : Env} {fr : Fr} {h : Heap} {Q : Fr → Heap → Prop} : opsW E r67_2 fr h Q = opsW E [⟨none, some 26, .move (.tmp 0)⟩,
  ⟨none, some 27, .move (.tmp 1)⟩,
  ⟨none, some 28, .call ⟨.value (.func 87), ⟨[.const (.slice none 0 0), .tmp 26, .tmp 27, .const (.bool false), .const (.bool false)]⟩, ⟨[87, 23, 3, 4, 4]⟩⟩⟩,
  ⟨none, some 25, .move (.tmp 28)⟩,
  ⟨none, some 29, .extract (.tmp 25) 0⟩,
  ⟨none, some 30, .extract (.tmp 25) 1⟩,
  ⟨none, some 7, .assign (.tmp 29)⟩,
  ⟨none, some 8, .assign (.tmp 30)⟩] fr h Q := Eq.trans rfl rfl
def s67_3 : GC := .seq (.ops r67_2) s67_1
theorem s67_3_w {E : Env} {nt : Nat} {rd : Option Nat} {fr : Fr} {h : Heap} {Q : Ex → Fr → Heap → Prop} : s67_3.wp E nt rd fr h Q = (GC.seq (.ops r67_2) s67_1).wp E nt rd fr h Q := Eq.trans rfl rfl
def r67_4 : List GO := [⟨none, some 22, .move (.tmp 6)⟩,
  ⟨none, some 23, .slice 99 (.tmp 5) none (some (.tmp 22)) none⟩,
  ⟨none, some 24, .convert 87 9 (.tmp 23)⟩,
  ⟨none, some 4, .assign (.tmp 24)⟩]
theorem r67_4_w {E : Env} {fr : Fr} {h : Heap} {Q : Fr → Heap → Prop} : opsW E r67_4 fr h Q = opsW E [⟨none, some 22, .move (.tmp 6)⟩,
  ⟨none, some 23, .slice 99 (.tmp 5) none (some (.tmp 22)) none⟩,
  ⟨none, some 24, .convert 87 9 (.tmp 23)⟩,
  ⟨none, some 4, .assign (.tmp 24)⟩] fr h Q := Eq.trans rfl rfl
def s67_5 : GC := .seq (.ops r67_4) .ret
theorem s67_5_w {E : Env} {nt : Nat} {rd : Option Nat} {fr : Fr} {h : Heap} {Q : Ex → Fr → Heap → Prop} : s67_5.wp E nt rd fr h Q = (GC.seq (.ops r67_4) .ret).wp E nt rd fr h Q := Eq.trans rfl rfl
def r67_6 : List GO := [⟨none, some 18, .move (.tmp 6)⟩,
  ⟨none, some 19, .slice 99 (.tmp 5) none (some (.tmp 18)) none⟩,
  ⟨none, some 20, .move (.tmp 0)⟩,
  ⟨none, some 21, .call ⟨.value (.func 86), ⟨[.tmp 19, .tmp 20]⟩, ⟨[87, 23]⟩⟩⟩]
theorem r67_6_w {E : Env} {fr : Fr} {h : Heap} {Q : Fr → Heap → Prop} : opsW E r67_6 fr h Q = opsW E [⟨none, some 18, .move (.tmp 6)⟩,
  ⟨none, some 19, .slice 99 (.tmp 5) none (some (.tmp 18)) none⟩,
  ⟨none, some 20, .move (.tmp 0)⟩,
  ⟨none, some 21, .call ⟨.value (.func 86), ⟨[.tmp 19, .tmp 20]⟩, ⟨[87, 23]⟩⟩⟩] fr h Q := Eq.trans rfl rfl
def s67_7 : GC := .seq (.ops r67_6) s67_5
theorem s67_7_w {E : Env} {nt : Nat} {rd : Option Nat} {fr : Fr} {h : Heap} {Q : Ex → Fr → Heap → Prop} : s67_7.wp E nt rd fr h Q = (GC.seq (.ops r67_6) s67_5).wp E nt rd fr h Q := Eq.trans rfl rfl
def r67_8 : List GO := [⟨none, some 16, .move (.tmp 0)⟩,
  ⟨none, some 17, .call ⟨.value (.func 85), ⟨[.tmp 16]⟩, ⟨[23]⟩⟩⟩,
  ⟨none, some 6, .assign (.tmp 17)⟩]
theorem r67_8_w {E : Env} {fr : Fr} {h : Heap} {Q : Fr → Heap → Prop} : opsW E r67_8 fr h Q = opsW E [⟨none, some 16, .move (.tmp 0)⟩,
  ⟨none, some 17, .call ⟨.value (.func 85), ⟨[.tmp 16]⟩, ⟨[23]⟩⟩⟩,
  ⟨none, some 6, .assign (.tmp 17)⟩] fr h Q := Eq.trans rfl rfl
def s67_9 : GC := .seq (.ops r67_8) s67_7
theorem s67_9_w {E : Env} {nt : Nat} {rd : Option Nat} {fr : Fr} {h : Heap} {Q : Ex → Fr → Heap → Prop} : s67_9.wp E nt rd fr h Q = (GC.seq (.ops r67_8) s67_7).wp E nt rd fr h Q := Eq.trans rfl rfl
def r67_10 : List GO := [⟨none, some 5, .alloc 99⟩]
theorem r67_10_w {E : Env} {fr : Fr} {h : Heap} {Q : Fr → Heap → Prop} : opsW E r67_10 fr h Q = opsW E [⟨none, some 5, .alloc 99⟩] fr h Q := Eq.trans rfl rfl
def s67_11 : GC := .seq (.ops r67_10) s67_9
theorem s67_11_w {E : Env} {nt : Nat} {rd : Option Nat} {fr : Fr} {h : Heap} {Q : Ex → Fr → Heap → Prop} : s67_11.wp E nt rd fr h Q = (GC.seq (.ops r67_10) s67_9).wp E nt rd fr h Q := Eq.trans rfl rfl
def r67_12 : List GO := [⟨none, some 13, .move (.tmp 0)⟩,
  ⟨none, some 14, .convert 23 3 (.tmp 13)⟩,
  ⟨none, some 15, .call ⟨.value (.func 84), ⟨[.tmp 14]⟩, ⟨[3]⟩⟩⟩,
  ⟨none, some 4, .assign (.tmp 15)⟩]
theorem r67_12_w {E : Env} {fr : Fr} {h : Heap} {Q : Fr → Heap → Prop} : opsW E r67_12 fr h Q = opsW E [⟨none, some 13, .move (.tmp 0)⟩,
  ⟨none, some 14, .convert 23 3 (.tmp 13)⟩,
  ⟨none, some 15, .call ⟨.value (.func 84), ⟨[.tmp 14]⟩, ⟨[3]⟩⟩⟩,
  ⟨none, some 4, .assign (.tmp 15)⟩] fr h Q := Eq.trans rfl rfl
def s67_13 : GC := .seq (.ops r67_12) .ret
theorem s67_13_w {E : Env} {nt : Nat} {rd : Option Nat} {fr : Fr} {h : Heap} {Q : Ex → Fr → Heap → Prop} : s67_13.wp E nt rd fr h Q = (GC.seq (.ops r67_12) .ret).wp E nt rd fr h Q := Eq.trans rfl rfl
def s67_14 : GC := .cond (.tmp 12) s67_13 .skip
theorem s67_14_w {E : Env} {nt : Nat} {rd : Option Nat} {fr : Fr} {h : Heap} {Q : Ex → Fr → Heap → Prop} : s67_14.wp E nt rd fr h Q = (GC.cond (.tmp 12) s67_13 .skip).wp E nt rd fr h Q := Eq.trans rfl rfl
def r67_15 : List GO := [⟨none, some 11, .move (.tmp 0)⟩,
  ⟨none, some 12, .binOp .lss 23 (.tmp 11) (.const (.int .u64 100)) 23⟩]
theorem r67_15_w {E : Env} {fr : Fr} {h : Heap} {Q : Fr → Heap → Prop} : opsW E r67_15 fr h Q = opsW E [⟨none, some 11, .move (.tmp 0)⟩,
  ⟨none, some 12, .binOp .lss 23 (.tmp 11) (.const (.int .u64 100)) 23⟩] fr h Q := Eq.trans rfl rfl
def s67_16 : GC := .seq (.ops r67_15) s67_14
theorem s67_16_w {E : Env} {nt : Nat} {rd : Option Nat} {fr : Fr} {h : Heap} {Q : Ex → Fr → Heap → Prop} : s67_16.wp E nt rd fr h Q = (GC.seq (.ops r67_15) s67_14).wp E nt rd fr h Q := Eq.trans rfl rfl
def s67_17 : GC := .seq (s67_16) s67_11
theorem s67_17_w {E : Env} {nt : Nat} {rd : Option Nat} {fr : Fr} {h : Heap} {Q : Ex → Fr → Heap → Prop} : s67_17.wp E nt rd fr h Q = (GC.seq (s67_16) s67_11).wp E nt rd fr h Q := Eq.trans rfl rfl
def s67_18 : GC := .cond (.tmp 10) s67_17 .skip
theorem s67_18_w {E : Env} {nt : Nat} {rd : Option Nat} {fr : Fr} {h : Heap} {Q : Ex → Fr → Heap → Prop} : s67_18.wp E nt rd fr h Q = (GC.cond (.tmp 10) s67_17 .skip).wp E nt rd fr h Q := Eq.trans rfl rfl
def r67_19 : List GO := [⟨none, some 9, .move (.tmp 1)⟩,
  ⟨none, some 10, .binOp .eql 3 (.tmp 9) (.const (.int .i64 10)) 3⟩]
theorem r67_19_w {E : Env} {fr : Fr} {h : Heap} {Q : Fr → Heap → Prop} : opsW E r67_19 fr h Q = opsW E [⟨none, some 9, .move (.tmp 1)⟩,
  ⟨none, some 10, .binOp .eql 3 (.tmp 9) (.const (.int .i64 10)) 3⟩] fr h Q := Eq.trans rfl rfl
def s67_20 : GC := .seq (.ops r67_19) s67_18
theorem s67_20_w {E : Env} {nt : Nat} {rd : Option Nat} {fr : Fr} {h : Heap} {Q : Ex → Fr → Heap → Prop} : s67_20.wp E nt rd fr h Q = (GC.seq (.ops r67_19) s67_18).wp E nt rd fr h Q := Eq.trans rfl rfl
def s67_21 : GC := .seq (s67_20) s67_3
theorem s67_21_w {E : Env} {nt : Nat} {rd : Option Nat} {fr : Fr} {h : Heap} {Q : Ex → Fr → Heap → Prop} : s67_21.wp E nt rd fr h Q = (GC.seq (s67_20) s67_3).wp E nt rd fr h Q := Eq.trans rfl rfl
def r67_22 : List GO := [⟨none, some 4, .assign (.const (.string ⟨⟨[]⟩⟩))⟩]
theorem r67_22_w {E : Env} {fr : Fr} {h : Heap} {Q : Fr → Heap → Prop} : opsW E r67_22 fr h Q = opsW E [⟨none, some 4, .assign (.const (.string ⟨⟨[]⟩⟩))⟩] fr h Q := Eq.trans rfl rfl
def s67_23 : GC := .seq (.ops r67_22) s67_21
theorem s67_23_w {E : Env} {nt : Nat} {rd : Option Nat} {fr : Fr} {h : Heap} {Q : Ex → Fr → Heap → Prop} : s67_23.wp E nt rd fr h Q = (GC.seq (.ops r67_22) s67_21).wp E nt rd fr h Q := Eq.trans rfl rfl
theorem c67 : Tryd.f67.body.bind (clean env 32) = some s67_23 := by kernel_rfl
theorem e67 : env.funs.get 67 = some Tryd.f67 := by kernel_rfl
theorem F67 {args : List Value} {h : Heap} {K : Value → Heap → Prop} (hl : args.length = 2) (w : s67_23.wp env 32 none (setAll args 0 .leaf) h (resK env [.tmp 4] K)) : Ret env (.func 67) args h K :=
  Ret.of_body' rfl e67 c67 rfl rfl (by rw [hl]; decide) w
/-! math.IsInf -/
def r71_0 : List GO := [⟨none, some 13, .move (.tmp 0)⟩,
  ⟨none, some 14, .binOp .gtr 27 (.tmp 13) (.const (.float .f64 9218868437227405311)) 27⟩,
  ⟨none, some 4, .assign (.tmp 14)⟩]
theorem r71_0_w {E : Env} {fr : Fr} {h : Heap} {Q : Fr → Heap → Prop} : opsW E r71_0 fr h Q = opsW E [⟨none, some 13, .move (.tmp 0)⟩,
  ⟨none, some 14, .binOp .gtr 27 (.tmp 13) (.const (.float .f64 9218868437227405311)) 27⟩,
  ⟨none, some 4, .assign (.tmp 14)⟩] fr h Q := Eq.trans rfl rfl
def s71_1 : GC := .seq (.ops r71_0) .ret
theorem s71_1_w {E : Env} {nt : Nat} {rd : Option Nat} {fr : Fr} {h : Heap} {Q : Ex → Fr → Heap → Prop} : s71_1.wp E nt rd fr h Q = (GC.seq (.ops r71_0) .ret).wp E nt rd fr h Q := Eq.trans rfl rfl
def r71_2 : List GO := [⟨none, some 7, .move (.tmp 0)⟩,
  ⟨none, some 8, .call ⟨.value (.func 90), ⟨[.tmp 7]⟩, ⟨[27]⟩⟩⟩,
  ⟨none, some 0, .assign (.tmp 8)⟩]
theorem r71_2_w {E : Env} {fr : Fr} {h : Heap} {Q : Fr → Heap → Prop} : opsW E r71_2 fr h Q = opsW E [⟨none, some 7, .move (.tmp 0)⟩,
  ⟨none, some 8, .call ⟨.value (.func 90), ⟨[.tmp 7]⟩, ⟨[27]⟩⟩⟩,
  ⟨none, some 0, .assign (.tmp 8)⟩] fr h Q := Eq.trans rfl rfl
def s71_3 : GC := .ops r71_2
theorem s71_3_w {E : Env} {nt : Nat} {rd : Option Nat} {fr : Fr} {h : Heap} {Q : Ex → Fr → Heap → Prop} : s71_3.wp E nt rd fr h Q = (GC.ops r71_2).wp E nt rd fr h Q := Eq.trans rfl rfl
def r71_4 : List GO := [⟨none, some 11, .move (.tmp 0)⟩,
  ⟨none, some 12, .unOp .neg 27 (.tmp 11)⟩,
  ⟨none, some 0, .assign (.tmp 12)⟩]
theorem r71_4_w {E : Env} {fr : Fr} {h : Heap} {Q : Fr → Heap → Prop} : opsW E r71_4 fr h Q = opsW E [⟨none, some 11, .move (.tmp 0)⟩,
  ⟨none, some 12, .unOp .neg 27 (.tmp 11)⟩,
  ⟨none, some 0, .assign (.tmp 12)⟩] fr h Q := Eq.trans rfl rfl
def s71_5 : GC := .ops r71_4
theorem s71_5_w {E : Env} {nt : Nat} {rd : Option Nat} {fr : Fr} {h : Heap} {Q : Ex → Fr → Heap → Prop} : s71_5.wp E nt rd fr h Q = (GC.ops r71_4).wp E nt rd fr h Q := Eq.trans rfl rfl
def s71_6 : GC := .cond (.tmp 10) s71_5 .skip
theorem s71_6_w {E : Env} {nt : Nat} {rd : Option Nat} {fr : Fr} {h : Heap} {Q : Ex → Fr → Heap → Prop} : s71_6.wp E nt rd fr h Q = (GC.cond (.tmp 10) s71_5 .skip).wp E nt rd fr h Q := Eq.trans rfl rfl
def r71_7 : List GO := [⟨none, some 9, .move (.tmp 1)⟩,
  ⟨none, some 10, .binOp .lss 3 (.tmp 9) (.const (.int .i64 0)) 3⟩]
theorem r71_7_w {E : Env} {fr : Fr} {h : Heap} {Q : Fr → Heap → Prop} : opsW E r71_7 fr h Q = opsW E [⟨none, some 9, .move (.tmp 1)⟩,
  ⟨none, some 10, .binOp .lss 3 (.tmp 9) (.const (.int .i64 0)) 3⟩] fr h Q := Eq.trans rfl rfl
def s71_8 : GC := .seq (.ops r71_7) s71_6
theorem s71_8_w {E : Env} {nt : Nat} {rd : Option Nat} {fr : Fr} {h : Heap} {Q : Ex → Fr → Heap → Prop} : s71_8.wp E nt rd fr h Q = (GC.seq (.ops r71_7) s71_6).wp E nt rd fr h Q := Eq.trans rfl rfl
def s71_9 : GC := .cond (.tmp 6) s71_3 s71_8
theorem s71_9_w {E : Env} {nt : Nat} {rd : Option Nat} {fr : Fr} {h : Heap} {Q : Ex → Fr → Heap → Prop} : s71_9.wp E nt rd fr h Q = (GC.cond (.tmp 6) s71_3 s71_8).wp E nt rd fr h Q := Eq.trans rfl rfl
def r71_10 : List GO := [⟨none, some 5, .move (.tmp 1)⟩,
  ⟨none, some 6, .binOp .eql 3 (.tmp 5) (.const (.int .i64 0)) 3⟩]
theorem r71_10_w {E : Env} {fr : Fr} {h : Heap} {Q : Fr → Heap → Prop} : opsW E r71_10 fr h Q = opsW E [⟨none, some 5, .move (.tmp 1)⟩,
  ⟨none, some 6, .binOp .eql 3 (.tmp 5) (.const (.int .i64 0)) 3⟩] fr h Q := Eq.trans rfl rfl
def s71_11 : GC := .seq (.ops r71_10) s71_9
theorem s71_11_w {E : Env} {nt : Nat} {rd : Option Nat} {fr : Fr} {h : Heap} {Q : Ex → Fr → Heap → Prop} : s71_11.wp E nt rd fr h Q = (GC.seq (.ops r71_10) s71_9).wp E nt rd fr h Q := Eq.trans rfl rfl
def s71_12 : GC := .seq (s71_11) s71_1
theorem s71_12_w {E : Env} {nt : Nat} {rd : Option Nat} {fr : Fr} {h : Heap} {Q : Ex → Fr → Heap → Prop} : s71_12.wp E nt rd fr h Q = (GC.seq (s71_11) s71_1).wp E nt rd fr h Q := Eq.trans rfl rfl
def r71_13 : List GO := [⟨none, some 4, .assign (.const (.bool false))⟩]
theorem r71_13_w {E : Env} {fr : Fr} {h : Heap} {Q : Fr → Heap → Prop} : opsW E r71_13 fr h Q = opsW E [⟨none, some 4, .assign (.const (.bool false))⟩] fr h Q := Eq.trans rfl rfl
def s71_14 : GC := .seq (.ops r71_13) s71_12
theorem s71_14_w {E : Env} {nt : Nat} {rd : Option Nat} {fr : Fr} {h : Heap} {Q : Ex → Fr → Heap → Prop} : s71_14.wp E nt rd fr h Q = (GC.seq (.ops r71_13) s71_12).wp E nt rd fr h Q := Eq.trans rfl rfl
theorem c71 : Tryd.f71.body.bind (clean env 15) = some s71_14 := by kernel_rfl
theorem e71 : env.funs.get 71 = some Tryd.f71 := by kernel_rfl
theorem F71 {args : List Value} {h : Heap} {K : Value → Heap → Prop} (hl : args.length = 2) (w : s71_14.wp env 15 none (setAll args 0 .leaf) h (resK env [.tmp 4] K)) : Ret env (.func 71) args h K :=
  Ret.of_body' rfl e71 c71 rfl rfl (by rw [hl]; decide) w
/-! math.Signbit -/
def r72_0 : List GO := [⟨none, some 3, .move (.tmp 0)⟩,
  ⟨none, some 4, .call ⟨.value (.func 18), ⟨[.tmp 3]⟩, ⟨[27]⟩⟩⟩,
  ⟨none, some 5, .convert 23 2 (.tmp 4)⟩,
  ⟨none, some 6, .binOp .lss 2 (.tmp 5) (.const (.int .i64 0)) 2⟩,
  ⟨none, some 2, .assign (.tmp 6)⟩]
theorem r72_0_w {E : Env} {fr : Fr} {h : Heap} {Q : Fr → Heap → Prop} : opsW E r72_0 fr h Q = opsW E [⟨none, some 3, .move (.tmp 0)⟩,
  ⟨none, some 4, .call ⟨.value (.func 18), ⟨[.tmp 3]⟩, ⟨[27]⟩⟩⟩,
  ⟨none, some 5, .convert 23 2 (.tmp 4)⟩,
  ⟨none, some 6, .binOp .lss 2 (.tmp 5) (.const (.int .i64 0)) 2⟩,
  ⟨none, some 2, .assign (.tmp 6)⟩] fr h Q := Eq.trans rfl rfl
def s72_1 : GC := .seq (.ops r72_0) .ret
theorem s72_1_w {E : Env} {nt : Nat} {rd : Option Nat} {fr : Fr} {h : Heap} {Q : Ex → Fr → Heap → Prop} : s72_1.wp E nt rd fr h Q = (GC.seq (.ops r72_0) .ret).wp E nt rd fr h Q := Eq.trans rfl rfl
def r72_2 : List GO := [⟨none, some 2, .assign (.const (.bool false))⟩]
theorem r72_2_w {E : Env} {fr : Fr} {h : Heap} {Q : Fr → Heap → Prop} : opsW E r72_2 fr h Q = opsW E [⟨none, some 2, .assign (.const (.bool false))⟩] fr h Q := Eq.trans rfl rfl
def s72_3 : GC := .seq (.ops r72_2) s72_1
theorem s72_3_w {E : Env} {nt : Nat} {rd : Option Nat} {fr : Fr} {h : Heap} {Q : Ex → Fr → Heap → Prop} : s72_3.wp E nt rd fr h Q = (GC.seq (.ops r72_2) s72_1).wp E nt rd fr h Q := Eq.trans rfl rfl
theorem c72 : Tryd.f72.body.bind (clean env 7) = some s72_3 := by kernel_rfl
theorem e72 : env.funs.get 72 = some Tryd.f72 := by kernel_rfl
theorem F72 {args : List Value} {h : Heap} {K : Value → Heap → Prop} (hl : args.length = 1) (w : s72_3.wp env 7 none (setAll args 0 .leaf) h (resK env [.tmp 2] K)) : Ret env (.func 72) args h K :=
  Ret.of_body' rfl e72 c72 rfl rfl (by rw [hl]; decide) w
/-! internal/strconv.FormatInt -/
def r83_0 : List GO := [⟨none, some 53, .move (.tmp 9)⟩,
  ⟨none, some 4, .assign (.tmp 53)⟩]
theorem r83_0_w {E : Env} {fr : Fr} {h : Heap} {Q : Fr → Heap → Prop} : opsW E r83_0 fr h Q = opsW E [⟨none, some 53, .move (.tmp 9)⟩,
  ⟨none, some 4, .assign (.tmp 53)⟩] fr h Q := Eq.trans rfl rfl
def s83_1 : GC := .seq (.ops r83_0) .ret
theorem s83_1_w {E : Env} {nt : Nat} {rd : Option Nat} {fr : Fr} {h : Heap} {Q : Ex → Fr → Heap → Prop} : s83_1.wp E nt rd fr h Q = (GC.seq (.ops r83_0) .ret).wp E nt rd fr h Q := Eq.trans rfl rfl
def r83_2 : List GO := [⟨none, some 45, .move (.tmp 0)⟩,
  ⟨none, some 46, .convert 2 23 (.tmp 45)⟩,
  ⟨none, some 47, .move (.tmp 1)⟩,
  ⟨none, some 48, .move (.tmp 0)⟩,
  ⟨none, some 49, .binOp .lss 2 (.tmp 48) (.const (.int .i64 0)) 2⟩,
  ⟨none, some 50, .call ⟨.value (.func 87), ⟨[.const (.slice none 0 0), .tmp 46, .tmp 47, .tmp 49, .const (.bool false)]⟩, ⟨[87, 23, 3, 4, 4]⟩⟩⟩,
  ⟨none, some 44, .move (.tmp 50)⟩,
  ⟨none, some 51, .extract (.tmp 44) 0⟩,
  ⟨none, some 52, .extract (.tmp 44) 1⟩,
  ⟨none, some 8, .assign (.tmp 51)⟩,
  ⟨none, some 9, .assign (.tmp 52)⟩]
theorem r83_2_w {E : Env} {fr : Fr} {h : Heap} {Q : Fr → Heap → Prop} : opsW E r83_2 fr h Q = opsW E [⟨none, some 45, .move (.tmp 0)⟩,
  ⟨none, some 46, .convert 2 23 (.tmp 45)⟩,
  ⟨none, some 47, .move (.tmp 1)⟩,
  ⟨none, some 48, .move (.tmp 0)⟩,
  ⟨none, some 49, .binOp .lss 2 (.tmp 48) (.const (.int .i64 0)) 2⟩,
  ⟨none, some 50, .call ⟨.value (.func 87), ⟨[.const (.slice none 0 0), .tmp 46, .tmp 47, .tmp 49, .const (.bool false)]⟩, ⟨[87, 23, 3, 4, 4]⟩⟩⟩,
  ⟨none, some 44, .move (.tmp 50)⟩,
  ⟨none, some 51, .extract (.tmp 44) 0⟩,
  ⟨none, some 52, .extract (.tmp 44) 1⟩,
  ⟨none, some 8, .assign (.tmp 51)⟩,
  ⟨none, some 9, .assign (.tmp 52)⟩] fr h Q := Eq.trans rfl rfl
def s83_3 : GC := .seq (.ops r83_2) s83_1
theorem s83_3_w {E : Env} {nt : Nat} {rd : Option Nat} {fr : Fr} {h : Heap} {Q : Ex → Fr → Heap → Prop} : s83_3.wp E nt rd fr h Q = (GC.seq (.ops r83_2) s83_1).wp E nt rd fr h Q := Eq.trans rfl rfl
def r83_4 : List GO := [⟨none, some 40, .move (.tmp 7)⟩,
  ⟨none, some 41, .binOp .add 3 (.const (.int .i64 1)) (.tmp 40) 3⟩,
  ⟨none, some 42, .slice 99 (.tmp 5) (some (.const (.int .i64 1))) (some (.tmp 41)) none⟩,
  ⟨none, some 43, .convert 87 9 (.tmp 42)⟩,
  ⟨none, some 4, .assign (.tmp 43)⟩]
theorem r83_4_w {E : Env} {fr : Fr} {h : Heap} {Q : Fr → Heap → Prop} : opsW E r83_4 fr h Q = opsW E [⟨none, some 40, .move (.tmp 7)⟩,
  ⟨none, some 41, .binOp .add 3 (.const (.int .i64 1)) (.tmp 40) 3⟩,
  ⟨none, some 42, .slice 99 (.tmp 5) (some (.const (.int .i64 1))) (some (.tmp 41)) none⟩,
  ⟨none, some 43, .convert 87 9 (.tmp 42)⟩,
  ⟨none, some 4, .assign (.tmp 43)⟩] fr h Q := Eq.trans rfl rfl
def s83_5 : GC := .seq (.ops r83_4) .ret
theorem s83_5_w {E : Env} {nt : Nat} {rd : Option Nat} {fr : Fr} {h : Heap} {Q : Ex → Fr → Heap → Prop} : s83_5.wp E nt rd fr h Q = (GC.seq (.ops r83_4) .ret).wp E nt rd fr h Q := Eq.trans rfl rfl
def r83_6 : List GO := [⟨none, some 36, .move (.tmp 7)⟩,
  ⟨none, some 37, .binOp .add 3 (.const (.int .i64 1)) (.tmp 36) 3⟩,
  ⟨none, some 38, .slice 99 (.tmp 5) none (some (.tmp 37)) none⟩,
  ⟨none, some 39, .convert 87 9 (.tmp 38)⟩,
  ⟨none, some 4, .assign (.tmp 39)⟩]
theorem r83_6_w {E : Env} {fr : Fr} {h : Heap} {Q : Fr → Heap → Prop} : opsW E r83_6 fr h Q = opsW E [⟨none, some 36, .move (.tmp 7)⟩,
  ⟨none, some 37, .binOp .add 3 (.const (.int .i64 1)) (.tmp 36) 3⟩,
  ⟨none, some 38, .slice 99 (.tmp 5) none (some (.tmp 37)) none⟩,
  ⟨none, some 39, .convert 87 9 (.tmp 38)⟩,
  ⟨none, some 4, .assign (.tmp 39)⟩] fr h Q := Eq.trans rfl rfl
def s83_7 : GC := .seq (.ops r83_6) .ret
theorem s83_7_w {E : Env} {nt : Nat} {rd : Option Nat} {fr : Fr} {h : Heap} {Q : Ex → Fr → Heap → Prop} : s83_7.wp E nt rd fr h Q = (GC.seq (.ops r83_6) .ret).wp E nt rd fr h Q := Eq.trans rfl rfl
def r83_8 : List GO := [⟨none, some 35, .indexAddr 99 (.tmp 5) (.const (.int .i64 0))⟩,
  ⟨none, none, .store 5 (.tmp 35) (.const (.int .u8 45))⟩]
theorem r83_8_w {E : Env} {fr : Fr} {h : Heap} {Q : Fr → Heap → Prop} : opsW E r83_8 fr h Q = opsW E [⟨none, some 35, .indexAddr 99 (.tmp 5) (.const (.int .i64 0))⟩,
  ⟨none, none, .store 5 (.tmp 35) (.const (.int .u8 45))⟩] fr h Q := Eq.trans rfl rfl
def s83_9 : GC := .seq (.ops r83_8) s83_7
theorem s83_9_w {E : Env} {nt : Nat} {rd : Option Nat} {fr : Fr} {h : Heap} {Q : Ex → Fr → Heap → Prop} : s83_9.wp E nt rd fr h Q = (GC.seq (.ops r83_8) s83_7).wp E nt rd fr h Q := Eq.trans rfl rfl
def s83_10 : GC := .cond (.tmp 34) s83_9 .skip
theorem s83_10_w {E : Env} {nt : Nat} {rd : Option Nat} {fr : Fr} {h : Heap} {Q : Ex → Fr → Heap → Prop} : s83_10.wp E nt rd fr h Q = (GC.cond (.tmp 34) s83_9 .skip).wp E nt rd fr h Q := Eq.trans rfl rfl
def r83_11 : List GO := [⟨none, some 33, .move (.tmp 0)⟩,
  ⟨none, some 34, .binOp .lss 2 (.tmp 33) (.const (.int .i64 0)) 2⟩]
theorem r83_11_w {E : Env} {fr : Fr} {h : Heap} {Q : Fr → Heap → Prop} : opsW E r83_11 fr h Q = opsW E [⟨none, some 33, .move (.tmp 0)⟩,
  ⟨none, some 34, .binOp .lss 2 (.tmp 33) (.const (.int .i64 0)) 2⟩] fr h Q := Eq.trans rfl rfl
def s83_12 : GC := .seq (.ops r83_11) s83_10
theorem s83_12_w {E : Env} {nt : Nat} {rd : Option Nat} {fr : Fr} {h : Heap} {Q : Ex → Fr → Heap → Prop} : s83_12.wp E nt rd fr h Q = (GC.seq (.ops r83_11) s83_10).wp E nt rd fr h Q := Eq.trans rfl rfl
def s83_13 : GC := .seq (s83_12) s83_5
theorem s83_13_w {E : Env} {nt : Nat} {rd : Option Nat} {fr : Fr} {h : Heap} {Q : Ex → Fr → Heap → Prop} : s83_13.wp E nt rd fr h Q = (GC.seq (s83_12) s83_5).wp E nt rd fr h Q := Eq.trans rfl rfl
def r83_14 : List GO := [⟨none, some 28, .move (.tmp 7)⟩,
  ⟨none, some 29, .binOp .add 3 (.const (.int .i64 1)) (.tmp 28) 3⟩,
  ⟨none, some 30, .slice 99 (.tmp 5) (some (.const (.int .i64 1))) (some (.tmp 29)) none⟩,
  ⟨none, some 31, .move (.tmp 6)⟩,
  ⟨none, some 32, .call ⟨.value (.func 86), ⟨[.tmp 30, .tmp 31]⟩, ⟨[87, 23]⟩⟩⟩]
theorem r83_14_w {E : Env} {fr : Fr} {h : Heap} {Q : Fr → Heap → Prop} : opsW E r83_14 fr h Q = opsW E [⟨none, some 28, .move (.tmp 7)⟩,
  ⟨none, some 29, .binOp .add 3 (.const (.int .i64 1)) (.tmp 28) 3⟩,
  ⟨none, some 30, .slice 99 (.tmp 5) (some (.const (.int .i64 1))) (some (.tmp 29)) none⟩,
  ⟨none, some 31, .move (.tmp 6)⟩,
  ⟨none, some 32, .call ⟨.value (.func 86), ⟨[.tmp 30, .tmp 31]⟩, ⟨[87, 23]⟩⟩⟩] fr h Q := Eq.trans rfl rfl
def s83_15 : GC := .seq (.ops r83_14) s83_13
theorem s83_15_w {E : Env} {nt : Nat} {rd : Option Nat} {fr : Fr} {h : Heap} {Q : Ex → Fr → Heap → Prop} : s83_15.wp E nt rd fr h Q = (GC.seq (.ops r83_14) s83_13).wp E nt rd fr h Q := Eq.trans rfl rfl
def r83_16 : List GO := [⟨none, some 26, .move (.tmp 6)⟩,
  ⟨none, some 27, .call ⟨.value (.func 85), ⟨[.tmp 26]⟩, ⟨[23]⟩⟩⟩,
  ⟨none, some 7, .assign (.tmp 27)⟩]
theorem r83_16_w {E : Env} {fr : Fr} {h : Heap} {Q : Fr → Heap → Prop} : opsW E r83_16 fr h Q = opsW E [⟨none, some 26, .move (.tmp 6)⟩,
  ⟨none, some 27, .call ⟨.value (.func 85), ⟨[.tmp 26]⟩, ⟨[23]⟩⟩⟩,
  ⟨none, some 7, .assign (.tmp 27)⟩] fr h Q := Eq.trans rfl rfl
def s83_17 : GC := .seq (.ops r83_16) s83_15
theorem s83_17_w {E : Env} {nt : Nat} {rd : Option Nat} {fr : Fr} {h : Heap} {Q : Ex → Fr → Heap → Prop} : s83_17.wp E nt rd fr h Q = (GC.seq (.ops r83_16) s83_15).wp E nt rd fr h Q := Eq.trans rfl rfl
def r83_18 : List GO := [⟨none, some 24, .move (.tmp 6)⟩,
  ⟨none, some 25, .unOp .neg 23 (.tmp 24)⟩,
  ⟨none, some 6, .assign (.tmp 25)⟩]
theorem r83_18_w {E : Env} {fr : Fr} {h : Heap} {Q : Fr → Heap → Prop} : opsW E r83_18 fr h Q = opsW E [⟨none, some 24, .move (.tmp 6)⟩,
  ⟨none, some 25, .unOp .neg 23 (.tmp 24)⟩,
  ⟨none, some 6, .assign (.tmp 25)⟩] fr h Q := Eq.trans rfl rfl
def s83_19 : GC := .ops r83_18
theorem s83_19_w {E : Env} {nt : Nat} {rd : Option Nat} {fr : Fr} {h : Heap} {Q : Ex → Fr → Heap → Prop} : s83_19.wp E nt rd fr h Q = (GC.ops r83_18).wp E nt rd fr h Q := Eq.trans rfl rfl
def s83_20 : GC := .cond (.tmp 23) s83_19 .skip
theorem s83_20_w {E : Env} {nt : Nat} {rd : Option Nat} {fr : Fr} {h : Heap} {Q : Ex → Fr → Heap → Prop} : s83_20.wp E nt rd fr h Q = (GC.cond (.tmp 23) s83_19 .skip).wp E nt rd fr h Q := Eq.trans rfl rfl
def r83_21 : List GO := [⟨none, some 22, .move (.tmp 0)⟩,
  ⟨none, some 23, .binOp .lss 2 (.tmp 22) (.const (.int .i64 0)) 2⟩]
theorem r83_21_w {E : Env} {fr : Fr} {h : Heap} {Q : Fr → Heap → Prop} : opsW E r83_21 fr h Q = opsW E [⟨none, some 22, .move (.tmp 0)⟩,
  ⟨none, some 23, .binOp .lss 2 (.tmp 22) (.const (.int .i64 0)) 2⟩] fr h Q := Eq.trans rfl rfl
def s83_22 : GC := .seq (.ops r83_21) s83_20
theorem s83_22_w {E : Env} {nt : Nat} {rd : Option Nat} {fr : Fr} {h : Heap} {Q : Ex → Fr → Heap → Prop} : s83_22.wp E nt rd fr h Q = (GC.seq (.ops r83_21) s83_20).wp E nt rd fr h Q := Eq.trans rfl rfl
def s83_23 : GC := .seq (s83_22) s83_17
theorem s83_23_w {E : Env} {nt : Nat} {rd : Option Nat} {fr : Fr} {h : Heap} {Q : Ex → Fr → Heap → Prop} : s83_23.wp E nt rd fr h Q = (GC.seq (s83_22) s83_17).wp E nt rd fr h Q := Eq.trans rfl rfl
def r83_24 : List GO := [⟨none, some 20, .move (.tmp 0)⟩,
  ⟨none, some 21, .convert 2 23 (.tmp 20)⟩,
  ⟨none, some 6, .assign (.tmp 21)⟩]
theorem r83_24_w {E : Env} {fr : Fr} {h : Heap} {Q : Fr → Heap → Prop} : opsW E r83_24 fr h Q = opsW E [⟨none, some 20, .move (.tmp 0)⟩,
  ⟨none, some 21, .convert 2 23 (.tmp 20)⟩,
  ⟨none, some 6, .assign (.tmp 21)⟩] fr h Q := Eq.trans rfl rfl
def s83_25 : GC := .seq (.ops r83_24) s83_23
theorem s83_25_w {E : Env} {nt : Nat} {rd : Option Nat} {fr : Fr} {h : Heap} {Q : Ex → Fr → Heap → Prop} : s83_25.wp E nt rd fr h Q = (GC.seq (.ops r83_24) s83_23).wp E nt rd fr h Q := Eq.trans rfl rfl
def r83_26 : List GO := [⟨none, some 5, .alloc 99⟩]
theorem r83_26_w {E : Env} {fr : Fr} {h : Heap} {Q : Fr → Heap → Prop} : opsW E r83_26 fr h Q = opsW E [⟨none, some 5, .alloc 99⟩] fr h Q := Eq.trans rfl rfl
def s83_27 : GC := .seq (.ops r83_26) s83_25
theorem s83_27_w {E : Env} {nt : Nat} {rd : Option Nat} {fr : Fr} {h : Heap} {Q : Ex → Fr → Heap → Prop} : s83_27.wp E nt rd fr h Q = (GC.seq (.ops r83_26) s83_25).wp E nt rd fr h Q := Eq.trans rfl rfl
def r83_28 : List GO := [⟨none, some 18, .move (.tmp 0)⟩,
  ⟨none, some 19, .call ⟨.value (.func 84), ⟨[.tmp 18]⟩, ⟨[3]⟩⟩⟩,
  ⟨none, some 4, .assign (.tmp 19)⟩]
theorem r83_28_w {E : Env} {fr : Fr} {h : Heap} {Q : Fr → Heap → Prop} : opsW E r83_28 fr h Q = opsW E [⟨none, some 18, .move (.tmp 0)⟩,
  ⟨none, some 19, .call ⟨.value (.func 84), ⟨[.tmp 18]⟩, ⟨[3]⟩⟩⟩,
  ⟨none, some 4, .assign (.tmp 19)⟩] fr h Q := Eq.trans rfl rfl
def s83_29 : GC := .seq (.ops r83_28) .ret
theorem s83_29_w {E : Env} {nt : Nat} {rd : Option Nat} {fr : Fr} {h : Heap} {Q : Ex → Fr → Heap → Prop} : s83_29.wp E nt rd fr h Q = (GC.seq (.ops r83_28) .ret).wp E nt rd fr h Q := Eq.trans rfl rfl
def s83_30 : GC := .cond (.tmp 17) s83_29 .skip
theorem s83_30_w {E : Env} {nt : Nat} {rd : Option Nat} {fr : Fr} {h : Heap} {Q : Ex → Fr → Heap → Prop} : s83_30.wp E nt rd fr h Q = (GC.cond (.tmp 17) s83_29 .skip).wp E nt rd fr h Q := Eq.trans rfl rfl
def r83_31 : List GO := [⟨none, some 12, .move (.tmp 0)⟩,
  ⟨none, some 13, .binOp .leq 2 (.const (.int .i64 0)) (.tmp 12) 2⟩,
  ⟨none, some 14, .move (.tmp 13)⟩,
  ⟨some (14, true), some 15, .move (.tmp 0)⟩,
  ⟨some (14, true), some 16, .binOp .lss 2 (.tmp 15) (.const (.int .i64 100)) 2⟩,
  ⟨none, some 17, .pick (.tmp 14) (.tmp 16) (.const (.bool false))⟩]
theorem r83_31_w {E : Env} {fr : Fr} {h : Heap} {Q : Fr → Heap → Prop} : opsW E r83_31 fr h Q = opsW E [⟨none, some 12, .move (.tmp 0)⟩,
  ⟨none, some 13, .binOp .leq 2 (.const (.int .i64 0)) (.tmp 12) 2⟩,
  ⟨none, some 14, .move (.tmp 13)⟩,
  ⟨some (14, true), some 15, .move (.tmp 0)⟩,
  ⟨some (14, true), some 16, .binOp .lss 2 (.tmp 15) (.const (.int .i64 100)) 2⟩,
  ⟨none, some 17, .pick (.tmp 14) (.tmp 16) (.const (.bool false))⟩] fr h Q := Eq.trans rfl rfl
def s83_32 : GC := .seq (.ops r83_31) s83_30
theorem s83_32_w {E : Env} {nt : Nat} {rd : Option Nat} {fr : Fr} {h : Heap} {Q : Ex → Fr → Heap → Prop} : s83_32.wp E nt rd fr h Q = (GC.seq (.ops r83_31) s83_30).wp E nt rd fr h Q := Eq.trans rfl rfl
def s83_33 : GC := .seq (s83_32) s83_27
theorem s83_33_w {E : Env} {nt : Nat} {rd : Option Nat} {fr : Fr} {h : Heap} {Q : Ex → Fr → Heap → Prop} : s83_33.wp E nt rd fr h Q = (GC.seq (s83_32) s83_27).wp E nt rd fr h Q := Eq.trans rfl rfl
def s83_34 : GC := .cond (.tmp 11) s83_33 .skip
theorem s83_34_w {E : Env} {nt : Nat} {rd : Option Nat} {fr : Fr} {h : Heap} {Q : Ex → Fr → Heap → Prop} : s83_34.wp E nt rd fr h Q = (GC.cond (.tmp 11) s83_33 .skip).wp E nt rd fr h Q := Eq.trans rfl rfl
def r83_35 : List GO := [⟨none, some 10, .move (.tmp 1)⟩,
  ⟨none, some 11, .binOp .eql 3 (.tmp 10) (.const (.int .i64 10)) 3⟩]
theorem r83_35_w {E : Env} {fr : Fr} {h : Heap} {Q : Fr → Heap → Prop} : opsW E r83_35 fr h Q = opsW E [⟨none, some 10, .move (.tmp 1)⟩,
  ⟨none, some 11, .binOp .eql 3 (.tmp 10) (.const (.int .i64 10)) 3⟩] fr h Q := Eq.trans rfl rfl
def s83_36 : GC := .seq (.ops r83_35) s83_34
theorem s83_36_w {E : Env} {nt : Nat} {rd : Option Nat} {fr : Fr} {h : Heap} {Q : Ex → Fr → Heap → Prop} : s83_36.wp E nt rd fr h Q = (GC.seq (.ops r83_35) s83_34).wp E nt rd fr h Q := Eq.trans rfl rfl
def s83_37 : GC := .seq (s83_36) s83_3
theorem s83_37_w {E : Env} {nt : Nat} {rd : Option Nat} {fr : Fr} {h : Heap} {Q : Ex → Fr → Heap → Prop} : s83_37.wp E nt rd fr h Q = (GC.seq (s83_36) s83_3).wp E nt rd fr h Q := Eq.trans rfl rfl
def r83_38 : List GO := [⟨none, some 4, .assign (.const (.string ⟨⟨[]⟩⟩))⟩]
theorem r83_38_w {E : Env} {fr : Fr} {h : Heap} {Q : Fr → Heap → Prop} : opsW E r83_38 fr h Q = opsW E [⟨none, some 4, .assign (.const (.string ⟨⟨[]⟩⟩))⟩] fr h Q := Eq.trans rfl rfl
def s83_39 : GC := .seq (.ops r83_38) s83_37
theorem s83_39_w {E : Env} {nt : Nat} {rd : Option Nat} {fr : Fr} {h : Heap} {Q : Ex → Fr → Heap → Prop} : s83_39.wp E nt rd fr h Q = (GC.seq (.ops r83_38) s83_37).wp E nt rd fr h Q := Eq.trans rfl rfl
theorem c83 : Tryd.f83.body.bind (clean env 54) = some s83_39 := by kernel_rfl
theorem e83 : env.funs.get 83 = some Tryd.f83 := by kernel_rfl
theorem F83 {args : List Value} {h : Heap} {K : Value → Heap → Prop} (hl : args.length = 2) (w : s83_39.wp env 54 none (setAll args 0 .leaf) h (resK env [.tmp 4] K)) : Ret env (.func 83) args h K :=
  Ret.of_body' rfl e83 c83 rfl rfl (by rw [hl]; decide) w
/-! internal/strconv.numDigits -/
def r85_0 : List GO := [⟨none, some 7, .move (.tmp 3)⟩,
  ⟨none, some 8, .move (.tmp 0)⟩,
  ⟨none, some 9, .move (.tmp 3)⟩,
  ⟨none, some 10, .indexAddr 117 (.global 2) (.tmp 9)⟩,
  ⟨none, some 11, .load 23 (.tmp 10)⟩,
  ⟨none, some 12, .binOp .geq 23 (.tmp 8) (.tmp 11) 23⟩,
  ⟨none, some 13, .call ⟨.value (.func 104), ⟨[.tmp 12]⟩, ⟨[4]⟩⟩⟩,
  ⟨none, some 14, .binOp .add 3 (.tmp 7) (.tmp 13) 3⟩,
  ⟨none, some 2, .assign (.tmp 14)⟩]
theorem r85_0_w {E : Env} {fr : Fr} {h : Heap} {Q : Fr → Heap → Prop} : opsW E r85_0 fr h Q = opsW E [⟨none, some 7, .move (.tmp 3)⟩,
  ⟨none, some 8, .move (.tmp 0)⟩,
  ⟨none, some 9, .move (.tmp 3)⟩,
  ⟨none, some 10, .indexAddr 117 (.global 2) (.tmp 9)⟩,
  ⟨none, some 11, .load 23 (.tmp 10)⟩,
  ⟨none, some 12, .binOp .geq 23 (.tmp 8) (.tmp 11) 23⟩,
  ⟨none, some 13, .call ⟨.value (.func 104), ⟨[.tmp 12]⟩, ⟨[4]⟩⟩⟩,
  ⟨none, some 14, .binOp .add 3 (.tmp 7) (.tmp 13) 3⟩,
  ⟨none, some 2, .assign (.tmp 14)⟩] fr h Q := Eq.trans rfl rfl
def s85_1 : GC := .seq (.ops r85_0) .ret
theorem s85_1_w {E : Env} {nt : Nat} {rd : Option Nat} {fr : Fr} {h : Heap} {Q : Ex → Fr → Heap → Prop} : s85_1.wp E nt rd fr h Q = (GC.seq (.ops r85_0) .ret).wp E nt rd fr h Q := Eq.trans rfl rfl
def r85_2 : List GO := [⟨none, some 4, .move (.tmp 0)⟩,
  ⟨none, some 5, .call ⟨.value (.func 103), ⟨[.tmp 4]⟩, ⟨[23]⟩⟩⟩,
  ⟨none, some 6, .call ⟨.value (.func 102), ⟨[.tmp 5]⟩, ⟨[3]⟩⟩⟩,
  ⟨none, some 3, .assign (.tmp 6)⟩]
theorem r85_2_w {E : Env} {fr : Fr} {h : Heap} {Q : Fr → Heap → Prop} : opsW E r85_2 fr h Q = opsW E [⟨none, some 4, .move (.tmp 0)⟩,
  ⟨none, some 5, .call ⟨.value (.func 103), ⟨[.tmp 4]⟩, ⟨[23]⟩⟩⟩,
  ⟨none, some 6, .call ⟨.value (.func 102), ⟨[.tmp 5]⟩, ⟨[3]⟩⟩⟩,
  ⟨none, some 3, .assign (.tmp 6)⟩] fr h Q := Eq.trans rfl rfl
def s85_3 : GC := .seq (.ops r85_2) s85_1
theorem s85_3_w {E : Env} {nt : Nat} {rd : Option Nat} {fr : Fr} {h : Heap} {Q : Ex → Fr → Heap → Prop} : s85_3.wp E nt rd fr h Q = (GC.seq (.ops r85_2) s85_1).wp E nt rd fr h Q := Eq.trans rfl rfl
def r85_4 : List GO := [⟨none, some 2, .assign (.const (.int .i64 0))⟩]
theorem r85_4_w {E : Env} {fr : Fr} {h : Heap} {Q : Fr → Heap → Prop} : opsW E r85_4 fr h Q = opsW E [⟨none, some 2, .assign (.const (.int .i64 0))⟩] fr h Q := Eq.trans rfl rfl
def s85_5 : GC := .seq (.ops r85_4) s85_3
theorem s85_5_w {E : Env} {nt : Nat} {rd : Option Nat} {fr : Fr} {h : Heap} {Q : Ex → Fr → Heap → Prop} : s85_5.wp E nt rd fr h Q = (GC.seq (.ops r85_4) s85_3).wp E nt rd fr h Q := Eq.trans rfl rfl
theorem c85 : Tryd.f85.body.bind (clean env 15) = some s85_5 := by kernel_rfl
theorem e85 : env.funs.get 85 = some Tryd.f85 := by kernel_rfl
theorem F85 {args : List Value} {h : Heap} {K : Value → Heap → Prop} (hl : args.length = 1) (w : s85_5.wp env 15 none (setAll args 0 .leaf) h (resK env [.tmp 2] K)) : Ret env (.func 85) args h K :=
  Ret.of_body' rfl e85 c85 rfl rfl (by rw [hl]; decide) w
/-! internal/strconv.log10Pow2 -/
def r102_0 : List GO := [⟨none, some 3, .move (.tmp 0)⟩,
  ⟨none, some 4, .binOp .mul 3 (.tmp 3) (.const (.int .i64 78913)) 3⟩,
  ⟨none, some 5, .binOp .shr 3 (.tmp 4) (.const (.int .u64 18)) 69⟩,
  ⟨none, some 2, .assign (.tmp 5)⟩]
theorem r102_0_w {E : Env} {fr : Fr} {h : Heap} {Q : Fr → Heap → Prop} : opsW E r102_0 fr h Q = opsW E [⟨none, some 3, .move (.tmp 0)⟩,
  ⟨none, some 4, .binOp .mul 3 (.tmp 3) (.const (.int .i64 78913)) 3⟩,
  ⟨none, some 5, .binOp .shr 3 (.tmp 4) (.const (.int .u64 18)) 69⟩,
  ⟨none, some 2, .assign (.tmp 5)⟩] fr h Q := Eq.trans rfl rfl
def s102_1 : GC := .seq (.ops r102_0) .ret
theorem s102_1_w {E : Env} {nt : Nat} {rd : Option Nat} {fr : Fr} {h : Heap} {Q : Ex → Fr → Heap → Prop} : s102_1.wp E nt rd fr h Q = (GC.seq (.ops r102_0) .ret).wp E nt rd fr h Q := Eq.trans rfl rfl
def r102_2 : List GO := [⟨none, some 2, .assign (.const (.int .i64 0))⟩]
theorem r102_2_w {E : Env} {fr : Fr} {h : Heap} {Q : Fr → Heap → Prop} : opsW E r102_2 fr h Q = opsW E [⟨none, some 2, .assign (.const (.int .i64 0))⟩] fr h Q := Eq.trans rfl rfl
def s102_3 : GC := .seq (.ops r102_2) s102_1
theorem s102_3_w {E : Env} {nt : Nat} {rd : Option Nat} {fr : Fr} {h : Heap} {Q : Ex → Fr → Heap → Prop} : s102_3.wp E nt rd fr h Q = (GC.seq (.ops r102_2) s102_1).wp E nt rd fr h Q := Eq.trans rfl rfl
theorem c102 : Tryd.f102.body.bind (clean env 6) = some s102_3 := by kernel_rfl
theorem e102 : env.funs.get 102 = some Tryd.f102 := by kernel_rfl
theorem F102 {args : List Value} {h : Heap} {K : Value → Heap → Prop} (hl : args.length = 1) (w : s102_3.wp env 6 none (setAll args 0 .leaf) h (resK env [.tmp 2] K)) : Ret env (.func 102) args h K :=
  Ret.of_body' rfl e102 c102 rfl rfl (by rw [hl]; decide) w
/-! internal/strconv.bool2[int] -/
def r104_0 : List GO := [⟨none, some 2, .assign (.const (.int .i64 0))⟩]
theorem r104_0_w {E : Env} {fr : Fr} {h : Heap} {Q : Fr → Heap → Prop} : opsW E r104_0 fr h Q = opsW E [⟨none, some 2, .assign (.const (.int .i64 0))⟩] fr h Q := Eq.trans rfl rfl
def s104_1 : GC := .seq (.ops r104_0) .ret
theorem s104_1_w {E : Env} {nt : Nat} {rd : Option Nat} {fr : Fr} {h : Heap} {Q : Ex → Fr → Heap → Prop} : s104_1.wp E nt rd fr h Q = (GC.seq (.ops r104_0) .ret).wp E nt rd fr h Q := Eq.trans rfl rfl
def r104_2 : List GO := [⟨none, some 2, .assign (.const (.int .i64 1))⟩]
theorem r104_2_w {E : Env} {fr : Fr} {h : Heap} {Q : Fr → Heap → Prop} : opsW E r104_2 fr h Q = opsW E [⟨none, some 2, .assign (.const (.int .i64 1))⟩] fr h Q := Eq.trans rfl rfl
def s104_3 : GC := .seq (.ops r104_2) .ret
theorem s104_3_w {E : Env} {nt : Nat} {rd : Option Nat} {fr : Fr} {h : Heap} {Q : Ex → Fr → Heap → Prop} : s104_3.wp E nt rd fr h Q = (GC.seq (.ops r104_2) .ret).wp E nt rd fr h Q := Eq.trans rfl rfl
def s104_4 : GC := .cond (.tmp 3) s104_3 .skip
theorem s104_4_w {E : Env} {nt : Nat} {rd : Option Nat} {fr : Fr} {h : Heap} {Q : Ex → Fr → Heap → Prop} : s104_4.wp E nt rd fr h Q = (GC.cond (.tmp 3) s104_3 .skip).wp E nt rd fr h Q := Eq.trans rfl rfl
def r104_5 : List GO := [⟨none, some 3, .move (.tmp 0)⟩]
theorem r104_5_w {E : Env} {fr : Fr} {h : Heap} {Q : Fr → Heap → Prop} : opsW E r104_5 fr h Q = opsW E [⟨none, some 3, .move (.tmp 0)⟩] fr h Q := Eq.trans rfl rfl
def s104_6 : GC := .seq (.ops r104_5) s104_4
theorem s104_6_w {E : Env} {nt : Nat} {rd : Option Nat} {fr : Fr} {h : Heap} {Q : Ex → Fr → Heap → Prop} : s104_6.wp E nt rd fr h Q = (GC.seq (.ops r104_5) s104_4).wp E nt rd fr h Q := Eq.trans rfl rfl
def s104_7 : GC := .seq (s104_6) s104_1
theorem s104_7_w {E : Env} {nt : Nat} {rd : Option Nat} {fr : Fr} {h : Heap} {Q : Ex → Fr → Heap → Prop} : s104_7.wp E nt rd fr h Q = (GC.seq (s104_6) s104_1).wp E nt rd fr h Q := Eq.trans rfl rfl
def r104_8 : List GO := [⟨none, some 2, .assign (.const (.int .i64 0))⟩]
theorem r104_8_w {E : Env} {fr : Fr} {h : Heap} {Q : Fr → Heap → Prop} : opsW E r104_8 fr h Q = opsW E [⟨none, some 2, .assign (.const (.int .i64 0))⟩] fr h Q := Eq.trans rfl rfl
def s104_9 : GC := .seq (.ops r104_8) s104_7
theorem s104_9_w {E : Env} {nt : Nat} {rd : Option Nat} {fr : Fr} {h : Heap} {Q : Ex → Fr → Heap → Prop} : s104_9.wp E nt rd fr h Q = (GC.seq (.ops r104_8) s104_7).wp E nt rd fr h Q := Eq.trans rfl rfl
theorem c104 : Tryd.f104.body.bind (clean env 4) = some s104_9 := by kernel_rfl
theorem e104 : env.funs.get 104 = some Tryd.f104 := by kernel_rfl
theorem F104 {args : List Value} {h : Heap} {K : Value → Heap → Prop} (hl : args.length = 1) (w : s104_9.wp env 4 none (setAll args 0 .leaf) h (resK env [.tmp 2] K)) : Ret env (.func 104) args h K :=
  Ret.of_body' rfl e104 c104 rfl rfl (by rw [hl]; decide) w
/-! helmsman/share.Sum -/
def r13_0 : List GO := [⟨none, some 23, .move (.tmp 3)⟩,
  ⟨none, some 2, .assign (.tmp 23)⟩]
theorem r13_0_w {E : Env} {fr : Fr} {h : Heap} {Q : Fr → Heap → Prop} : opsW E r13_0 fr h Q = opsW E [⟨none, some 23, .move (.tmp 3)⟩,
  ⟨none, some 2, .assign (.tmp 23)⟩] fr h Q := Eq.trans rfl rfl
def s13_1 : GC := .seq (.ops r13_0) .ret
theorem s13_1_w {E : Env} {nt : Nat} {rd : Option Nat} {fr : Fr} {h : Heap} {Q : Ex → Fr → Heap → Prop} : s13_1.wp E nt rd fr h Q = (GC.seq (.ops r13_0) .ret).wp E nt rd fr h Q := Eq.trans rfl rfl
def r13_2 : List GO := [⟨none, some 22, .binOp .add 3 (.tmp 15) (.const (.int .i64 1)) 3⟩,
  ⟨none, some 15, .move (.tmp 22)⟩]
theorem r13_2_w {E : Env} {fr : Fr} {h : Heap} {Q : Fr → Heap → Prop} : opsW E r13_2 fr h Q = opsW E [⟨none, some 22, .binOp .add 3 (.tmp 15) (.const (.int .i64 1)) 3⟩,
  ⟨none, some 15, .move (.tmp 22)⟩] fr h Q := Eq.trans rfl rfl
def s13_3 : GC := .ops r13_2
theorem s13_3_w {E : Env} {nt : Nat} {rd : Option Nat} {fr : Fr} {h : Heap} {Q : Ex → Fr → Heap → Prop} : s13_3.wp E nt rd fr h Q = (GC.ops r13_2).wp E nt rd fr h Q := Eq.trans rfl rfl
def r13_4 : List GO := [⟨none, some 19, .move (.tmp 3)⟩,
  ⟨none, some 20, .move (.tmp 5)⟩,
  ⟨none, some 21, .binOp .add 27 (.tmp 19) (.tmp 20) 27⟩,
  ⟨none, some 3, .assign (.tmp 21)⟩]
theorem r13_4_w {E : Env} {fr : Fr} {h : Heap} {Q : Fr → Heap → Prop} : opsW E r13_4 fr h Q = opsW E [⟨none, some 19, .move (.tmp 3)⟩,
  ⟨none, some 20, .move (.tmp 5)⟩,
  ⟨none, some 21, .binOp .add 27 (.tmp 19) (.tmp 20) 27⟩,
  ⟨none, some 3, .assign (.tmp 21)⟩] fr h Q := Eq.trans rfl rfl
def s13_5 : GC := .ops r13_4
theorem s13_5_w {E : Env} {nt : Nat} {rd : Option Nat} {fr : Fr} {h : Heap} {Q : Ex → Fr → Heap → Prop} : s13_5.wp E nt rd fr h Q = (GC.ops r13_4).wp E nt rd fr h Q := Eq.trans rfl rfl
def r13_6 : List GO := [⟨none, some 17, .indexAddr 25 (.tmp 13) (.tmp 15)⟩,
  ⟨none, some 18, .load 27 (.tmp 17)⟩,
  ⟨none, some 5, .assign (.tmp 18)⟩]
theorem r13_6_w {E : Env} {fr : Fr} {h : Heap} {Q : Fr → Heap → Prop} : opsW E r13_6 fr h Q = opsW E [⟨none, some 17, .indexAddr 25 (.tmp 13) (.tmp 15)⟩,
  ⟨none, some 18, .load 27 (.tmp 17)⟩,
  ⟨none, some 5, .assign (.tmp 18)⟩] fr h Q := Eq.trans rfl rfl
def s13_7 : GC := .seq (.ops r13_6) s13_5
theorem s13_7_w {E : Env} {nt : Nat} {rd : Option Nat} {fr : Fr} {h : Heap} {Q : Ex → Fr → Heap → Prop} : s13_7.wp E nt rd fr h Q = (GC.seq (.ops r13_6) s13_5).wp E nt rd fr h Q := Eq.trans rfl rfl
def s13_8 : GC := .seq (.block 1 s13_7) s13_3
theorem s13_8_w {E : Env} {nt : Nat} {rd : Option Nat} {fr : Fr} {h : Heap} {Q : Ex → Fr → Heap → Prop} : s13_8.wp E nt rd fr h Q = (GC.seq (.block 1 s13_7) s13_3).wp E nt rd fr h Q := Eq.trans rfl rfl
def s13_9 : GC := .cond (.tmp 16) .skip (.exit 0)
theorem s13_9_w {E : Env} {nt : Nat} {rd : Option Nat} {fr : Fr} {h : Heap} {Q : Ex → Fr → Heap → Prop} : s13_9.wp E nt rd fr h Q = (GC.cond (.tmp 16) .skip (.exit 0)).wp E nt rd fr h Q := Eq.trans rfl rfl
def s13_10 : GC := .seq (s13_9) s13_8
theorem s13_10_w {E : Env} {nt : Nat} {rd : Option Nat} {fr : Fr} {h : Heap} {Q : Ex → Fr → Heap → Prop} : s13_10.wp E nt rd fr h Q = (GC.seq (s13_9) s13_8).wp E nt rd fr h Q := Eq.trans rfl rfl
def r13_11 : List GO := [⟨none, some 16, .binOp .lss 3 (.tmp 15) (.tmp 14) 3⟩]
theorem r13_11_w {E : Env} {fr : Fr} {h : Heap} {Q : Fr → Heap → Prop} : opsW E r13_11 fr h Q = opsW E [⟨none, some 16, .binOp .lss 3 (.tmp 15) (.tmp 14) 3⟩] fr h Q := Eq.trans rfl rfl
def s13_12 : GC := .seq (.ops r13_11) s13_10
theorem s13_12_w {E : Env} {nt : Nat} {rd : Option Nat} {fr : Fr} {h : Heap} {Q : Ex → Fr → Heap → Prop} : s13_12.wp E nt rd fr h Q = (GC.seq (.ops r13_11) s13_10).wp E nt rd fr h Q := Eq.trans rfl rfl
def s13_13 : GC := .loop s13_12
theorem s13_13_w {E : Env} {nt : Nat} {rd : Option Nat} {fr : Fr} {h : Heap} {Q : Ex → Fr → Heap → Prop} : s13_13.wp E nt rd fr h Q = (GC.loop s13_12).wp E nt rd fr h Q := Eq.trans rfl rfl
def s13_14 : GC := .block 0 s13_13
theorem s13_14_w {E : Env} {nt : Nat} {rd : Option Nat} {fr : Fr} {h : Heap} {Q : Ex → Fr → Heap → Prop} : s13_14.wp E nt rd fr h Q = (GC.block 0 s13_13).wp E nt rd fr h Q := Eq.trans rfl rfl
def r13_15 : List GO := [⟨none, some 12, .move (.tmp 0)⟩,
  ⟨none, some 13, .slice 25 (.tmp 12) (some (.const (.int .i64 1))) none none⟩,
  ⟨none, some 14, .call ⟨.builtin .len, ⟨[.tmp 13]⟩, ⟨[25]⟩⟩⟩,
  ⟨none, some 15, .move (.const (.int .i64 0))⟩]
theorem r13_15_w {E : Env} {fr : Fr} {h : Heap} {Q : Fr → Heap → Prop} : opsW E r13_15 fr h Q = opsW E [⟨none, some 12, .move (.tmp 0)⟩,
  ⟨none, some 13, .slice 25 (.tmp 12) (some (.const (.int .i64 1))) none none⟩,
  ⟨none, some 14, .call ⟨.builtin .len, ⟨[.tmp 13]⟩, ⟨[25]⟩⟩⟩,
  ⟨none, some 15, .move (.const (.int .i64 0))⟩] fr h Q := Eq.trans rfl rfl
def s13_16 : GC := .seq (.ops r13_15) s13_14
theorem s13_16_w {E : Env} {nt : Nat} {rd : Option Nat} {fr : Fr} {h : Heap} {Q : Ex → Fr → Heap → Prop} : s13_16.wp E nt rd fr h Q = (GC.seq (.ops r13_15) s13_14).wp E nt rd fr h Q := Eq.trans rfl rfl
def s13_17 : GC := .seq (s13_16) s13_1
theorem s13_17_w {E : Env} {nt : Nat} {rd : Option Nat} {fr : Fr} {h : Heap} {Q : Ex → Fr → Heap → Prop} : s13_17.wp E nt rd fr h Q = (GC.seq (s13_16) s13_1).wp E nt rd fr h Q := Eq.trans rfl rfl
def r13_18 : List GO := [⟨none, some 9, .move (.tmp 0)⟩,
  ⟨none, some 10, .indexAddr 25 (.tmp 9) (.const (.int .i64 0))⟩,
  ⟨none, some 11, .load 27 (.tmp 10)⟩,
  ⟨none, some 3, .assign (.tmp 11)⟩]
theorem r13_18_w {E : Env} {fr : Fr} {h : Heap} {Q : Fr → Heap → Prop} : opsW E r13_18 fr h Q = opsW E [⟨none, some 9, .move (.tmp 0)⟩,
  ⟨none, some 10, .indexAddr 25 (.tmp 9) (.const (.int .i64 0))⟩,
  ⟨none, some 11, .load 27 (.tmp 10)⟩,
  ⟨none, some 3, .assign (.tmp 11)⟩] fr h Q := Eq.trans rfl rfl
def s13_19 : GC := .seq (.ops r13_18) s13_17
theorem s13_19_w {E : Env} {nt : Nat} {rd : Option Nat} {fr : Fr} {h : Heap} {Q : Ex → Fr → Heap → Prop} : s13_19.wp E nt rd fr h Q = (GC.seq (.ops r13_18) s13_17).wp E nt rd fr h Q := Eq.trans rfl rfl
def r13_20 : List GO := [⟨none, some 2, .assign (.const (.float .f64 0))⟩]
theorem r13_20_w {E : Env} {fr : Fr} {h : Heap} {Q : Fr → Heap → Prop} : opsW E r13_20 fr h Q = opsW E [⟨none, some 2, .assign (.const (.float .f64 0))⟩] fr h Q := Eq.trans rfl rfl
def s13_21 : GC := .seq (.ops r13_20) .ret
theorem s13_21_w {E : Env} {nt : Nat} {rd : Option Nat} {fr : Fr} {h : Heap} {Q : Ex → Fr → Heap → Prop} : s13_21.wp E nt rd fr h Q = (GC.seq (.ops r13_20) .ret).wp E nt rd fr h Q := Eq.trans rfl rfl
def s13_22 : GC := .cond (.tmp 8) s13_21 .skip
theorem s13_22_w {E : Env} {nt : Nat} {rd : Option Nat} {fr : Fr} {h : Heap} {Q : Ex → Fr → Heap → Prop} : s13_22.wp E nt rd fr h Q = (GC.cond (.tmp 8) s13_21 .skip).wp E nt rd fr h Q := Eq.trans rfl rfl
def r13_23 : List GO := [⟨none, some 6, .move (.tmp 0)⟩,
  ⟨none, some 7, .call ⟨.builtin .len, ⟨[.tmp 6]⟩, ⟨[25]⟩⟩⟩,
  ⟨none, some 8, .binOp .eql 3 (.tmp 7) (.const (.int .i64 0)) 3⟩]
theorem r13_23_w {E : Env} {fr : Fr} {h : Heap} {Q : Fr → Heap → Prop} : opsW E r13_23 fr h Q = opsW E [⟨none, some 6, .move (.tmp 0)⟩,
  ⟨none, some 7, .call ⟨.builtin .len, ⟨[.tmp 6]⟩, ⟨[25]⟩⟩⟩,
  ⟨none, some 8, .binOp .eql 3 (.tmp 7) (.const (.int .i64 0)) 3⟩] fr h Q := Eq.trans rfl rfl
def s13_24 : GC := .seq (.ops r13_23) s13_22
theorem s13_24_w {E : Env} {nt : Nat} {rd : Option Nat} {fr : Fr} {h : Heap} {Q : Ex → Fr → Heap → Prop} : s13_24.wp E nt rd fr h Q = (GC.seq (.ops r13_23) s13_22).wp E nt rd fr h Q := Eq.trans rfl rfl
def s13_25 : GC := .seq (s13_24) s13_19
theorem s13_25_w {E : Env} {nt : Nat} {rd : Option Nat} {fr : Fr} {h : Heap} {Q : Ex → Fr → Heap → Prop} : s13_25.wp E nt rd fr h Q = (GC.seq (s13_24) s13_19).wp E nt rd fr h Q := Eq.trans rfl rfl
def r13_26 : List GO := [⟨none, some 2, .assign (.const (.float .f64 0))⟩]
theorem r13_26_w {E : Env} {fr : Fr} {h : Heap} {Q : Fr → Heap → Prop} : opsW E r13_26 fr h Q = opsW E [⟨none, some 2, .assign (.const (.float .f64 0))⟩] fr h Q := Eq.trans rfl rfl
def s13_27 : GC := .seq (.ops r13_26) s13_25
theorem s13_27_w {E : Env} {nt : Nat} {rd : Option Nat} {fr : Fr} {h : Heap} {Q : Ex → Fr → Heap → Prop} : s13_27.wp E nt rd fr h Q = (GC.seq (.ops r13_26) s13_25).wp E nt rd fr h Q := Eq.trans rfl rfl
theorem c13 : Tryd.f13.body.bind (clean env 24) = some s13_27 := by kernel_rfl
theorem e13 : env.funs.get 13 = some Tryd.f13 := by kernel_rfl
theorem F13 {args : List Value} {h : Heap} {K : Value → Heap → Prop} (hl : args.length = 1) (w : s13_27.wp env 24 none (setAll args 0 .leaf) h (resK env [.tmp 2] K)) : Ret env (.func 13) args h K :=
  Ret.of_body' rfl e13 c13 rfl rfl (by rw [hl]; decide) w
/-! helmsman/share.Jain -/
def r15_0 : List GO := [⟨none, some 22, .move (.tmp 6)⟩,
  ⟨none, some 23, .move (.tmp 6)⟩,
  ⟨none, some 24, .binOp .mul 27 (.tmp 22) (.tmp 23) 27⟩,
  ⟨none, some 25, .move (.tmp 0)⟩,
  ⟨none, some 26, .call ⟨.builtin .len, ⟨[.tmp 25]⟩, ⟨[25]⟩⟩⟩,
  ⟨none, some 27, .convert 3 27 (.tmp 26)⟩,
  ⟨none, some 28, .move (.tmp 3)⟩,
  ⟨none, some 29, .call ⟨.value (.func 13), ⟨[.tmp 28]⟩, ⟨[25]⟩⟩⟩,
  ⟨none, some 30, .binOp .mul 27 (.tmp 27) (.tmp 29) 27⟩,
  ⟨none, some 31, .call ⟨.value (.func 17), ⟨[.tmp 24, .tmp 30]⟩, ⟨[27, 27]⟩⟩⟩,
  ⟨none, some 2, .assign (.tmp 31)⟩]
theorem r15_0_w {E : Env} {fr : Fr} {h : Heap} {Q : Fr → Heap → Prop} : opsW E r15_0 fr h Q = opsW E [⟨none, some 22, .move (.tmp 6)⟩,
  ⟨none, some 23, .move (.tmp 6)⟩,
  ⟨none, some 24, .binOp .mul 27 (.tmp 22) (.tmp 23) 27⟩,
  ⟨none, some 25, .move (.tmp 0)⟩,
  ⟨none, some 26, .call ⟨.builtin .len, ⟨[.tmp 25]⟩, ⟨[25]⟩⟩⟩,
  ⟨none, some 27, .convert 3 27 (.tmp 26)⟩,
  ⟨none, some 28, .move (.tmp 3)⟩,
  ⟨none, some 29, .call ⟨.value (.func 13), ⟨[.tmp 28]⟩, ⟨[25]⟩⟩⟩,
  ⟨none, some 30, .binOp .mul 27 (.tmp 27) (.tmp 29) 27⟩,
  ⟨none, some 31, .call ⟨.value (.func 17), ⟨[.tmp 24, .tmp 30]⟩, ⟨[27, 27]⟩⟩⟩,
  ⟨none, some 2, .assign (.tmp 31)⟩] fr h Q := Eq.trans rfl rfl
def s15_1 : GC := .seq (.ops r15_0) .ret
theorem s15_1_w {E : Env} {nt : Nat} {rd : Option Nat} {fr : Fr} {h : Heap} {Q : Ex → Fr → Heap → Prop} : s15_1.wp E nt rd fr h Q = (GC.seq (.ops r15_0) .ret).wp E nt rd fr h Q := Eq.trans rfl rfl
def r15_2 : List GO := [⟨none, some 20, .move (.tmp 0)⟩,
  ⟨none, some 21, .call ⟨.value (.func 13), ⟨[.tmp 20]⟩, ⟨[25]⟩⟩⟩,
  ⟨none, some 6, .assign (.tmp 21)⟩]
theorem r15_2_w {E : Env} {fr : Fr} {h : Heap} {Q : Fr → Heap → Prop} : opsW E r15_2 fr h Q = opsW E [⟨none, some 20, .move (.tmp 0)⟩,
  ⟨none, some 21, .call ⟨.value (.func 13), ⟨[.tmp 20]⟩, ⟨[25]⟩⟩⟩,
  ⟨none, some 6, .assign (.tmp 21)⟩] fr h Q := Eq.trans rfl rfl
def s15_3 : GC := .seq (.ops r15_2) s15_1
theorem s15_3_w {E : Env} {nt : Nat} {rd : Option Nat} {fr : Fr} {h : Heap} {Q : Ex → Fr → Heap → Prop} : s15_3.wp E nt rd fr h Q = (GC.seq (.ops r15_2) s15_1).wp E nt rd fr h Q := Eq.trans rfl rfl
def r15_4 : List GO := [⟨none, some 19, .binOp .add 3 (.tmp 9) (.const (.int .i64 1)) 3⟩,
  ⟨none, some 9, .move (.tmp 19)⟩]
theorem r15_4_w {E : Env} {fr : Fr} {h : Heap} {Q : Fr → Heap → Prop} : opsW E r15_4 fr h Q = opsW E [⟨none, some 19, .binOp .add 3 (.tmp 9) (.const (.int .i64 1)) 3⟩,
  ⟨none, some 9, .move (.tmp 19)⟩] fr h Q := Eq.trans rfl rfl
def s15_5 : GC := .ops r15_4
theorem s15_5_w {E : Env} {nt : Nat} {rd : Option Nat} {fr : Fr} {h : Heap} {Q : Ex → Fr → Heap → Prop} : s15_5.wp E nt rd fr h Q = (GC.ops r15_4).wp E nt rd fr h Q := Eq.trans rfl rfl
def r15_6 : List GO := [⟨none, some 13, .move (.tmp 3)⟩,
  ⟨none, some 14, .move (.tmp 5)⟩,
  ⟨none, some 15, .move (.tmp 5)⟩,
  ⟨none, some 16, .binOp .mul 27 (.tmp 14) (.tmp 15) 27⟩,
  ⟨none, some 17, .buildSlice 25 1 ⟨[(0, .tmp 16)]⟩⟩,
  ⟨none, some 18, .call ⟨.builtin .append, ⟨[.tmp 13, .tmp 17]⟩, ⟨[25, 25]⟩⟩⟩,
  ⟨none, some 3, .assign (.tmp 18)⟩]
theorem r15_6_w {E : Env} {fr : Fr} {h : Heap} {Q : Fr → Heap → Prop} : opsW E r15_6 fr h Q = opsW E [⟨none, some 13, .move (.tmp 3)⟩,
  ⟨none, some 14, .move (.tmp 5)⟩,
  ⟨none, some 15, .move (.tmp 5)⟩,
  ⟨none, some 16, .binOp .mul 27 (.tmp 14) (.tmp 15) 27⟩,
  ⟨none, some 17, .buildSlice 25 1 ⟨[(0, .tmp 16)]⟩⟩,
  ⟨none, some 18, .call ⟨.builtin .append, ⟨[.tmp 13, .tmp 17]⟩, ⟨[25, 25]⟩⟩⟩,
  ⟨none, some 3, .assign (.tmp 18)⟩] fr h Q := Eq.trans rfl rfl
def s15_7 : GC := .ops r15_6
theorem s15_7_w {E : Env} {nt : Nat} {rd : Option Nat} {fr : Fr} {h : Heap} {Q : Ex → Fr → Heap → Prop} : s15_7.wp E nt rd fr h Q = (GC.ops r15_6).wp E nt rd fr h Q := Eq.trans rfl rfl
def r15_8 : List GO := [⟨none, some 11, .indexAddr 25 (.tmp 7) (.tmp 9)⟩,
  ⟨none, some 12, .load 27 (.tmp 11)⟩,
  ⟨none, some 5, .assign (.tmp 12)⟩]
theorem r15_8_w {E : Env} {fr : Fr} {h : Heap} {Q : Fr → Heap → Prop} : opsW E r15_8 fr h Q = opsW E [⟨none, some 11, .indexAddr 25 (.tmp 7) (.tmp 9)⟩,
  ⟨none, some 12, .load 27 (.tmp 11)⟩,
  ⟨none, some 5, .assign (.tmp 12)⟩] fr h Q := Eq.trans rfl rfl
def s15_9 : GC := .seq (.ops r15_8) s15_7
theorem s15_9_w {E : Env} {nt : Nat} {rd : Option Nat} {fr : Fr} {h : Heap} {Q : Ex → Fr → Heap → Prop} : s15_9.wp E nt rd fr h Q = (GC.seq (.ops r15_8) s15_7).wp E nt rd fr h Q := Eq.trans rfl rfl
def s15_10 : GC := .seq (.block 1 s15_9) s15_5
theorem s15_10_w {E : Env} {nt : Nat} {rd : Option Nat} {fr : Fr} {h : Heap} {Q : Ex → Fr → Heap → Prop} : s15_10.wp E nt rd fr h Q = (GC.seq (.block 1 s15_9) s15_5).wp E nt rd fr h Q := Eq.trans rfl rfl
def s15_11 : GC := .cond (.tmp 10) .skip (.exit 0)
theorem s15_11_w {E : Env} {nt : Nat} {rd : Option Nat} {fr : Fr} {h : Heap} {Q : Ex → Fr → Heap → Prop} : s15_11.wp E nt rd fr h Q = (GC.cond (.tmp 10) .skip (.exit 0)).wp E nt rd fr h Q := Eq.trans rfl rfl
def s15_12 : GC := .seq (s15_11) s15_10
theorem s15_12_w {E : Env} {nt : Nat} {rd : Option Nat} {fr : Fr} {h : Heap} {Q : Ex → Fr → Heap → Prop} : s15_12.wp E nt rd fr h Q = (GC.seq (s15_11) s15_10).wp E nt rd fr h Q := Eq.trans rfl rfl
def r15_13 : List GO := [⟨none, some 10, .binOp .lss 3 (.tmp 9) (.tmp 8) 3⟩]
theorem r15_13_w {E : Env} {fr : Fr} {h : Heap} {Q : Fr → Heap → Prop} : opsW E r15_13 fr h Q = opsW E [⟨none, some 10, .binOp .lss 3 (.tmp 9) (.tmp 8) 3⟩] fr h Q := Eq.trans rfl rfl
def s15_14 : GC := .seq (.ops r15_13) s15_12
theorem s15_14_w {E : Env} {nt : Nat} {rd : Option Nat} {fr : Fr} {h : Heap} {Q : Ex → Fr → Heap → Prop} : s15_14.wp E nt rd fr h Q = (GC.seq (.ops r15_13) s15_12).wp E nt rd fr h Q := Eq.trans rfl rfl
def s15_15 : GC := .loop s15_14
theorem s15_15_w {E : Env} {nt : Nat} {rd : Option Nat} {fr : Fr} {h : Heap} {Q : Ex → Fr → Heap → Prop} : s15_15.wp E nt rd fr h Q = (GC.loop s15_14).wp E nt rd fr h Q := Eq.trans rfl rfl
def s15_16 : GC := .block 0 s15_15
theorem s15_16_w {E : Env} {nt : Nat} {rd : Option Nat} {fr : Fr} {h : Heap} {Q : Ex → Fr → Heap → Prop} : s15_16.wp E nt rd fr h Q = (GC.block 0 s15_15).wp E nt rd fr h Q := Eq.trans rfl rfl
def r15_17 : List GO := [⟨none, some 7, .move (.tmp 0)⟩,
  ⟨none, some 8, .call ⟨.builtin .len, ⟨[.tmp 7]⟩, ⟨[25]⟩⟩⟩,
  ⟨none, some 9, .move (.const (.int .i64 0))⟩]
theorem r15_17_w {E : Env} {fr : Fr} {h : Heap} {Q : Fr → Heap → Prop} : opsW E r15_17 fr h Q = opsW E [⟨none, some 7, .move (.tmp 0)⟩,
  ⟨none, some 8, .call ⟨.builtin .len, ⟨[.tmp 7]⟩, ⟨[25]⟩⟩⟩,
  ⟨none, some 9, .move (.const (.int .i64 0))⟩] fr h Q := Eq.trans rfl rfl
def s15_18 : GC := .seq (.ops r15_17) s15_16
theorem s15_18_w {E : Env} {nt : Nat} {rd : Option Nat} {fr : Fr} {h : Heap} {Q : Ex → Fr → Heap → Prop} : s15_18.wp E nt rd fr h Q = (GC.seq (.ops r15_17) s15_16).wp E nt rd fr h Q := Eq.trans rfl rfl
def s15_19 : GC := .seq (s15_18) s15_3
theorem s15_19_w {E : Env} {nt : Nat} {rd : Option Nat} {fr : Fr} {h : Heap} {Q : Ex → Fr → Heap → Prop} : s15_19.wp E nt rd fr h Q = (GC.seq (s15_18) s15_3).wp E nt rd fr h Q := Eq.trans rfl rfl
def r15_20 : List GO := [⟨none, some 3, .assign (.const (.slice none 0 0))⟩]
theorem r15_20_w {E : Env} {fr : Fr} {h : Heap} {Q : Fr → Heap → Prop} : opsW E r15_20 fr h Q = opsW E [⟨none, some 3, .assign (.const (.slice none 0 0))⟩] fr h Q := Eq.trans rfl rfl
def s15_21 : GC := .seq (.ops r15_20) s15_19
theorem s15_21_w {E : Env} {nt : Nat} {rd : Option Nat} {fr : Fr} {h : Heap} {Q : Ex → Fr → Heap → Prop} : s15_21.wp E nt rd fr h Q = (GC.seq (.ops r15_20) s15_19).wp E nt rd fr h Q := Eq.trans rfl rfl
def r15_22 : List GO := [⟨none, some 2, .assign (.const (.float .f64 0))⟩]
theorem r15_22_w {E : Env} {fr : Fr} {h : Heap} {Q : Fr → Heap → Prop} : opsW E r15_22 fr h Q = opsW E [⟨none, some 2, .assign (.const (.float .f64 0))⟩] fr h Q := Eq.trans rfl rfl
def s15_23 : GC := .seq (.ops r15_22) s15_21
theorem s15_23_w {E : Env} {nt : Nat} {rd : Option Nat} {fr : Fr} {h : Heap} {Q : Ex → Fr → Heap → Prop} : s15_23.wp E nt rd fr h Q = (GC.seq (.ops r15_22) s15_21).wp E nt rd fr h Q := Eq.trans rfl rfl
theorem c15 : Tryd.f15.body.bind (clean env 32) = some s15_23 := by kernel_rfl
theorem e15 : env.funs.get 15 = some Tryd.f15 := by kernel_rfl
theorem F15 {args : List Value} {h : Heap} {K : Value → Heap → Prop} (hl : args.length = 1) (w : s15_23.wp env 32 none (setAll args 0 .leaf) h (resK env [.tmp 2] K)) : Ret env (.func 15) args h K :=
  Ret.of_body' rfl e15 c15 rfl rfl (by rw [hl]; decide) w
/-! helmsman/helmsmanref31.Jain -/
def r16_0 : List GO := [⟨none, some 40, .move (.tmp 7)⟩,
  ⟨none, some 41, .move (.tmp 8)⟩,
  ⟨none, some 42, .binOp .quo 27 (.tmp 40) (.tmp 41) 27⟩,
  ⟨none, some 2, .assign (.tmp 42)⟩]
theorem r16_0_w {E : Env} {fr : Fr} {h : Heap} {Q : Fr → Heap → Prop} : opsW E r16_0 fr h Q = opsW E [⟨none, some 40, .move (.tmp 7)⟩,
  ⟨none, some 41, .move (.tmp 8)⟩,
  ⟨none, some 42, .binOp .quo 27 (.tmp 40) (.tmp 41) 27⟩,
  ⟨none, some 2, .assign (.tmp 42)⟩] fr h Q := Eq.trans rfl rfl
def s16_1 : GC := .seq (.ops r16_0) .ret
theorem s16_1_w {E : Env} {nt : Nat} {rd : Option Nat} {fr : Fr} {h : Heap} {Q : Ex → Fr → Heap → Prop} : s16_1.wp E nt rd fr h Q = (GC.seq (.ops r16_0) .ret).wp E nt rd fr h Q := Eq.trans rfl rfl
def r16_2 : List GO := [⟨none, some 35, .move (.tmp 0)⟩,
  ⟨none, some 36, .call ⟨.builtin .len, ⟨[.tmp 35]⟩, ⟨[25]⟩⟩⟩,
  ⟨none, some 37, .convert 3 27 (.tmp 36)⟩,
  ⟨none, some 38, .move (.tmp 3)⟩,
  ⟨none, some 39, .binOp .mul 27 (.tmp 37) (.tmp 38) 27⟩,
  ⟨none, some 8, .assign (.tmp 39)⟩]
theorem r16_2_w {E : Env} {fr : Fr} {h : Heap} {Q : Fr → Heap → Prop} : opsW E r16_2 fr h Q = opsW E [⟨none, some 35, .move (.tmp 0)⟩,
  ⟨none, some 36, .call ⟨.builtin .len, ⟨[.tmp 35]⟩, ⟨[25]⟩⟩⟩,
  ⟨none, some 37, .convert 3 27 (.tmp 36)⟩,
  ⟨none, some 38, .move (.tmp 3)⟩,
  ⟨none, some 39, .binOp .mul 27 (.tmp 37) (.tmp 38) 27⟩,
  ⟨none, some 8, .assign (.tmp 39)⟩] fr h Q := Eq.trans rfl rfl
def s16_3 : GC := .seq (.ops r16_2) s16_1
theorem s16_3_w {E : Env} {nt : Nat} {rd : Option Nat} {fr : Fr} {h : Heap} {Q : Ex → Fr → Heap → Prop} : s16_3.wp E nt rd fr h Q = (GC.seq (.ops r16_2) s16_1).wp E nt rd fr h Q := Eq.trans rfl rfl
def r16_4 : List GO := [⟨none, some 32, .move (.tmp 6)⟩,
  ⟨none, some 33, .move (.tmp 6)⟩,
  ⟨none, some 34, .binOp .mul 27 (.tmp 32) (.tmp 33) 27⟩,
  ⟨none, some 7, .assign (.tmp 34)⟩]
theorem r16_4_w {E : Env} {fr : Fr} {h : Heap} {Q : Fr → Heap → Prop} : opsW E r16_4 fr h Q = opsW E [⟨none, some 32, .move (.tmp 6)⟩,
  ⟨none, some 33, .move (.tmp 6)⟩,
  ⟨none, some 34, .binOp .mul 27 (.tmp 32) (.tmp 33) 27⟩,
  ⟨none, some 7, .assign (.tmp 34)⟩] fr h Q := Eq.trans rfl rfl
def s16_5 : GC := .seq (.ops r16_4) s16_3
theorem s16_5_w {E : Env} {nt : Nat} {rd : Option Nat} {fr : Fr} {h : Heap} {Q : Ex → Fr → Heap → Prop} : s16_5.wp E nt rd fr h Q = (GC.seq (.ops r16_4) s16_3).wp E nt rd fr h Q := Eq.trans rfl rfl
def r16_6 : List GO := [⟨none, some 30, .move (.tmp 0)⟩,
  ⟨none, some 31, .call ⟨.value (.func 11), ⟨[.tmp 30]⟩, ⟨[25]⟩⟩⟩,
  ⟨none, some 6, .assign (.tmp 31)⟩]
theorem r16_6_w {E : Env} {fr : Fr} {h : Heap} {Q : Fr → Heap → Prop} : opsW E r16_6 fr h Q = opsW E [⟨none, some 30, .move (.tmp 0)⟩,
  ⟨none, some 31, .call ⟨.value (.func 11), ⟨[.tmp 30]⟩, ⟨[25]⟩⟩⟩,
  ⟨none, some 6, .assign (.tmp 31)⟩] fr h Q := Eq.trans rfl rfl
def s16_7 : GC := .seq (.ops r16_6) s16_5
theorem s16_7_w {E : Env} {nt : Nat} {rd : Option Nat} {fr : Fr} {h : Heap} {Q : Ex → Fr → Heap → Prop} : s16_7.wp E nt rd fr h Q = (GC.seq (.ops r16_6) s16_5).wp E nt rd fr h Q := Eq.trans rfl rfl
def r16_8 : List GO := [⟨none, some 13, .move (.tmp 4)⟩,
  ⟨none, some 14, .binOp .add 3 (.tmp 13) (.const (.int .i64 1)) 3⟩,
  ⟨none, some 4, .assign (.tmp 14)⟩]
theorem r16_8_w {E : Env} {fr : Fr} {h : Heap} {Q : Fr → Heap → Prop} : opsW E r16_8 fr h Q = opsW E [⟨none, some 13, .move (.tmp 4)⟩,
  ⟨none, some 14, .binOp .add 3 (.tmp 13) (.const (.int .i64 1)) 3⟩,
  ⟨none, some 4, .assign (.tmp 14)⟩] fr h Q := Eq.trans rfl rfl
def s16_9 : GC := .ops r16_8
theorem s16_9_w {E : Env} {nt : Nat} {rd : Option Nat} {fr : Fr} {h : Heap} {Q : Ex → Fr → Heap → Prop} : s16_9.wp E nt rd fr h Q = (GC.ops r16_8).wp E nt rd fr h Q := Eq.trans rfl rfl
def r16_10 : List GO := [⟨none, some 26, .move (.tmp 5)⟩,
  ⟨none, some 3, .assign (.tmp 26)⟩]
theorem r16_10_w {E : Env} {fr : Fr} {h : Heap} {Q : Fr → Heap → Prop} : opsW E r16_10 fr h Q = opsW E [⟨none, some 26, .move (.tmp 5)⟩,
  ⟨none, some 3, .assign (.tmp 26)⟩] fr h Q := Eq.trans rfl rfl
def s16_11 : GC := .ops r16_10
theorem s16_11_w {E : Env} {nt : Nat} {rd : Option Nat} {fr : Fr} {h : Heap} {Q : Ex → Fr → Heap → Prop} : s16_11.wp E nt rd fr h Q = (GC.ops r16_10).wp E nt rd fr h Q := Eq.trans rfl rfl
def r16_12 : List GO := [⟨none, some 27, .move (.tmp 3)⟩,
  ⟨none, some 28, .move (.tmp 5)⟩,
  ⟨none, some 29, .binOp .add 27 (.tmp 27) (.tmp 28) 27⟩,
  ⟨none, some 3, .assign (.tmp 29)⟩]
theorem r16_12_w {E : Env} {fr : Fr} {h : Heap} {Q : Fr → Heap → Prop} : opsW E r16_12 fr h Q = opsW E [⟨none, some 27, .move (.tmp 3)⟩,
  ⟨none, some 28, .move (.tmp 5)⟩,
  ⟨none, some 29, .binOp .add 27 (.tmp 27) (.tmp 28) 27⟩,
  ⟨none, some 3, .assign (.tmp 29)⟩] fr h Q := Eq.trans rfl rfl
def s16_13 : GC := .ops r16_12
theorem s16_13_w {E : Env} {nt : Nat} {rd : Option Nat} {fr : Fr} {h : Heap} {Q : Ex → Fr → Heap → Prop} : s16_13.wp E nt rd fr h Q = (GC.ops r16_12).wp E nt rd fr h Q := Eq.trans rfl rfl
def s16_14 : GC := .cond (.tmp 25) s16_11 s16_13
theorem s16_14_w {E : Env} {nt : Nat} {rd : Option Nat} {fr : Fr} {h : Heap} {Q : Ex → Fr → Heap → Prop} : s16_14.wp E nt rd fr h Q = (GC.cond (.tmp 25) s16_11 s16_13).wp E nt rd fr h Q := Eq.trans rfl rfl
def r16_15 : List GO := [⟨none, some 24, .move (.tmp 4)⟩,
  ⟨none, some 25, .binOp .eql 3 (.tmp 24) (.const (.int .i64 0)) 3⟩]
theorem r16_15_w {E : Env} {fr : Fr} {h : Heap} {Q : Fr → Heap → Prop} : opsW E r16_15 fr h Q = opsW E [⟨none, some 24, .move (.tmp 4)⟩,
  ⟨none, some 25, .binOp .eql 3 (.tmp 24) (.const (.int .i64 0)) 3⟩] fr h Q := Eq.trans rfl rfl
def s16_16 : GC := .seq (.ops r16_15) s16_14
theorem s16_16_w {E : Env} {nt : Nat} {rd : Option Nat} {fr : Fr} {h : Heap} {Q : Ex → Fr → Heap → Prop} : s16_16.wp E nt rd fr h Q = (GC.seq (.ops r16_15) s16_14).wp E nt rd fr h Q := Eq.trans rfl rfl
def p16_17 : List (GO × List GO) := [(⟨none, some 15, .move (.tmp 0)⟩, []),
  (⟨none, some 16, .move (.tmp 4)⟩, []),
  (⟨none, some 17, .indexAddr 25 (.tmp 15) (.tmp 16)⟩, []),
  (⟨none, some 18, .load 27 (.tmp 17)⟩, []),
  (⟨none, some 19, .move (.tmp 0)⟩, []),
  (⟨none, some 20, .move (.tmp 4)⟩, []),
  (⟨none, some 21, .indexAddr 25 (.tmp 19) (.tmp 20)⟩, []),
  (⟨none, some 22, .load 27 (.tmp 21)⟩, []),
  (⟨none, some 23, .binOp .mul 27 (.tmp 18) (.tmp 22) 27⟩, []),
  (⟨none, some 5, .assign (.tmp 23)⟩, [])]
theorem p16_17_w {E : Env} {fr : Fr} {h : Heap} {Q : Fr → Heap → Prop} : planW E p16_17 fr h Q = planW E [(⟨none, some 15, .move (.tmp 0)⟩, []),
  (⟨none, some 16, .move (.tmp 4)⟩, []),
  (⟨none, some 17, .indexAddr 25 (.tmp 15) (.tmp 16)⟩, []),
  (⟨none, some 18, .load 27 (.tmp 17)⟩, []),
  (⟨none, some 19, .move (.tmp 0)⟩, []),
  (⟨none, some 20, .move (.tmp 4)⟩, []),
  (⟨none, some 21, .indexAddr 25 (.tmp 19) (.tmp 20)⟩, []),
  (⟨none, some 22, .load 27 (.tmp 21)⟩, []),
  (⟨none, some 23, .binOp .mul 27 (.tmp 18) (.tmp 22) 27⟩, []),
  (⟨none, some 5, .assign (.tmp 23)⟩, [])] fr h Q := Eq.trans rfl rfl
def s16_18 : GC := .seq (.plan p16_17) s16_16
theorem s16_18_w {E : Env} {nt : Nat} {rd : Option Nat} {fr : Fr} {h : Heap} {Q : Ex → Fr → Heap → Prop} : s16_18.wp E nt rd fr h Q = (GC.seq (.plan p16_17) s16_16).wp E nt rd fr h Q := Eq.trans rfl rfl
def s16_19 : GC := .seq (.block 1 s16_18) s16_9
theorem s16_19_w {E : Env} {nt : Nat} {rd : Option Nat} {fr : Fr} {h : Heap} {Q : Ex → Fr → Heap → Prop} : s16_19.wp E nt rd fr h Q = (GC.seq (.block 1 s16_18) s16_9).wp E nt rd fr h Q := Eq.trans rfl rfl
def s16_20 : GC := .cond (.tmp 12) .skip (.exit 0)
theorem s16_20_w {E : Env} {nt : Nat} {rd : Option Nat} {fr : Fr} {h : Heap} {Q : Ex → Fr → Heap → Prop} : s16_20.wp E nt rd fr h Q = (GC.cond (.tmp 12) .skip (.exit 0)).wp E nt rd fr h Q := Eq.trans rfl rfl
def r16_21 : List GO := [⟨none, some 9, .move (.tmp 4)⟩,
  ⟨none, some 10, .move (.tmp 0)⟩,
  ⟨none, some 11, .call ⟨.builtin .len, ⟨[.tmp 10]⟩, ⟨[25]⟩⟩⟩,
  ⟨none, some 12, .binOp .lss 3 (.tmp 9) (.tmp 11) 3⟩]
theorem r16_21_w {E : Env} {fr : Fr} {h : Heap} {Q : Fr → Heap → Prop} : opsW E r16_21 fr h Q = opsW E [⟨none, some 9, .move (.tmp 4)⟩,
  ⟨none, some 10, .move (.tmp 0)⟩,
  ⟨none, some 11, .call ⟨.builtin .len, ⟨[.tmp 10]⟩, ⟨[25]⟩⟩⟩,
  ⟨none, some 12, .binOp .lss 3 (.tmp 9) (.tmp 11) 3⟩] fr h Q := Eq.trans rfl rfl
def s16_22 : GC := .seq (.ops r16_21) s16_20
theorem s16_22_w {E : Env} {nt : Nat} {rd : Option Nat} {fr : Fr} {h : Heap} {Q : Ex → Fr → Heap → Prop} : s16_22.wp E nt rd fr h Q = (GC.seq (.ops r16_21) s16_20).wp E nt rd fr h Q := Eq.trans rfl rfl
def s16_23 : GC := .seq (s16_22) s16_19
theorem s16_23_w {E : Env} {nt : Nat} {rd : Option Nat} {fr : Fr} {h : Heap} {Q : Ex → Fr → Heap → Prop} : s16_23.wp E nt rd fr h Q = (GC.seq (s16_22) s16_19).wp E nt rd fr h Q := Eq.trans rfl rfl
def s16_24 : GC := .loop s16_23
theorem s16_24_w {E : Env} {nt : Nat} {rd : Option Nat} {fr : Fr} {h : Heap} {Q : Ex → Fr → Heap → Prop} : s16_24.wp E nt rd fr h Q = (GC.loop s16_23).wp E nt rd fr h Q := Eq.trans rfl rfl
def s16_25 : GC := .block 0 s16_24
theorem s16_25_w {E : Env} {nt : Nat} {rd : Option Nat} {fr : Fr} {h : Heap} {Q : Ex → Fr → Heap → Prop} : s16_25.wp E nt rd fr h Q = (GC.block 0 s16_24).wp E nt rd fr h Q := Eq.trans rfl rfl
def r16_26 : List GO := [⟨none, some 4, .assign (.const (.int .i64 0))⟩]
theorem r16_26_w {E : Env} {fr : Fr} {h : Heap} {Q : Fr → Heap → Prop} : opsW E r16_26 fr h Q = opsW E [⟨none, some 4, .assign (.const (.int .i64 0))⟩] fr h Q := Eq.trans rfl rfl
def s16_27 : GC := .seq (.ops r16_26) s16_25
theorem s16_27_w {E : Env} {nt : Nat} {rd : Option Nat} {fr : Fr} {h : Heap} {Q : Ex → Fr → Heap → Prop} : s16_27.wp E nt rd fr h Q = (GC.seq (.ops r16_26) s16_25).wp E nt rd fr h Q := Eq.trans rfl rfl
def s16_28 : GC := .seq (s16_27) s16_7
theorem s16_28_w {E : Env} {nt : Nat} {rd : Option Nat} {fr : Fr} {h : Heap} {Q : Ex → Fr → Heap → Prop} : s16_28.wp E nt rd fr h Q = (GC.seq (s16_27) s16_7).wp E nt rd fr h Q := Eq.trans rfl rfl
def r16_29 : List GO := [⟨none, some 3, .assign (.const (.float .f64 0))⟩]
theorem r16_29_w {E : Env} {fr : Fr} {h : Heap} {Q : Fr → Heap → Prop} : opsW E r16_29 fr h Q = opsW E [⟨none, some 3, .assign (.const (.float .f64 0))⟩] fr h Q := Eq.trans rfl rfl
def s16_30 : GC := .seq (.ops r16_29) s16_28
theorem s16_30_w {E : Env} {nt : Nat} {rd : Option Nat} {fr : Fr} {h : Heap} {Q : Ex → Fr → Heap → Prop} : s16_30.wp E nt rd fr h Q = (GC.seq (.ops r16_29) s16_28).wp E nt rd fr h Q := Eq.trans rfl rfl
def r16_31 : List GO := [⟨none, some 2, .assign (.const (.float .f64 0))⟩]
theorem r16_31_w {E : Env} {fr : Fr} {h : Heap} {Q : Fr → Heap → Prop} : opsW E r16_31 fr h Q = opsW E [⟨none, some 2, .assign (.const (.float .f64 0))⟩] fr h Q := Eq.trans rfl rfl
def s16_32 : GC := .seq (.ops r16_31) s16_30
theorem s16_32_w {E : Env} {nt : Nat} {rd : Option Nat} {fr : Fr} {h : Heap} {Q : Ex → Fr → Heap → Prop} : s16_32.wp E nt rd fr h Q = (GC.seq (.ops r16_31) s16_30).wp E nt rd fr h Q := Eq.trans rfl rfl
theorem c16 : Tryd.f16.body.bind (clean env 43) = some s16_32 := by kernel_rfl
theorem e16 : env.funs.get 16 = some Tryd.f16 := by kernel_rfl
theorem F16 {args : List Value} {h : Heap} {K : Value → Heap → Prop} (hl : args.length = 1) (w : s16_32.wp env 43 none (setAll args 0 .leaf) h (resK env [.tmp 2] K)) : Ret env (.func 16) args h K :=
  Ret.of_body' rfl e16 c16 rfl rfl (by rw [hl]; decide) w
/-! helmsman/helmsmanref31.Sum -/
def r11_0 : List GO := [⟨none, some 23, .move (.tmp 3)⟩,
  ⟨none, some 2, .assign (.tmp 23)⟩]
theorem r11_0_w {E : Env} {fr : Fr} {h : Heap} {Q : Fr → Heap → Prop} : opsW E r11_0 fr h Q = opsW E [⟨none, some 23, .move (.tmp 3)⟩,
  ⟨none, some 2, .assign (.tmp 23)⟩] fr h Q := Eq.trans rfl rfl
def s11_1 : GC := .seq (.ops r11_0) .ret
theorem s11_1_w {E : Env} {nt : Nat} {rd : Option Nat} {fr : Fr} {h : Heap} {Q : Ex → Fr → Heap → Prop} : s11_1.wp E nt rd fr h Q = (GC.seq (.ops r11_0) .ret).wp E nt rd fr h Q := Eq.trans rfl rfl
def r11_2 : List GO := [⟨none, some 15, .move (.tmp 4)⟩,
  ⟨none, some 16, .binOp .add 3 (.tmp 15) (.const (.int .i64 1)) 3⟩,
  ⟨none, some 4, .assign (.tmp 16)⟩]
theorem r11_2_w {E : Env} {fr : Fr} {h : Heap} {Q : Fr → Heap → Prop} : opsW E r11_2 fr h Q = opsW E [⟨none, some 15, .move (.tmp 4)⟩,
  ⟨none, some 16, .binOp .add 3 (.tmp 15) (.const (.int .i64 1)) 3⟩,
  ⟨none, some 4, .assign (.tmp 16)⟩] fr h Q := Eq.trans rfl rfl
def s11_3 : GC := .ops r11_2
theorem s11_3_w {E : Env} {nt : Nat} {rd : Option Nat} {fr : Fr} {h : Heap} {Q : Ex → Fr → Heap → Prop} : s11_3.wp E nt rd fr h Q = (GC.ops r11_2).wp E nt rd fr h Q := Eq.trans rfl rfl
def r11_4 : List GO := [⟨none, some 17, .move (.tmp 3)⟩,
  ⟨none, some 18, .move (.tmp 0)⟩,
  ⟨none, some 19, .move (.tmp 4)⟩,
  ⟨none, some 20, .indexAddr 25 (.tmp 18) (.tmp 19)⟩,
  ⟨none, some 21, .load 27 (.tmp 20)⟩,
  ⟨none, some 22, .binOp .add 27 (.tmp 17) (.tmp 21) 27⟩,
  ⟨none, some 3, .assign (.tmp 22)⟩]
theorem r11_4_w {E : Env} {fr : Fr} {h : Heap} {Q : Fr → Heap → Prop} : opsW E r11_4 fr h Q = opsW E [⟨none, some 17, .move (.tmp 3)⟩,
  ⟨none, some 18, .move (.tmp 0)⟩,
  ⟨none, some 19, .move (.tmp 4)⟩,
  ⟨none, some 20, .indexAddr 25 (.tmp 18) (.tmp 19)⟩,
  ⟨none, some 21, .load 27 (.tmp 20)⟩,
  ⟨none, some 22, .binOp .add 27 (.tmp 17) (.tmp 21) 27⟩,
  ⟨none, some 3, .assign (.tmp 22)⟩] fr h Q := Eq.trans rfl rfl
def s11_5 : GC := .ops r11_4
theorem s11_5_w {E : Env} {nt : Nat} {rd : Option Nat} {fr : Fr} {h : Heap} {Q : Ex → Fr → Heap → Prop} : s11_5.wp E nt rd fr h Q = (GC.ops r11_4).wp E nt rd fr h Q := Eq.trans rfl rfl
def s11_6 : GC := .seq (.block 1 s11_5) s11_3
theorem s11_6_w {E : Env} {nt : Nat} {rd : Option Nat} {fr : Fr} {h : Heap} {Q : Ex → Fr → Heap → Prop} : s11_6.wp E nt rd fr h Q = (GC.seq (.block 1 s11_5) s11_3).wp E nt rd fr h Q := Eq.trans rfl rfl
def s11_7 : GC := .cond (.tmp 14) .skip (.exit 0)
theorem s11_7_w {E : Env} {nt : Nat} {rd : Option Nat} {fr : Fr} {h : Heap} {Q : Ex → Fr → Heap → Prop} : s11_7.wp E nt rd fr h Q = (GC.cond (.tmp 14) .skip (.exit 0)).wp E nt rd fr h Q := Eq.trans rfl rfl
def r11_8 : List GO := [⟨none, some 11, .move (.tmp 4)⟩,
  ⟨none, some 12, .move (.tmp 0)⟩,
  ⟨none, some 13, .call ⟨.builtin .len, ⟨[.tmp 12]⟩, ⟨[25]⟩⟩⟩,
  ⟨none, some 14, .binOp .lss 3 (.tmp 11) (.tmp 13) 3⟩]
theorem r11_8_w {E : Env} {fr : Fr} {h : Heap} {Q : Fr → Heap → Prop} : opsW E r11_8 fr h Q = opsW E [⟨none, some 11, .move (.tmp 4)⟩,
  ⟨none, some 12, .move (.tmp 0)⟩,
  ⟨none, some 13, .call ⟨.builtin .len, ⟨[.tmp 12]⟩, ⟨[25]⟩⟩⟩,
  ⟨none, some 14, .binOp .lss 3 (.tmp 11) (.tmp 13) 3⟩] fr h Q := Eq.trans rfl rfl
def s11_9 : GC := .seq (.ops r11_8) s11_7
theorem s11_9_w {E : Env} {nt : Nat} {rd : Option Nat} {fr : Fr} {h : Heap} {Q : Ex → Fr → Heap → Prop} : s11_9.wp E nt rd fr h Q = (GC.seq (.ops r11_8) s11_7).wp E nt rd fr h Q := Eq.trans rfl rfl
def s11_10 : GC := .seq (s11_9) s11_6
theorem s11_10_w {E : Env} {nt : Nat} {rd : Option Nat} {fr : Fr} {h : Heap} {Q : Ex → Fr → Heap → Prop} : s11_10.wp E nt rd fr h Q = (GC.seq (s11_9) s11_6).wp E nt rd fr h Q := Eq.trans rfl rfl
def s11_11 : GC := .loop s11_10
theorem s11_11_w {E : Env} {nt : Nat} {rd : Option Nat} {fr : Fr} {h : Heap} {Q : Ex → Fr → Heap → Prop} : s11_11.wp E nt rd fr h Q = (GC.loop s11_10).wp E nt rd fr h Q := Eq.trans rfl rfl
def s11_12 : GC := .block 0 s11_11
theorem s11_12_w {E : Env} {nt : Nat} {rd : Option Nat} {fr : Fr} {h : Heap} {Q : Ex → Fr → Heap → Prop} : s11_12.wp E nt rd fr h Q = (GC.block 0 s11_11).wp E nt rd fr h Q := Eq.trans rfl rfl
def r11_13 : List GO := [⟨none, some 4, .assign (.const (.int .i64 1))⟩]
theorem r11_13_w {E : Env} {fr : Fr} {h : Heap} {Q : Fr → Heap → Prop} : opsW E r11_13 fr h Q = opsW E [⟨none, some 4, .assign (.const (.int .i64 1))⟩] fr h Q := Eq.trans rfl rfl
def s11_14 : GC := .seq (.ops r11_13) s11_12
theorem s11_14_w {E : Env} {nt : Nat} {rd : Option Nat} {fr : Fr} {h : Heap} {Q : Ex → Fr → Heap → Prop} : s11_14.wp E nt rd fr h Q = (GC.seq (.ops r11_13) s11_12).wp E nt rd fr h Q := Eq.trans rfl rfl
def s11_15 : GC := .seq (s11_14) s11_1
theorem s11_15_w {E : Env} {nt : Nat} {rd : Option Nat} {fr : Fr} {h : Heap} {Q : Ex → Fr → Heap → Prop} : s11_15.wp E nt rd fr h Q = (GC.seq (s11_14) s11_1).wp E nt rd fr h Q := Eq.trans rfl rfl
def r11_16 : List GO := [⟨none, some 8, .move (.tmp 0)⟩,
  ⟨none, some 9, .indexAddr 25 (.tmp 8) (.const (.int .i64 0))⟩,
  ⟨none, some 10, .load 27 (.tmp 9)⟩,
  ⟨none, some 3, .assign (.tmp 10)⟩]
theorem r11_16_w {E : Env} {fr : Fr} {h : Heap} {Q : Fr → Heap → Prop} : opsW E r11_16 fr h Q = opsW E [⟨none, some 8, .move (.tmp 0)⟩,
  ⟨none, some 9, .indexAddr 25 (.tmp 8) (.const (.int .i64 0))⟩,
  ⟨none, some 10, .load 27 (.tmp 9)⟩,
  ⟨none, some 3, .assign (.tmp 10)⟩] fr h Q := Eq.trans rfl rfl
def s11_17 : GC := .seq (.ops r11_16) s11_15
theorem s11_17_w {E : Env} {nt : Nat} {rd : Option Nat} {fr : Fr} {h : Heap} {Q : Ex → Fr → Heap → Prop} : s11_17.wp E nt rd fr h Q = (GC.seq (.ops r11_16) s11_15).wp E nt rd fr h Q := Eq.trans rfl rfl
def r11_18 : List GO := [⟨none, some 2, .assign (.const (.float .f64 0))⟩]
theorem r11_18_w {E : Env} {fr : Fr} {h : Heap} {Q : Fr → Heap → Prop} : opsW E r11_18 fr h Q = opsW E [⟨none, some 2, .assign (.const (.float .f64 0))⟩] fr h Q := Eq.trans rfl rfl
def s11_19 : GC := .seq (.ops r11_18) .ret
theorem s11_19_w {E : Env} {nt : Nat} {rd : Option Nat} {fr : Fr} {h : Heap} {Q : Ex → Fr → Heap → Prop} : s11_19.wp E nt rd fr h Q = (GC.seq (.ops r11_18) .ret).wp E nt rd fr h Q := Eq.trans rfl rfl
def s11_20 : GC := .cond (.tmp 7) s11_19 .skip
theorem s11_20_w {E : Env} {nt : Nat} {rd : Option Nat} {fr : Fr} {h : Heap} {Q : Ex → Fr → Heap → Prop} : s11_20.wp E nt rd fr h Q = (GC.cond (.tmp 7) s11_19 .skip).wp E nt rd fr h Q := Eq.trans rfl rfl
def r11_21 : List GO := [⟨none, some 5, .move (.tmp 0)⟩,
  ⟨none, some 6, .call ⟨.builtin .len, ⟨[.tmp 5]⟩, ⟨[25]⟩⟩⟩,
  ⟨none, some 7, .binOp .eql 3 (.tmp 6) (.const (.int .i64 0)) 3⟩]
theorem r11_21_w {E : Env} {fr : Fr} {h : Heap} {Q : Fr → Heap → Prop} : opsW E r11_21 fr h Q = opsW E [⟨none, some 5, .move (.tmp 0)⟩,
  ⟨none, some 6, .call ⟨.builtin .len, ⟨[.tmp 5]⟩, ⟨[25]⟩⟩⟩,
  ⟨none, some 7, .binOp .eql 3 (.tmp 6) (.const (.int .i64 0)) 3⟩] fr h Q := Eq.trans rfl rfl
def s11_22 : GC := .seq (.ops r11_21) s11_20
theorem s11_22_w {E : Env} {nt : Nat} {rd : Option Nat} {fr : Fr} {h : Heap} {Q : Ex → Fr → Heap → Prop} : s11_22.wp E nt rd fr h Q = (GC.seq (.ops r11_21) s11_20).wp E nt rd fr h Q := Eq.trans rfl rfl
def s11_23 : GC := .seq (s11_22) s11_17
theorem s11_23_w {E : Env} {nt : Nat} {rd : Option Nat} {fr : Fr} {h : Heap} {Q : Ex → Fr → Heap → Prop} : s11_23.wp E nt rd fr h Q = (GC.seq (s11_22) s11_17).wp E nt rd fr h Q := Eq.trans rfl rfl
def r11_24 : List GO := [⟨none, some 2, .assign (.const (.float .f64 0))⟩]
theorem r11_24_w {E : Env} {fr : Fr} {h : Heap} {Q : Fr → Heap → Prop} : opsW E r11_24 fr h Q = opsW E [⟨none, some 2, .assign (.const (.float .f64 0))⟩] fr h Q := Eq.trans rfl rfl
def s11_25 : GC := .seq (.ops r11_24) s11_23
theorem s11_25_w {E : Env} {nt : Nat} {rd : Option Nat} {fr : Fr} {h : Heap} {Q : Ex → Fr → Heap → Prop} : s11_25.wp E nt rd fr h Q = (GC.seq (.ops r11_24) s11_23).wp E nt rd fr h Q := Eq.trans rfl rfl
theorem c11 : Tryd.f11.body.bind (clean env 24) = some s11_25 := by kernel_rfl
theorem e11 : env.funs.get 11 = some Tryd.f11 := by kernel_rfl
theorem F11 {args : List Value} {h : Heap} {K : Value → Heap → Prop} (hl : args.length = 1) (w : s11_25.wp env 24 none (setAll args 0 .leaf) h (resK env [.tmp 2] K)) : Ret env (.func 11) args h K :=
  Ret.of_body' rfl e11 c11 rfl rfl (by rw [hl]; decide) w
/-! helmsman/share.Ratio -/
def r17_0 : List GO := [⟨none, some 5, .move (.tmp 0)⟩,
  ⟨none, some 6, .move (.tmp 1)⟩,
  ⟨none, some 7, .binOp .quo 27 (.tmp 5) (.tmp 6) 27⟩,
  ⟨none, some 4, .assign (.tmp 7)⟩]
theorem r17_0_w {E : Env} {fr : Fr} {h : Heap} {Q : Fr → Heap → Prop} : opsW E r17_0 fr h Q = opsW E [⟨none, some 5, .move (.tmp 0)⟩,
  ⟨none, some 6, .move (.tmp 1)⟩,
  ⟨none, some 7, .binOp .quo 27 (.tmp 5) (.tmp 6) 27⟩,
  ⟨none, some 4, .assign (.tmp 7)⟩] fr h Q := Eq.trans rfl rfl
def s17_1 : GC := .seq (.ops r17_0) .ret
theorem s17_1_w {E : Env} {nt : Nat} {rd : Option Nat} {fr : Fr} {h : Heap} {Q : Ex → Fr → Heap → Prop} : s17_1.wp E nt rd fr h Q = (GC.seq (.ops r17_0) .ret).wp E nt rd fr h Q := Eq.trans rfl rfl
def r17_2 : List GO := [⟨none, some 4, .assign (.const (.float .f64 0))⟩]
theorem r17_2_w {E : Env} {fr : Fr} {h : Heap} {Q : Fr → Heap → Prop} : opsW E r17_2 fr h Q = opsW E [⟨none, some 4, .assign (.const (.float .f64 0))⟩] fr h Q := Eq.trans rfl rfl
def s17_3 : GC := .seq (.ops r17_2) s17_1
theorem s17_3_w {E : Env} {nt : Nat} {rd : Option Nat} {fr : Fr} {h : Heap} {Q : Ex → Fr → Heap → Prop} : s17_3.wp E nt rd fr h Q = (GC.seq (.ops r17_2) s17_1).wp E nt rd fr h Q := Eq.trans rfl rfl
theorem c17 : Tryd.f17.body.bind (clean env 8) = some s17_3 := by kernel_rfl
theorem e17 : env.funs.get 17 = some Tryd.f17 := by kernel_rfl
theorem F17 {args : List Value} {h : Heap} {K : Value → Heap → Prop} (hl : args.length = 2) (w : s17_3.wp env 8 none (setAll args 0 .leaf) h (resK env [.tmp 4] K)) : Ret env (.func 17) args h K :=
  Ret.of_body' rfl e17 c17 rfl rfl (by rw [hl]; decide) w

end Go.Proofs.YtjcmcoabckkjoaaDoor.Li

