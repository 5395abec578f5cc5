/- The walked functions' code. Conditions: each theorem's own. -/
import Derived.Test.YtjcmcoabckkjoaaDoorZLib2
import Derived.Shelf.Strings.OnBuilder
import Derived.Shelf.Strconv.Itoa0
import Derived.Shelf.Strconv.Itoa1
import Derived.Shelf.Spec.TrailingZeros
import Derived.Lib.IndexMore
import Derived.Lib.Strings
import Derived.Lib.Atoi
import Derived.Test.YtjcmcoabckkjoaaDoorChecked
import Derived.KernelRfl
set_option linter.unusedSimpArgs false
set_option linter.unusedVariables false
namespace Go.Proofs.YtjcmcoabckkjoaaDoor.Li
open Go.Ev
set_option maxRecDepth 100000
/-! the tables that are looked at; the library's functions by their contracts -/
def dbs : List Value := [.int .u8 0, .int .u8 1, .int .u8 56, .int .u8 2, .int .u8 57, .int .u8 49, .int .u8 28, .int .u8 3, .int .u8 61, .int .u8 58, .int .u8 42, .int .u8 50, .int .u8 38, .int .u8 29, .int .u8 17, .int .u8 4, .int .u8 62, .int .u8 47, .int .u8 59, .int .u8 36, .int .u8 45, .int .u8 43, .int .u8 51, .int .u8 22, .int .u8 53, .int .u8 39, .int .u8 33, .int .u8 30, .int .u8 24, .int .u8 18, .int .u8 12, .int .u8 5, .int .u8 63, .int .u8 55, .int .u8 48, .int .u8 27, .int .u8 60, .int .u8 41, .int .u8 37, .int .u8 16, .int .u8 46, .int .u8 35, .int .u8 44, .int .u8 21, .int .u8 52, .int .u8 32, .int .u8 23, .int .u8 11, .int .u8 54, .int .u8 26, .int .u8 40, .int .u8 15, .int .u8 34, .int .u8 20, .int .u8 31, .int .u8 10, .int .u8 25, .int .u8 14, .int .u8 19, .int .u8 9, .int .u8 13, .int .u8 8, .int .u8 7, .int .u8 6]
def p10 : List Value := [.int .u64 1, .int .u64 10, .int .u64 100, .int .u64 1000, .int .u64 10000, .int .u64 100000, .int .u64 1000000, .int .u64 10000000, .int .u64 100000000, .int .u64 1000000000, .int .u64 10000000000, .int .u64 100000000000, .int .u64 1000000000000, .int .u64 10000000000000, .int .u64 100000000000000, .int .u64 1000000000000000, .int .u64 10000000000000000, .int .u64 100000000000000000, .int .u64 1000000000000000000, .int .u64 10000000000000000000]
def tabs : List (Nat × List Value) := [(1, dbs), (2, p10)]
def joinG (args : List Value) (h : Heap) : Option Value :=
  match args with
  | [.slice (some ⟨i, o, none⟩) n c, .string sep] => match (cellsAt h ⟨i, o, none⟩ n).bind strs with
    | some xs => cond (Nat.blt i h.n && Nat.ble n c && Nat.blt c UNK && Nat.ble (Lib.join (xs.map (·.data.toList)) sep.data.toList).length 1000000 && Nat.ble 1 n && Nat.ble n 1000000) (some (.string ⟨(Lib.join (xs.map (·.data.toList)) sep.data.toList).toArray⟩)) none
    | none => none
  | _ => none
def tzG (args : List Value) (h : Heap) : Option Value :=
  match args with
  | [.int .u64 x] => cond (decide (0 ≤ x) && decide (x < 18446744073709551616) && tabsOk tabs h) (some (.int .i64 (Lib.ctz 64 x.toNat))) none
  | _ => none
def lenG (args : List Value) (_ : Heap) : Option Value :=
  match args with
  | [.int .u64 x] => cond (decide (0 ≤ x) && decide (x ≤ 18446744073709551615)) (some (.int .i64 (Lib.bitLen x.toNat))) none
  | _ => none
def smallG (args : List Value) (_ : Heap) : Option Value :=
  match args with
  | [.int .i64 x] => cond (decide (0 ≤ x) && decide (x < 100)) (some (.string ⟨(Lib.decDigits x.toNat).toArray⟩)) none
  | _ => none
def cutPG (args : List Value) (_ : Heap) : Option Value :=
  match args with
  | [.string s, .string p] => some (.tuple ⟨[.string ⟨(Lib.trimPrefix s.data.toList p.data.toList).toArray⟩, .bool (Lib.hasPrefix s.data.toList p.data.toList)]⟩)
  | _ => none
def isI (o : Option Value) : Bool := match o with
  | some (.int .i64 _) => true
  | _ => false
def cutG (args : List Value) (h : Heap) : Option Value :=
  match args with
  | [.string s, .string p] => cond (Nat.blt s.size 4294967281 && isI (cellAt h ⟨3, 0, none⟩)) (some (.tuple ⟨[.string ⟨(Lib.cut s.data.toList p.data.toList).1.toArray⟩, .string ⟨(Lib.cut s.data.toList p.data.toList).2.1.toArray⟩, .bool (Lib.cut s.data.toList p.data.toList).2.2]⟩)) none
  | _ => none
def atoiG (args : List Value) (_ : Heap) : Option Value :=
  match args with
  | [.string s] => match Lib.atoi s.data.toList with
    | some n => cond (Nat.ble s.size 18) (some (.tuple ⟨[.int .i64 n, .nilIface]⟩)) none
    | none => none
  | _ => none
def ext0 : ExtT := extChan 36 (.string ⟨⟨[110, 97, 110]⟩⟩) (extNan 19 (extFl 18 10 fun _ _ _ => none))
def ext1 : ExtT := extFmt 86 ext0
def ext2 : ExtT := extLib 84 smallG ext1
def ext3 : ExtT := extLib 103 lenG ext2
def ext4 : ExtT := extLib 55 tzG ext3
def ext5 : ExtT := extLib 51 joinG ext4
def ext6 : ExtT := extLib 56 cutPG ext5
def ext7 : ExtT := extLib 57 cutG ext6
def ext8 : ExtT := extLib 58 atoiG ext7
noncomputable def env : Env := envOf Tryd.prog 4 (extTab tabs ext8 8)
section
variable {fr : Fr} {h : Heap} {K : Value → Heap → Prop} {x y z : Operand} {ps : List (Nat × Operand)}
theorem cv_23_3 : opW env (.convert 23 3 x) fr h K = evK env fr x fun v => cintK .i64 v fun u => K u h := opW_cint (k' := .u64) (by kernel_rfl) (by kernel_rfl)
theorem bsl_25_5 : opW env (.buildSlice 25 5 ⟨ps⟩) fr h K = evpK env fr ps fun l => bsK 27 1 [.float .f64 0] 5 l h K := opW_buildSlice (by kernel_rfl) (by decide)
theorem len_25 : opW env (.call ⟨.builtin .len, ⟨[x]⟩, ⟨[25]⟩⟩) fr h K = evK env fr x fun v => lenK v fun u => K u h := opW_lenS (by kernel_rfl)
theorem ia_25 : opW env (.indexAddr 25 x y) fr h K = evK env fr x fun v => evK env fr y fun i => idxSK 1 v i fun u => K u h := opW_indexAddrS (by kernel_rfl)
theorem ld_27 : opW env (.load 27 x) fr h K = evK env fr x fun v => ld1K h v fun u => K u h := opW_load1 (by kernel_rfl)
theorem cv_23_27 : opW env (.convert 23 27 x) fr h K = evK env fr x fun v => cifK v fun u => K u h := opW_cif (k := .u64) (by kernel_rfl) (by kernel_rfl)
theorem cv_3_23 : opW env (.convert 3 23 x) fr h K = evK env fr x fun v => cintK .u64 v fun u => K u h := opW_cint (k' := .i64) (by kernel_rfl) (by kernel_rfl)
theorem cv_23_5 : opW env (.convert 23 5 x) fr h K = evK env fr x fun v => cintK .u8 v fun u => K u h := opW_cint (k' := .u64) (by kernel_rfl) (by kernel_rfl)
theorem bsl_87_1 : opW env (.buildSlice 87 1 ⟨ps⟩) fr h K = evpK env fr ps fun l => bsK 5 1 [.int .u8 0] 1 l h K := opW_buildSlice (by kernel_rfl) (by decide)
theorem cv_87_9 : opW env (.convert 87 9 x) fr h K = evK env fr x fun v => bstrK h v fun u => K u h := opW_bstr (by kernel_rfl)
theorem al_99 : opW env (.alloc 99) fr h K = K (.pointer (some ⟨h.n, 0, none⟩)) (newBlk h (.cells [.int .u8 0, .int .u8 0, .int .u8 0, .int .u8 0, .int .u8 0, .int .u8 0, .int .u8 0, .int .u8 0, .int .u8 0, .int .u8 0, .int .u8 0, .int .u8 0, .int .u8 0, .int .u8 0, .int .u8 0, .int .u8 0, .int .u8 0, .int .u8 0, .int .u8 0, .int .u8 0, .int .u8 0, .int .u8 0, .int .u8 0, .int .u8 0] 99 true)) := opW_alloc (v := .agg ⟨[.int .u8 0, .int .u8 0, .int .u8 0, .int .u8 0, .int .u8 0, .int .u8 0, .int .u8 0, .int .u8 0, .int .u8 0, .int .u8 0, .int .u8 0, .int .u8 0, .int .u8 0, .int .u8 0, .int .u8 0, .int .u8 0, .int .u8 0, .int .u8 0, .int .u8 0, .int .u8 0, .int .u8 0, .int .u8 0, .int .u8 0, .int .u8 0]⟩) (by kernel_rfl) rfl rfl
theorem cv_23_2 : opW env (.convert 23 2 x) fr h K = evK env fr x fun v => cintK .i64 v fun u => K u h := opW_cint (k' := .u64) (by kernel_rfl) (by kernel_rfl)
theorem cv_3_69 : opW env (.convert 3 69 x) fr h K = evK env fr x fun v => cintK .u64 v fun u => K u h := opW_cint (k' := .i64) (by kernel_rfl) (by kernel_rfl)
theorem len_87 : opW env (.call ⟨.builtin .len, ⟨[x]⟩, ⟨[87]⟩⟩) fr h K = evK env fr x fun v => lenK v fun u => K u h := opW_lenS (by kernel_rfl)
theorem ia_87 : opW env (.indexAddr 87 x y) fr h K = evK env fr x fun v => evK env fr y fun i => idxSK 1 v i fun u => K u h := opW_indexAddrS (by kernel_rfl)
theorem ld_5 : opW env (.load 5 x) fr h K = evK env fr x fun v => ld1K h v fun u => K u h := opW_load1 (by kernel_rfl)
theorem cv_3_5 : opW env (.convert 3 5 x) fr h K = evK env fr x fun v => cintK .u8 v fun u => K u h := opW_cint (k' := .i64) (by kernel_rfl) (by kernel_rfl)
theorem cv_5_23 : opW env (.convert 5 23 x) fr h K = evK env fr x fun v => cintK .u64 v fun u => K u h := opW_cint (k' := .u8) (by kernel_rfl) (by kernel_rfl)
theorem cv_2_23 : opW env (.convert 2 23 x) fr h K = evK env fr x fun v => cintK .u64 v fun u => K u h := opW_cint (k' := .i64) (by kernel_rfl) (by kernel_rfl)
theorem ia_99 : opW env (.indexAddr 99 x y) fr h K = evK env fr x fun v => evK env fr y fun i => idxAK 24 1 v i fun u => K u h := opW_indexAddrA (by kernel_rfl)
theorem st_5 : opW env (.store 5 x y) fr h K = evK env fr x fun p => evK env fr y fun v => stK 1 p v h K := opW_store (by kernel_rfl)
theorem gl_2 : ∀ {K : Value → Prop}, evK env fr (.global 2) K = K (.pointer (some ⟨2, 0, none⟩)) := evK_global rfl
theorem ia_117 : opW env (.indexAddr 117 x y) fr h K = evK env fr x fun v => evK env fr y fun i => idxAK 20 1 v i fun u => K u h := opW_indexAddrA (by kernel_rfl)
theorem ld_23 : opW env (.load 23 x) fr h K = evK env fr x fun v => ld1K h v fun u => K u h := opW_load1 (by kernel_rfl)
end
/-! helmsman/helmsmanlaw31.ShareTexts -/
def r6_0 : List GO := [⟨none, some 16, .move (.tmp 4)⟩,
  ⟨none, some 17, .move (.tmp 3)⟩,
  ⟨none, some 18, .call ⟨.value (.func 36), ⟨[.tmp 17]⟩, ⟨[27]⟩⟩⟩,
  ⟨none, some 19, .binOp .eql 9 (.tmp 16) (.tmp 18) 9⟩,
  ⟨none, some 20, .move (.tmp 19)⟩,
  ⟨some (20, true), some 21, .move (.tmp 6)⟩,
  ⟨some (20, true), some 22, .binOp .eql 50 (.tmp 21) (.const (.int .i64 0)) 50⟩,
  ⟨none, some 23, .pick (.tmp 20) (.tmp 22) (.const (.bool false))⟩,
  ⟨none, some 24, .move (.tmp 23)⟩,
  ⟨some (24, true), some 25, .move (.tmp 3)⟩,
  ⟨some (24, true), some 26, .move (.tmp 5)⟩,
  ⟨some (24, true), some 27, .call ⟨.value (.func 12), ⟨[.tmp 25, .tmp 26]⟩, ⟨[27, 27]⟩⟩⟩,
  ⟨none, some 28, .pick (.tmp 24) (.tmp 27) (.const (.bool false))⟩,
  ⟨none, some 29, .move (.tmp 28)⟩,
  ⟨some (29, true), some 30, .call ⟨.value (.func 8), ⟨[]⟩, ⟨[]⟩⟩⟩,
  ⟨none, some 31, .pick (.tmp 29) (.tmp 30) (.const (.bool false))⟩,
  ⟨none, some 2, .assign (.tmp 31)⟩]
theorem r6_0_w {E : Env} {fr : Fr} {h : Heap} {Q : Fr → Heap → Prop} : opsW E r6_0 fr h Q = opsW E [⟨none, some 16, .move (.tmp 4)⟩,
  ⟨none, some 17, .move (.tmp 3)⟩,
  ⟨none, some 18, .call ⟨.value (.func 36), ⟨[.tmp 17]⟩, ⟨[27]⟩⟩⟩,
  ⟨none, some 19, .binOp .eql 9 (.tmp 16) (.tmp 18) 9⟩,
  ⟨none, some 20, .move (.tmp 19)⟩,
  ⟨some (20, true), some 21, .move (.tmp 6)⟩,
  ⟨some (20, true), some 22, .binOp .eql 50 (.tmp 21) (.const (.int .i64 0)) 50⟩,
  ⟨none, some 23, .pick (.tmp 20) (.tmp 22) (.const (.bool false))⟩,
  ⟨none, some 24, .move (.tmp 23)⟩,
  ⟨some (24, true), some 25, .move (.tmp 3)⟩,
  ⟨some (24, true), some 26, .move (.tmp 5)⟩,
  ⟨some (24, true), some 27, .call ⟨.value (.func 12), ⟨[.tmp 25, .tmp 26]⟩, ⟨[27, 27]⟩⟩⟩,
  ⟨none, some 28, .pick (.tmp 24) (.tmp 27) (.const (.bool false))⟩,
  ⟨none, some 29, .move (.tmp 28)⟩,
  ⟨some (29, true), some 30, .call ⟨.value (.func 8), ⟨[]⟩, ⟨[]⟩⟩⟩,
  ⟨none, some 31, .pick (.tmp 29) (.tmp 30) (.const (.bool false))⟩,
  ⟨none, some 2, .assign (.tmp 31)⟩] fr h Q := Eq.trans rfl rfl
def s6_1 : GC := .seq (.ops r6_0) .ret
theorem s6_1_w {E : Env} {nt : Nat} {rd : Option Nat} {fr : Fr} {h : Heap} {Q : Ex → Fr → Heap → Prop} : s6_1.wp E nt rd fr h Q = (GC.seq (.ops r6_0) .ret).wp E nt rd fr h Q := Eq.trans rfl rfl
def r6_2 : List GO := [⟨none, some 12, .move (.tmp 4)⟩,
  ⟨none, some 13, .call ⟨.value (.func 35), ⟨[.tmp 12]⟩, ⟨[9]⟩⟩⟩,
  ⟨none, some 11, .move (.tmp 13)⟩,
  ⟨none, some 14, .extract (.tmp 11) 0⟩,
  ⟨none, some 15, .extract (.tmp 11) 1⟩,
  ⟨none, some 5, .assign (.tmp 14)⟩,
  ⟨none, some 6, .assign (.tmp 15)⟩]
theorem r6_2_w {E : Env} {fr : Fr} {h : Heap} {Q : Fr → Heap → Prop} : opsW E r6_2 fr h Q = opsW E [⟨none, some 12, .move (.tmp 4)⟩,
  ⟨none, some 13, .call ⟨.value (.func 35), ⟨[.tmp 12]⟩, ⟨[9]⟩⟩⟩,
  ⟨none, some 11, .move (.tmp 13)⟩,
  ⟨none, some 14, .extract (.tmp 11) 0⟩,
  ⟨none, some 15, .extract (.tmp 11) 1⟩,
  ⟨none, some 5, .assign (.tmp 14)⟩,
  ⟨none, some 6, .assign (.tmp 15)⟩] fr h Q := Eq.trans rfl rfl
def s6_3 : GC := .seq (.ops r6_2) s6_1
theorem s6_3_w {E : Env} {nt : Nat} {rd : Option Nat} {fr : Fr} {h : Heap} {Q : Ex → Fr → Heap → Prop} : s6_3.wp E nt rd fr h Q = (GC.seq (.ops r6_2) s6_1).wp E nt rd fr h Q := Eq.trans rfl rfl
def r6_4 : List GO := [⟨none, some 9, .move (.tmp 3)⟩,
  ⟨none, some 10, .call ⟨.value (.func 34), ⟨[.tmp 9]⟩, ⟨[27]⟩⟩⟩,
  ⟨none, some 4, .assign (.tmp 10)⟩]
theorem r6_4_w {E : Env} {fr : Fr} {h : Heap} {Q : Fr → Heap → Prop} : opsW E r6_4 fr h Q = opsW E [⟨none, some 9, .move (.tmp 3)⟩,
  ⟨none, some 10, .call ⟨.value (.func 34), ⟨[.tmp 9]⟩, ⟨[27]⟩⟩⟩,
  ⟨none, some 4, .assign (.tmp 10)⟩] fr h Q := Eq.trans rfl rfl
def s6_5 : GC := .seq (.ops r6_4) s6_3
theorem s6_5_w {E : Env} {nt : Nat} {rd : Option Nat} {fr : Fr} {h : Heap} {Q : Ex → Fr → Heap → Prop} : s6_5.wp E nt rd fr h Q = (GC.seq (.ops r6_4) s6_3).wp E nt rd fr h Q := Eq.trans rfl rfl
def r6_6 : List GO := [⟨none, some 7, .move (.tmp 0)⟩,
  ⟨none, some 8, .call ⟨.value (.func 10), ⟨[.tmp 7]⟩, ⟨[23]⟩⟩⟩,
  ⟨none, some 3, .assign (.tmp 8)⟩]
theorem r6_6_w {E : Env} {fr : Fr} {h : Heap} {Q : Fr → Heap → Prop} : opsW E r6_6 fr h Q = opsW E [⟨none, some 7, .move (.tmp 0)⟩,
  ⟨none, some 8, .call ⟨.value (.func 10), ⟨[.tmp 7]⟩, ⟨[23]⟩⟩⟩,
  ⟨none, some 3, .assign (.tmp 8)⟩] fr h Q := Eq.trans rfl rfl
def s6_7 : GC := .seq (.ops r6_6) s6_5
theorem s6_7_w {E : Env} {nt : Nat} {rd : Option Nat} {fr : Fr} {h : Heap} {Q : Ex → Fr → Heap → Prop} : s6_7.wp E nt rd fr h Q = (GC.seq (.ops r6_6) s6_5).wp E nt rd fr h Q := Eq.trans rfl rfl
def r6_8 : List GO := [⟨none, some 2, .assign (.const (.bool false))⟩]
theorem r6_8_w {E : Env} {fr : Fr} {h : Heap} {Q : Fr → Heap → Prop} : opsW E r6_8 fr h Q = opsW E [⟨none, some 2, .assign (.const (.bool false))⟩] fr h Q := Eq.trans rfl rfl
def s6_9 : GC := .seq (.ops r6_8) s6_7
theorem s6_9_w {E : Env} {nt : Nat} {rd : Option Nat} {fr : Fr} {h : Heap} {Q : Ex → Fr → Heap → Prop} : s6_9.wp E nt rd fr h Q = (GC.seq (.ops r6_8) s6_7).wp E nt rd fr h Q := Eq.trans rfl rfl
theorem c6 : Tryd.f6.body.bind (clean env 32) = some s6_9 := by kernel_rfl
theorem e6 : env.funs.get 6 = some Tryd.f6 := by kernel_rfl
theorem F6 {args : List Value} {h : Heap} {K : Value → Heap → Prop} (hl : args.length = 1) (w : s6_9.wp env 32 none (setAll args 0 .leaf) h (resK env [.tmp 2] K)) : Ret env (.func 6) args h K :=
  Ret.of_body' rfl e6 c6 rfl rfl (by rw [hl]; decide) w
/-! helmsman/helmsmanref31.Same -/
def r12_0 : List GO := [⟨none, some 5, .move (.tmp 0)⟩,
  ⟨none, some 6, .call ⟨.value (.func 19), ⟨[.tmp 5]⟩, ⟨[27]⟩⟩⟩,
  ⟨none, some 7, .move (.tmp 6)⟩,
  ⟨some (7, true), some 8, .move (.tmp 1)⟩,
  ⟨some (7, true), some 9, .call ⟨.value (.func 19), ⟨[.tmp 8]⟩, ⟨[27]⟩⟩⟩,
  ⟨none, some 10, .pick (.tmp 7) (.tmp 9) (.const (.bool false))⟩,
  ⟨none, some 11, .move (.tmp 10)⟩,
  ⟨some (11, false), some 12, .move (.tmp 0)⟩,
  ⟨some (11, false), some 13, .call ⟨.value (.func 18), ⟨[.tmp 12]⟩, ⟨[27]⟩⟩⟩,
  ⟨some (11, false), some 14, .move (.tmp 1)⟩,
  ⟨some (11, false), some 15, .call ⟨.value (.func 18), ⟨[.tmp 14]⟩, ⟨[27]⟩⟩⟩,
  ⟨some (11, false), some 16, .binOp .eql 23 (.tmp 13) (.tmp 15) 23⟩,
  ⟨none, some 17, .pick (.tmp 11) (.const (.bool true)) (.tmp 16)⟩,
  ⟨none, some 4, .assign (.tmp 17)⟩]
theorem r12_0_w {E : Env} {fr : Fr} {h : Heap} {Q : Fr → Heap → Prop} : opsW E r12_0 fr h Q = opsW E [⟨none, some 5, .move (.tmp 0)⟩,
  ⟨none, some 6, .call ⟨.value (.func 19), ⟨[.tmp 5]⟩, ⟨[27]⟩⟩⟩,
  ⟨none, some 7, .move (.tmp 6)⟩,
  ⟨some (7, true), some 8, .move (.tmp 1)⟩,
  ⟨some (7, true), some 9, .call ⟨.value (.func 19), ⟨[.tmp 8]⟩, ⟨[27]⟩⟩⟩,
  ⟨none, some 10, .pick (.tmp 7) (.tmp 9) (.const (.bool false))⟩,
  ⟨none, some 11, .move (.tmp 10)⟩,
  ⟨some (11, false), some 12, .move (.tmp 0)⟩,
  ⟨some (11, false), some 13, .call ⟨.value (.func 18), ⟨[.tmp 12]⟩, ⟨[27]⟩⟩⟩,
  ⟨some (11, false), some 14, .move (.tmp 1)⟩,
  ⟨some (11, false), some 15, .call ⟨.value (.func 18), ⟨[.tmp 14]⟩, ⟨[27]⟩⟩⟩,
  ⟨some (11, false), some 16, .binOp .eql 23 (.tmp 13) (.tmp 15) 23⟩,
  ⟨none, some 17, .pick (.tmp 11) (.const (.bool true)) (.tmp 16)⟩,
  ⟨none, some 4, .assign (.tmp 17)⟩] fr h Q := Eq.trans rfl rfl
def s12_1 : GC := .seq (.ops r12_0) .ret
theorem s12_1_w {E : Env} {nt : Nat} {rd : Option Nat} {fr : Fr} {h : Heap} {Q : Ex → Fr → Heap → Prop} : s12_1.wp E nt rd fr h Q = (GC.seq (.ops r12_0) .ret).wp E nt rd fr h Q := Eq.trans rfl rfl
def r12_2 : List GO := [⟨none, some 4, .assign (.const (.bool false))⟩]
theorem r12_2_w {E : Env} {fr : Fr} {h : Heap} {Q : Fr → Heap → Prop} : opsW E r12_2 fr h Q = opsW E [⟨none, some 4, .assign (.const (.bool false))⟩] fr h Q := Eq.trans rfl rfl
def s12_3 : GC := .seq (.ops r12_2) s12_1
theorem s12_3_w {E : Env} {nt : Nat} {rd : Option Nat} {fr : Fr} {h : Heap} {Q : Ex → Fr → Heap → Prop} : s12_3.wp E nt rd fr h Q = (GC.seq (.ops r12_2) s12_1).wp E nt rd fr h Q := Eq.trans rfl rfl
theorem c12 : Tryd.f12.body.bind (clean env 18) = some s12_3 := by kernel_rfl
theorem e12 : env.funs.get 12 = some Tryd.f12 := by kernel_rfl
theorem F12 {args : List Value} {h : Heap} {K : Value → Heap → Prop} (hl : args.length = 2) (w : s12_3.wp env 18 none (setAll args 0 .leaf) h (resK env [.tmp 4] K)) : Ret env (.func 12) args h K :=
  Ret.of_body' rfl e12 c12 rfl rfl (by rw [hl]; decide) w
/-! helmsman/share.Text -/
def r34_0 : List GO := [⟨none, some 57, .move (.tmp 4)⟩,
  ⟨none, some 2, .assign (.tmp 57)⟩]
theorem r34_0_w {E : Env} {fr : Fr} {h : Heap} {Q : Fr → Heap → Prop} : opsW E r34_0 fr h Q = opsW E [⟨none, some 57, .move (.tmp 4)⟩,
  ⟨none, some 2, .assign (.tmp 57)⟩] fr h Q := Eq.trans rfl rfl
def s34_1 : GC := .seq (.ops r34_0) .ret
theorem s34_1_w {E : Env} {nt : Nat} {rd : Option Nat} {fr : Fr} {h : Heap} {Q : Ex → Fr → Heap → Prop} : s34_1.wp E nt rd fr h Q = (GC.seq (.ops r34_0) .ret).wp E nt rd fr h Q := Eq.trans rfl rfl
def r34_2 : List GO := [⟨none, some 43, .move (.tmp 4)⟩,
  ⟨none, some 44, .binOp .add 9 (.tmp 43) (.const (.string ⟨⟨[42, 50, 94]⟩⟩)) 9⟩,
  ⟨none, some 45, .move (.tmp 6)⟩,
  ⟨none, some 46, .call ⟨.value (.func 49), ⟨[.tmp 45]⟩, ⟨[3]⟩⟩⟩,
  ⟨none, some 47, .binOp .add 9 (.tmp 44) (.tmp 46) 9⟩,
  ⟨none, some 2, .assign (.tmp 47)⟩]
theorem r34_2_w {E : Env} {fr : Fr} {h : Heap} {Q : Fr → Heap → Prop} : opsW E r34_2 fr h Q = opsW E [⟨none, some 43, .move (.tmp 4)⟩,
  ⟨none, some 44, .binOp .add 9 (.tmp 43) (.const (.string ⟨⟨[42, 50, 94]⟩⟩)) 9⟩,
  ⟨none, some 45, .move (.tmp 6)⟩,
  ⟨none, some 46, .call ⟨.value (.func 49), ⟨[.tmp 45]⟩, ⟨[3]⟩⟩⟩,
  ⟨none, some 47, .binOp .add 9 (.tmp 44) (.tmp 46) 9⟩,
  ⟨none, some 2, .assign (.tmp 47)⟩] fr h Q := Eq.trans rfl rfl
def s34_3 : GC := .seq (.ops r34_2) .ret
theorem s34_3_w {E : Env} {nt : Nat} {rd : Option Nat} {fr : Fr} {h : Heap} {Q : Ex → Fr → Heap → Prop} : s34_3.wp E nt rd fr h Q = (GC.seq (.ops r34_2) .ret).wp E nt rd fr h Q := Eq.trans rfl rfl
def r34_4 : List GO := [⟨none, some 51, .move (.tmp 4)⟩,
  ⟨none, some 52, .binOp .add 9 (.tmp 51) (.const (.string ⟨⟨[47, 50, 94]⟩⟩)) 9⟩,
  ⟨none, some 53, .move (.tmp 6)⟩,
  ⟨none, some 54, .unOp .neg 3 (.tmp 53)⟩,
  ⟨none, some 55, .call ⟨.value (.func 49), ⟨[.tmp 54]⟩, ⟨[3]⟩⟩⟩,
  ⟨none, some 56, .binOp .add 9 (.tmp 52) (.tmp 55) 9⟩,
  ⟨none, some 2, .assign (.tmp 56)⟩]
theorem r34_4_w {E : Env} {fr : Fr} {h : Heap} {Q : Fr → Heap → Prop} : opsW E r34_4 fr h Q = opsW E [⟨none, some 51, .move (.tmp 4)⟩,
  ⟨none, some 52, .binOp .add 9 (.tmp 51) (.const (.string ⟨⟨[47, 50, 94]⟩⟩)) 9⟩,
  ⟨none, some 53, .move (.tmp 6)⟩,
  ⟨none, some 54, .unOp .neg 3 (.tmp 53)⟩,
  ⟨none, some 55, .call ⟨.value (.func 49), ⟨[.tmp 54]⟩, ⟨[3]⟩⟩⟩,
  ⟨none, some 56, .binOp .add 9 (.tmp 52) (.tmp 55) 9⟩,
  ⟨none, some 2, .assign (.tmp 56)⟩] fr h Q := Eq.trans rfl rfl
def s34_5 : GC := .seq (.ops r34_4) .ret
theorem s34_5_w {E : Env} {nt : Nat} {rd : Option Nat} {fr : Fr} {h : Heap} {Q : Ex → Fr → Heap → Prop} : s34_5.wp E nt rd fr h Q = (GC.seq (.ops r34_4) .ret).wp E nt rd fr h Q := Eq.trans rfl rfl
def s34_6 : GC := .cond (.tmp 48) s34_5 .skip
theorem s34_6_w {E : Env} {nt : Nat} {rd : Option Nat} {fr : Fr} {h : Heap} {Q : Ex → Fr → Heap → Prop} : s34_6.wp E nt rd fr h Q = (GC.cond (.tmp 48) s34_5 .skip).wp E nt rd fr h Q := Eq.trans rfl rfl
def r34_7 : List GO := [⟨none, some 49, .move (.tmp 6)⟩,
  ⟨none, some 50, .binOp .lss 3 (.tmp 49) (.const (.int .i64 0)) 3⟩,
  ⟨none, some 48, .assign (.tmp 50)⟩]
theorem r34_7_w {E : Env} {fr : Fr} {h : Heap} {Q : Fr → Heap → Prop} : opsW E r34_7 fr h Q = opsW E [⟨none, some 49, .move (.tmp 6)⟩,
  ⟨none, some 50, .binOp .lss 3 (.tmp 49) (.const (.int .i64 0)) 3⟩,
  ⟨none, some 48, .assign (.tmp 50)⟩] fr h Q := Eq.trans rfl rfl
def s34_8 : GC := .seq (.ops r34_7) s34_6
theorem s34_8_w {E : Env} {nt : Nat} {rd : Option Nat} {fr : Fr} {h : Heap} {Q : Ex → Fr → Heap → Prop} : s34_8.wp E nt rd fr h Q = (GC.seq (.ops r34_7) s34_6).wp E nt rd fr h Q := Eq.trans rfl rfl
def s34_9 : GC := .cond (.tmp 40) s34_3 s34_8
theorem s34_9_w {E : Env} {nt : Nat} {rd : Option Nat} {fr : Fr} {h : Heap} {Q : Ex → Fr → Heap → Prop} : s34_9.wp E nt rd fr h Q = (GC.cond (.tmp 40) s34_3 s34_8).wp E nt rd fr h Q := Eq.trans rfl rfl
def r34_10 : List GO := [⟨none, some 41, .move (.tmp 6)⟩,
  ⟨none, some 42, .binOp .gtr 3 (.tmp 41) (.const (.int .i64 0)) 3⟩,
  ⟨none, some 40, .assign (.tmp 42)⟩]
theorem r34_10_w {E : Env} {fr : Fr} {h : Heap} {Q : Fr → Heap → Prop} : opsW E r34_10 fr h Q = opsW E [⟨none, some 41, .move (.tmp 6)⟩,
  ⟨none, some 42, .binOp .gtr 3 (.tmp 41) (.const (.int .i64 0)) 3⟩,
  ⟨none, some 40, .assign (.tmp 42)⟩] fr h Q := Eq.trans rfl rfl
def s34_11 : GC := .seq (.ops r34_10) s34_9
theorem s34_11_w {E : Env} {nt : Nat} {rd : Option Nat} {fr : Fr} {h : Heap} {Q : Ex → Fr → Heap → Prop} : s34_11.wp E nt rd fr h Q = (GC.seq (.ops r34_10) s34_9).wp E nt rd fr h Q := Eq.trans rfl rfl
def s34_12 : GC := .seq (.block 0 s34_11) s34_1
theorem s34_12_w {E : Env} {nt : Nat} {rd : Option Nat} {fr : Fr} {h : Heap} {Q : Ex → Fr → Heap → Prop} : s34_12.wp E nt rd fr h Q = (GC.seq (.block 0 s34_11) s34_1).wp E nt rd fr h Q := Eq.trans rfl rfl
def r34_13 : List GO := [⟨none, some 34, .move (.tmp 4)⟩,
  ⟨none, some 35, .move (.tmp 5)⟩,
  ⟨none, some 36, .move (.tmp 7)⟩,
  ⟨none, some 37, .binOp .shr 23 (.tmp 35) (.tmp 36) 3⟩,
  ⟨none, some 38, .call ⟨.value (.func 50), ⟨[.tmp 37, .const (.int .i64 10)]⟩, ⟨[23, 3]⟩⟩⟩,
  ⟨none, some 39, .binOp .add 9 (.tmp 34) (.tmp 38) 9⟩,
  ⟨none, some 4, .assign (.tmp 39)⟩]
theorem r34_13_w {E : Env} {fr : Fr} {h : Heap} {Q : Fr → Heap → Prop} : opsW E r34_13 fr h Q = opsW E [⟨none, some 34, .move (.tmp 4)⟩,
  ⟨none, some 35, .move (.tmp 5)⟩,
  ⟨none, some 36, .move (.tmp 7)⟩,
  ⟨none, some 37, .binOp .shr 23 (.tmp 35) (.tmp 36) 3⟩,
  ⟨none, some 38, .call ⟨.value (.func 50), ⟨[.tmp 37, .const (.int .i64 10)]⟩, ⟨[23, 3]⟩⟩⟩,
  ⟨none, some 39, .binOp .add 9 (.tmp 34) (.tmp 38) 9⟩,
  ⟨none, some 4, .assign (.tmp 39)⟩] fr h Q := Eq.trans rfl rfl
def s34_14 : GC := .seq (.ops r34_13) s34_12
theorem s34_14_w {E : Env} {nt : Nat} {rd : Option Nat} {fr : Fr} {h : Heap} {Q : Ex → Fr → Heap → Prop} : s34_14.wp E nt rd fr h Q = (GC.seq (.ops r34_13) s34_12).wp E nt rd fr h Q := Eq.trans rfl rfl
def r34_15 : List GO := [⟨none, some 31, .move (.tmp 6)⟩,
  ⟨none, some 32, .move (.tmp 7)⟩,
  ⟨none, some 33, .binOp .add 3 (.tmp 31) (.tmp 32) 3⟩,
  ⟨none, some 6, .assign (.tmp 33)⟩]
theorem r34_15_w {E : Env} {fr : Fr} {h : Heap} {Q : Fr → Heap → Prop} : opsW E r34_15 fr h Q = opsW E [⟨none, some 31, .move (.tmp 6)⟩,
  ⟨none, some 32, .move (.tmp 7)⟩,
  ⟨none, some 33, .binOp .add 3 (.tmp 31) (.tmp 32) 3⟩,
  ⟨none, some 6, .assign (.tmp 33)⟩] fr h Q := Eq.trans rfl rfl
def s34_16 : GC := .seq (.ops r34_15) s34_14
theorem s34_16_w {E : Env} {nt : Nat} {rd : Option Nat} {fr : Fr} {h : Heap} {Q : Ex → Fr → Heap → Prop} : s34_16.wp E nt rd fr h Q = (GC.seq (.ops r34_15) s34_14).wp E nt rd fr h Q := Eq.trans rfl rfl
def r34_17 : List GO := [⟨none, some 29, .move (.tmp 5)⟩,
  ⟨none, some 30, .call ⟨.value (.func 55), ⟨[.tmp 29]⟩, ⟨[23]⟩⟩⟩,
  ⟨none, some 7, .assign (.tmp 30)⟩]
theorem r34_17_w {E : Env} {fr : Fr} {h : Heap} {Q : Fr → Heap → Prop} : opsW E r34_17 fr h Q = opsW E [⟨none, some 29, .move (.tmp 5)⟩,
  ⟨none, some 30, .call ⟨.value (.func 55), ⟨[.tmp 29]⟩, ⟨[23]⟩⟩⟩,
  ⟨none, some 7, .assign (.tmp 30)⟩] fr h Q := Eq.trans rfl rfl
def s34_18 : GC := .seq (.ops r34_17) s34_16
theorem s34_18_w {E : Env} {nt : Nat} {rd : Option Nat} {fr : Fr} {h : Heap} {Q : Ex → Fr → Heap → Prop} : s34_18.wp E nt rd fr h Q = (GC.seq (.ops r34_17) s34_16).wp E nt rd fr h Q := Eq.trans rfl rfl
def r34_19 : List GO := [⟨none, some 26, .move (.tmp 5)⟩,
  ⟨none, some 27, .binOp .and 23 (.tmp 26) (.const (.int .u64 4503599627370495)) 23⟩,
  ⟨none, some 28, .binOp .or 23 (.tmp 27) (.const (.int .u64 4503599627370496)) 23⟩,
  ⟨none, some 5, .assign (.tmp 28)⟩]
theorem r34_19_w {E : Env} {fr : Fr} {h : Heap} {Q : Fr → Heap → Prop} : opsW E r34_19 fr h Q = opsW E [⟨none, some 26, .move (.tmp 5)⟩,
  ⟨none, some 27, .binOp .and 23 (.tmp 26) (.const (.int .u64 4503599627370495)) 23⟩,
  ⟨none, some 28, .binOp .or 23 (.tmp 27) (.const (.int .u64 4503599627370496)) 23⟩,
  ⟨none, some 5, .assign (.tmp 28)⟩] fr h Q := Eq.trans rfl rfl
def s34_20 : GC := .ops r34_19
theorem s34_20_w {E : Env} {nt : Nat} {rd : Option Nat} {fr : Fr} {h : Heap} {Q : Ex → Fr → Heap → Prop} : s34_20.wp E nt rd fr h Q = (GC.ops r34_19).wp E nt rd fr h Q := Eq.trans rfl rfl
def s34_21 : GC := .cond (.tmp 25) s34_20 .skip
theorem s34_21_w {E : Env} {nt : Nat} {rd : Option Nat} {fr : Fr} {h : Heap} {Q : Ex → Fr → Heap → Prop} : s34_21.wp E nt rd fr h Q = (GC.cond (.tmp 25) s34_20 .skip).wp E nt rd fr h Q := Eq.trans rfl rfl
def r34_22 : List GO := [⟨none, some 24, .move (.tmp 5)⟩,
  ⟨none, some 25, .binOp .geq 23 (.tmp 24) (.const (.int .u64 4503599627370496)) 23⟩]
theorem r34_22_w {E : Env} {fr : Fr} {h : Heap} {Q : Fr → Heap → Prop} : opsW E r34_22 fr h Q = opsW E [⟨none, some 24, .move (.tmp 5)⟩,
  ⟨none, some 25, .binOp .geq 23 (.tmp 24) (.const (.int .u64 4503599627370496)) 23⟩] fr h Q := Eq.trans rfl rfl
def s34_23 : GC := .seq (.ops r34_22) s34_21
theorem s34_23_w {E : Env} {nt : Nat} {rd : Option Nat} {fr : Fr} {h : Heap} {Q : Ex → Fr → Heap → Prop} : s34_23.wp E nt rd fr h Q = (GC.seq (.ops r34_22) s34_21).wp E nt rd fr h Q := Eq.trans rfl rfl
def s34_24 : GC := .seq (s34_23) s34_18
theorem s34_24_w {E : Env} {nt : Nat} {rd : Option Nat} {fr : Fr} {h : Heap} {Q : Ex → Fr → Heap → Prop} : s34_24.wp E nt rd fr h Q = (GC.seq (s34_23) s34_18).wp E nt rd fr h Q := Eq.trans rfl rfl
def r34_25 : List GO := [⟨none, some 19, .move (.tmp 5)⟩,
  ⟨none, some 20, .binOp .shr 23 (.tmp 19) (.const (.int .u64 52)) 69⟩,
  ⟨none, some 21, .convert 23 3 (.tmp 20)⟩,
  ⟨none, some 22, .call ⟨.builtin .max, ⟨[.tmp 21, .const (.int .i64 1)]⟩, ⟨[3, 3]⟩⟩⟩,
  ⟨none, some 23, .binOp .sub 3 (.tmp 22) (.const (.int .i64 1075)) 3⟩,
  ⟨none, some 6, .assign (.tmp 23)⟩]
theorem r34_25_w {E : Env} {fr : Fr} {h : Heap} {Q : Fr → Heap → Prop} : opsW E r34_25 fr h Q = opsW E [⟨none, some 19, .move (.tmp 5)⟩,
  ⟨none, some 20, .binOp .shr 23 (.tmp 19) (.const (.int .u64 52)) 69⟩,
  ⟨none, some 21, .convert 23 3 (.tmp 20)⟩,
  ⟨none, some 22, .call ⟨.builtin .max, ⟨[.tmp 21, .const (.int .i64 1)]⟩, ⟨[3, 3]⟩⟩⟩,
  ⟨none, some 23, .binOp .sub 3 (.tmp 22) (.const (.int .i64 1075)) 3⟩,
  ⟨none, some 6, .assign (.tmp 23)⟩] fr h Q := Eq.trans rfl rfl
def s34_26 : GC := .seq (.ops r34_25) s34_24
theorem s34_26_w {E : Env} {nt : Nat} {rd : Option Nat} {fr : Fr} {h : Heap} {Q : Ex → Fr → Heap → Prop} : s34_26.wp E nt rd fr h Q = (GC.seq (.ops r34_25) s34_24).wp E nt rd fr h Q := Eq.trans rfl rfl
def r34_27 : List GO := [⟨none, some 17, .move (.tmp 0)⟩,
  ⟨none, some 18, .call ⟨.value (.func 18), ⟨[.tmp 17]⟩, ⟨[27]⟩⟩⟩,
  ⟨none, some 5, .assign (.tmp 18)⟩]
theorem r34_27_w {E : Env} {fr : Fr} {h : Heap} {Q : Fr → Heap → Prop} : opsW E r34_27 fr h Q = opsW E [⟨none, some 17, .move (.tmp 0)⟩,
  ⟨none, some 18, .call ⟨.value (.func 18), ⟨[.tmp 17]⟩, ⟨[27]⟩⟩⟩,
  ⟨none, some 5, .assign (.tmp 18)⟩] fr h Q := Eq.trans rfl rfl
def s34_28 : GC := .seq (.ops r34_27) s34_26
theorem s34_28_w {E : Env} {nt : Nat} {rd : Option Nat} {fr : Fr} {h : Heap} {Q : Ex → Fr → Heap → Prop} : s34_28.wp E nt rd fr h Q = (GC.seq (.ops r34_27) s34_26).wp E nt rd fr h Q := Eq.trans rfl rfl
def r34_29 : List GO := [⟨none, some 15, .move (.tmp 0)⟩,
  ⟨none, some 16, .unOp .neg 27 (.tmp 15)⟩,
  ⟨none, some 4, .assign (.const (.string ⟨⟨[45]⟩⟩))⟩,
  ⟨none, some 0, .assign (.tmp 16)⟩]
theorem r34_29_w {E : Env} {fr : Fr} {h : Heap} {Q : Fr → Heap → Prop} : opsW E r34_29 fr h Q = opsW E [⟨none, some 15, .move (.tmp 0)⟩,
  ⟨none, some 16, .unOp .neg 27 (.tmp 15)⟩,
  ⟨none, some 4, .assign (.const (.string ⟨⟨[45]⟩⟩))⟩,
  ⟨none, some 0, .assign (.tmp 16)⟩] fr h Q := Eq.trans rfl rfl
def s34_30 : GC := .ops r34_29
theorem s34_30_w {E : Env} {nt : Nat} {rd : Option Nat} {fr : Fr} {h : Heap} {Q : Ex → Fr → Heap → Prop} : s34_30.wp E nt rd fr h Q = (GC.ops r34_29).wp E nt rd fr h Q := Eq.trans rfl rfl
def s34_31 : GC := .cond (.tmp 14) s34_30 .skip
theorem s34_31_w {E : Env} {nt : Nat} {rd : Option Nat} {fr : Fr} {h : Heap} {Q : Ex → Fr → Heap → Prop} : s34_31.wp E nt rd fr h Q = (GC.cond (.tmp 14) s34_30 .skip).wp E nt rd fr h Q := Eq.trans rfl rfl
def r34_32 : List GO := [⟨none, some 13, .move (.tmp 0)⟩,
  ⟨none, some 14, .binOp .lss 27 (.tmp 13) (.const (.float .f64 0)) 27⟩]
theorem r34_32_w {E : Env} {fr : Fr} {h : Heap} {Q : Fr → Heap → Prop} : opsW E r34_32 fr h Q = opsW E [⟨none, some 13, .move (.tmp 0)⟩,
  ⟨none, some 14, .binOp .lss 27 (.tmp 13) (.const (.float .f64 0)) 27⟩] fr h Q := Eq.trans rfl rfl
def s34_33 : GC := .seq (.ops r34_32) s34_31
theorem s34_33_w {E : Env} {nt : Nat} {rd : Option Nat} {fr : Fr} {h : Heap} {Q : Ex → Fr → Heap → Prop} : s34_33.wp E nt rd fr h Q = (GC.seq (.ops r34_32) s34_31).wp E nt rd fr h Q := Eq.trans rfl rfl
def s34_34 : GC := .seq (s34_33) s34_28
theorem s34_34_w {E : Env} {nt : Nat} {rd : Option Nat} {fr : Fr} {h : Heap} {Q : Ex → Fr → Heap → Prop} : s34_34.wp E nt rd fr h Q = (GC.seq (s34_33) s34_28).wp E nt rd fr h Q := Eq.trans rfl rfl
def r34_35 : List GO := [⟨none, some 4, .assign (.const (.string ⟨⟨[]⟩⟩))⟩]
theorem r34_35_w {E : Env} {fr : Fr} {h : Heap} {Q : Fr → Heap → Prop} : opsW E r34_35 fr h Q = opsW E [⟨none, some 4, .assign (.const (.string ⟨⟨[]⟩⟩))⟩] fr h Q := Eq.trans rfl rfl
def s34_36 : GC := .seq (.ops r34_35) s34_34
theorem s34_36_w {E : Env} {nt : Nat} {rd : Option Nat} {fr : Fr} {h : Heap} {Q : Ex → Fr → Heap → Prop} : s34_36.wp E nt rd fr h Q = (GC.seq (.ops r34_35) s34_34).wp E nt rd fr h Q := Eq.trans rfl rfl
def r34_37 : List GO := [⟨none, some 12, .move (.tmp 3)⟩,
  ⟨none, some 2, .assign (.tmp 12)⟩]
theorem r34_37_w {E : Env} {fr : Fr} {h : Heap} {Q : Fr → Heap → Prop} : opsW E r34_37 fr h Q = opsW E [⟨none, some 12, .move (.tmp 3)⟩,
  ⟨none, some 2, .assign (.tmp 12)⟩] fr h Q := Eq.trans rfl rfl
def s34_38 : GC := .seq (.ops r34_37) .ret
theorem s34_38_w {E : Env} {nt : Nat} {rd : Option Nat} {fr : Fr} {h : Heap} {Q : Ex → Fr → Heap → Prop} : s34_38.wp E nt rd fr h Q = (GC.seq (.ops r34_37) .ret).wp E nt rd fr h Q := Eq.trans rfl rfl
def s34_39 : GC := .cond (.tmp 11) s34_38 .skip
theorem s34_39_w {E : Env} {nt : Nat} {rd : Option Nat} {fr : Fr} {h : Heap} {Q : Ex → Fr → Heap → Prop} : s34_39.wp E nt rd fr h Q = (GC.cond (.tmp 11) s34_38 .skip).wp E nt rd fr h Q := Eq.trans rfl rfl
def r34_40 : List GO := [⟨none, some 10, .move (.tmp 3)⟩,
  ⟨none, some 11, .binOp .neq 9 (.tmp 10) (.const (.string ⟨⟨[]⟩⟩)) 9⟩]
theorem r34_40_w {E : Env} {fr : Fr} {h : Heap} {Q : Fr → Heap → Prop} : opsW E r34_40 fr h Q = opsW E [⟨none, some 10, .move (.tmp 3)⟩,
  ⟨none, some 11, .binOp .neq 9 (.tmp 10) (.const (.string ⟨⟨[]⟩⟩)) 9⟩] fr h Q := Eq.trans rfl rfl
def s34_41 : GC := .seq (.ops r34_40) s34_39
theorem s34_41_w {E : Env} {nt : Nat} {rd : Option Nat} {fr : Fr} {h : Heap} {Q : Ex → Fr → Heap → Prop} : s34_41.wp E nt rd fr h Q = (GC.seq (.ops r34_40) s34_39).wp E nt rd fr h Q := Eq.trans rfl rfl
def r34_42 : List GO := [⟨none, some 8, .move (.tmp 0)⟩,
  ⟨none, some 9, .call ⟨.value (.func 54), ⟨[.tmp 8]⟩, ⟨[27]⟩⟩⟩,
  ⟨none, some 3, .assign (.tmp 9)⟩]
theorem r34_42_w {E : Env} {fr : Fr} {h : Heap} {Q : Fr → Heap → Prop} : opsW E r34_42 fr h Q = opsW E [⟨none, some 8, .move (.tmp 0)⟩,
  ⟨none, some 9, .call ⟨.value (.func 54), ⟨[.tmp 8]⟩, ⟨[27]⟩⟩⟩,
  ⟨none, some 3, .assign (.tmp 9)⟩] fr h Q := Eq.trans rfl rfl
def s34_43 : GC := .seq (.ops r34_42) s34_41
theorem s34_43_w {E : Env} {nt : Nat} {rd : Option Nat} {fr : Fr} {h : Heap} {Q : Ex → Fr → Heap → Prop} : s34_43.wp E nt rd fr h Q = (GC.seq (.ops r34_42) s34_41).wp E nt rd fr h Q := Eq.trans rfl rfl
def s34_44 : GC := .seq (s34_43) s34_36
theorem s34_44_w {E : Env} {nt : Nat} {rd : Option Nat} {fr : Fr} {h : Heap} {Q : Ex → Fr → Heap → Prop} : s34_44.wp E nt rd fr h Q = (GC.seq (s34_43) s34_36).wp E nt rd fr h Q := Eq.trans rfl rfl
def r34_45 : List GO := [⟨none, some 2, .assign (.const (.string ⟨⟨[]⟩⟩))⟩]
theorem r34_45_w {E : Env} {fr : Fr} {h : Heap} {Q : Fr → Heap → Prop} : opsW E r34_45 fr h Q = opsW E [⟨none, some 2, .assign (.const (.string ⟨⟨[]⟩⟩))⟩] fr h Q := Eq.trans rfl rfl
def s34_46 : GC := .seq (.ops r34_45) s34_44
theorem s34_46_w {E : Env} {nt : Nat} {rd : Option Nat} {fr : Fr} {h : Heap} {Q : Ex → Fr → Heap → Prop} : s34_46.wp E nt rd fr h Q = (GC.seq (.ops r34_45) s34_44).wp E nt rd fr h Q := Eq.trans rfl rfl
theorem c34 : Tryd.f34.body.bind (clean env 58) = some s34_46 := by kernel_rfl
theorem e34 : env.funs.get 34 = some Tryd.f34 := by kernel_rfl
theorem F34 {args : List Value} {h : Heap} {K : Value → Heap → Prop} (hl : args.length = 1) (w : s34_46.wp env 58 none (setAll args 0 .leaf) h (resK env [.tmp 2] K)) : Ret env (.func 34) args h K :=
  Ret.of_body' rfl e34 c34 rfl rfl (by rw [hl]; decide) w
/-! helmsman/share.Of -/
def r35_0 : List GO := [⟨none, some 79, .move (.tmp 15)⟩,
  ⟨none, some 2, .assign (.tmp 79)⟩,
  ⟨none, some 3, .assign (.const (.int .i64 0))⟩]
theorem r35_0_w {E : Env} {fr : Fr} {h : Heap} {Q : Fr → Heap → Prop} : opsW E r35_0 fr h Q = opsW E [⟨none, some 79, .move (.tmp 15)⟩,
  ⟨none, some 2, .assign (.tmp 79)⟩,
  ⟨none, some 3, .assign (.const (.int .i64 0))⟩] fr h Q := Eq.trans rfl rfl
def s35_1 : GC := .seq (.ops r35_0) .ret
theorem s35_1_w {E : Env} {nt : Nat} {rd : Option Nat} {fr : Fr} {h : Heap} {Q : Ex → Fr → Heap → Prop} : s35_1.wp E nt rd fr h Q = (GC.seq (.ops r35_0) .ret).wp E nt rd fr h Q := Eq.trans rfl rfl
def r35_2 : List GO := [⟨none, some 2, .assign (.const (.float .f64 0))⟩,
  ⟨none, some 3, .assign (.const (.int .i64 16))⟩]
theorem r35_2_w {E : Env} {fr : Fr} {h : Heap} {Q : Fr → Heap → Prop} : opsW E r35_2 fr h Q = opsW E [⟨none, some 2, .assign (.const (.float .f64 0))⟩,
  ⟨none, some 3, .assign (.const (.int .i64 16))⟩] fr h Q := Eq.trans rfl rfl
def s35_3 : GC := .seq (.ops r35_2) .ret
theorem s35_3_w {E : Env} {nt : Nat} {rd : Option Nat} {fr : Fr} {h : Heap} {Q : Ex → Fr → Heap → Prop} : s35_3.wp E nt rd fr h Q = (GC.seq (.ops r35_2) .ret).wp E nt rd fr h Q := Eq.trans rfl rfl
def s35_4 : GC := .cond (.tmp 78) s35_3 .skip
theorem s35_4_w {E : Env} {nt : Nat} {rd : Option Nat} {fr : Fr} {h : Heap} {Q : Ex → Fr → Heap → Prop} : s35_4.wp E nt rd fr h Q = (GC.cond (.tmp 78) s35_3 .skip).wp E nt rd fr h Q := Eq.trans rfl rfl
def r35_5 : List GO := [⟨none, some 75, .move (.tmp 15)⟩,
  ⟨none, some 76, .call ⟨.value (.func 34), ⟨[.tmp 75]⟩, ⟨[27]⟩⟩⟩,
  ⟨none, some 77, .move (.tmp 0)⟩,
  ⟨none, some 78, .binOp .neq 9 (.tmp 76) (.tmp 77) 9⟩]
theorem r35_5_w {E : Env} {fr : Fr} {h : Heap} {Q : Fr → Heap → Prop} : opsW E r35_5 fr h Q = opsW E [⟨none, some 75, .move (.tmp 15)⟩,
  ⟨none, some 76, .call ⟨.value (.func 34), ⟨[.tmp 75]⟩, ⟨[27]⟩⟩⟩,
  ⟨none, some 77, .move (.tmp 0)⟩,
  ⟨none, some 78, .binOp .neq 9 (.tmp 76) (.tmp 77) 9⟩] fr h Q := Eq.trans rfl rfl
def s35_6 : GC := .seq (.ops r35_5) s35_4
theorem s35_6_w {E : Env} {nt : Nat} {rd : Option Nat} {fr : Fr} {h : Heap} {Q : Ex → Fr → Heap → Prop} : s35_6.wp E nt rd fr h Q = (GC.seq (.ops r35_5) s35_4).wp E nt rd fr h Q := Eq.trans rfl rfl
def s35_7 : GC := .seq (s35_6) s35_1
theorem s35_7_w {E : Env} {nt : Nat} {rd : Option Nat} {fr : Fr} {h : Heap} {Q : Ex → Fr → Heap → Prop} : s35_7.wp E nt rd fr h Q = (GC.seq (s35_6) s35_1).wp E nt rd fr h Q := Eq.trans rfl rfl
def r35_8 : List GO := [⟨none, some 73, .move (.tmp 15)⟩,
  ⟨none, some 74, .unOp .neg 27 (.tmp 73)⟩,
  ⟨none, some 15, .assign (.tmp 74)⟩]
theorem r35_8_w {E : Env} {fr : Fr} {h : Heap} {Q : Fr → Heap → Prop} : opsW E r35_8 fr h Q = opsW E [⟨none, some 73, .move (.tmp 15)⟩,
  ⟨none, some 74, .unOp .neg 27 (.tmp 73)⟩,
  ⟨none, some 15, .assign (.tmp 74)⟩] fr h Q := Eq.trans rfl rfl
def s35_9 : GC := .ops r35_8
theorem s35_9_w {E : Env} {nt : Nat} {rd : Option Nat} {fr : Fr} {h : Heap} {Q : Ex → Fr → Heap → Prop} : s35_9.wp E nt rd fr h Q = (GC.ops r35_8).wp E nt rd fr h Q := Eq.trans rfl rfl
def s35_10 : GC := .cond (.tmp 72) s35_9 .skip
theorem s35_10_w {E : Env} {nt : Nat} {rd : Option Nat} {fr : Fr} {h : Heap} {Q : Ex → Fr → Heap → Prop} : s35_10.wp E nt rd fr h Q = (GC.cond (.tmp 72) s35_9 .skip).wp E nt rd fr h Q := Eq.trans rfl rfl
def r35_11 : List GO := [⟨none, some 72, .move (.tmp 7)⟩]
theorem r35_11_w {E : Env} {fr : Fr} {h : Heap} {Q : Fr → Heap → Prop} : opsW E r35_11 fr h Q = opsW E [⟨none, some 72, .move (.tmp 7)⟩] fr h Q := Eq.trans rfl rfl
def s35_12 : GC := .seq (.ops r35_11) s35_10
theorem s35_12_w {E : Env} {nt : Nat} {rd : Option Nat} {fr : Fr} {h : Heap} {Q : Ex → Fr → Heap → Prop} : s35_12.wp E nt rd fr h Q = (GC.seq (.ops r35_11) s35_10).wp E nt rd fr h Q := Eq.trans rfl rfl
def s35_13 : GC := .seq (s35_12) s35_7
theorem s35_13_w {E : Env} {nt : Nat} {rd : Option Nat} {fr : Fr} {h : Heap} {Q : Ex → Fr → Heap → Prop} : s35_13.wp E nt rd fr h Q = (GC.seq (s35_12) s35_7).wp E nt rd fr h Q := Eq.trans rfl rfl
def r35_14 : List GO := [⟨none, some 66, .move (.tmp 13)⟩,
  ⟨none, some 67, .convert 23 27 (.tmp 66)⟩,
  ⟨none, some 68, .move (.tmp 8)⟩,
  ⟨none, some 69, .call ⟨.builtin .min, ⟨[.tmp 68, .const (.int .i64 5000)]⟩, ⟨[3, 3]⟩⟩⟩,
  ⟨none, some 70, .call ⟨.builtin .max, ⟨[.tmp 69, .const (.int .i64 (-5000))]⟩, ⟨[3, 3]⟩⟩⟩,
  ⟨none, some 71, .call ⟨.value (.func 60), ⟨[.tmp 67, .tmp 70]⟩, ⟨[27, 3]⟩⟩⟩,
  ⟨none, some 15, .assign (.tmp 71)⟩]
theorem r35_14_w {E : Env} {fr : Fr} {h : Heap} {Q : Fr → Heap → Prop} : opsW E r35_14 fr h Q = opsW E [⟨none, some 66, .move (.tmp 13)⟩,
  ⟨none, some 67, .convert 23 27 (.tmp 66)⟩,
  ⟨none, some 68, .move (.tmp 8)⟩,
  ⟨none, some 69, .call ⟨.builtin .min, ⟨[.tmp 68, .const (.int .i64 5000)]⟩, ⟨[3, 3]⟩⟩⟩,
  ⟨none, some 70, .call ⟨.builtin .max, ⟨[.tmp 69, .const (.int .i64 (-5000))]⟩, ⟨[3, 3]⟩⟩⟩,
  ⟨none, some 71, .call ⟨.value (.func 60), ⟨[.tmp 67, .tmp 70]⟩, ⟨[27, 3]⟩⟩⟩,
  ⟨none, some 15, .assign (.tmp 71)⟩] fr h Q := Eq.trans rfl rfl
def s35_15 : GC := .seq (.ops r35_14) s35_13
theorem s35_15_w {E : Env} {nt : Nat} {rd : Option Nat} {fr : Fr} {h : Heap} {Q : Ex → Fr → Heap → Prop} : s35_15.wp E nt rd fr h Q = (GC.seq (.ops r35_14) s35_13).wp E nt rd fr h Q := Eq.trans rfl rfl
def r35_16 : List GO := [⟨none, some 62, .move (.tmp 9)⟩,
  ⟨none, some 63, .call ⟨.value (.func 59), ⟨[.tmp 62, .const (.int .i64 10), .const (.int .i64 53)]⟩, ⟨[9, 3, 3]⟩⟩⟩,
  ⟨none, some 61, .move (.tmp 63)⟩,
  ⟨none, some 64, .extract (.tmp 61) 0⟩,
  ⟨none, some 65, .extract (.tmp 61) 1⟩,
  ⟨none, some 13, .assign (.tmp 64)⟩,
  ⟨none, some 14, .assign (.tmp 65)⟩]
theorem r35_16_w {E : Env} {fr : Fr} {h : Heap} {Q : Fr → Heap → Prop} : opsW E r35_16 fr h Q = opsW E [⟨none, some 62, .move (.tmp 9)⟩,
  ⟨none, some 63, .call ⟨.value (.func 59), ⟨[.tmp 62, .const (.int .i64 10), .const (.int .i64 53)]⟩, ⟨[9, 3, 3]⟩⟩⟩,
  ⟨none, some 61, .move (.tmp 63)⟩,
  ⟨none, some 64, .extract (.tmp 61) 0⟩,
  ⟨none, some 65, .extract (.tmp 61) 1⟩,
  ⟨none, some 13, .assign (.tmp 64)⟩,
  ⟨none, some 14, .assign (.tmp 65)⟩] fr h Q := Eq.trans rfl rfl
def s35_17 : GC := .seq (.ops r35_16) s35_15
theorem s35_17_w {E : Env} {nt : Nat} {rd : Option Nat} {fr : Fr} {h : Heap} {Q : Ex → Fr → Heap → Prop} : s35_17.wp E nt rd fr h Q = (GC.seq (.ops r35_16) s35_15).wp E nt rd fr h Q := Eq.trans rfl rfl
def r35_18 : List GO := [⟨none, some 58, .move (.tmp 8)⟩,
  ⟨none, some 59, .move (.tmp 12)⟩,
  ⟨none, some 60, .binOp .mul 3 (.tmp 58) (.tmp 59) 3⟩,
  ⟨none, some 8, .assign (.tmp 60)⟩]
theorem r35_18_w {E : Env} {fr : Fr} {h : Heap} {Q : Fr → Heap → Prop} : opsW E r35_18 fr h Q = opsW E [⟨none, some 58, .move (.tmp 8)⟩,
  ⟨none, some 59, .move (.tmp 12)⟩,
  ⟨none, some 60, .binOp .mul 3 (.tmp 58) (.tmp 59) 3⟩,
  ⟨none, some 8, .assign (.tmp 60)⟩] fr h Q := Eq.trans rfl rfl
def s35_19 : GC := .ops r35_18
theorem s35_19_w {E : Env} {nt : Nat} {rd : Option Nat} {fr : Fr} {h : Heap} {Q : Ex → Fr → Heap → Prop} : s35_19.wp E nt rd fr h Q = (GC.ops r35_18).wp E nt rd fr h Q := Eq.trans rfl rfl
def r35_20 : List GO := [⟨none, some 54, .move (.tmp 10)⟩,
  ⟨none, some 55, .call ⟨.value (.func 58), ⟨[.tmp 54]⟩, ⟨[9]⟩⟩⟩,
  ⟨none, some 53, .move (.tmp 55)⟩,
  ⟨none, some 56, .extract (.tmp 53) 0⟩,
  ⟨none, some 57, .extract (.tmp 53) 1⟩,
  ⟨none, some 8, .assign (.tmp 56)⟩]
theorem r35_20_w {E : Env} {fr : Fr} {h : Heap} {Q : Fr → Heap → Prop} : opsW E r35_20 fr h Q = opsW E [⟨none, some 54, .move (.tmp 10)⟩,
  ⟨none, some 55, .call ⟨.value (.func 58), ⟨[.tmp 54]⟩, ⟨[9]⟩⟩⟩,
  ⟨none, some 53, .move (.tmp 55)⟩,
  ⟨none, some 56, .extract (.tmp 53) 0⟩,
  ⟨none, some 57, .extract (.tmp 53) 1⟩,
  ⟨none, some 8, .assign (.tmp 56)⟩] fr h Q := Eq.trans rfl rfl
def s35_21 : GC := .seq (.ops r35_20) s35_19
theorem s35_21_w {E : Env} {nt : Nat} {rd : Option Nat} {fr : Fr} {h : Heap} {Q : Ex → Fr → Heap → Prop} : s35_21.wp E nt rd fr h Q = (GC.seq (.ops r35_20) s35_19).wp E nt rd fr h Q := Eq.trans rfl rfl
def s35_22 : GC := .cond (.tmp 52) s35_21 .skip
theorem s35_22_w {E : Env} {nt : Nat} {rd : Option Nat} {fr : Fr} {h : Heap} {Q : Ex → Fr → Heap → Prop} : s35_22.wp E nt rd fr h Q = (GC.cond (.tmp 52) s35_21 .skip).wp E nt rd fr h Q := Eq.trans rfl rfl
def r35_23 : List GO := [⟨none, some 52, .move (.tmp 11)⟩]
theorem r35_23_w {E : Env} {fr : Fr} {h : Heap} {Q : Fr → Heap → Prop} : opsW E r35_23 fr h Q = opsW E [⟨none, some 52, .move (.tmp 11)⟩] fr h Q := Eq.trans rfl rfl
def s35_24 : GC := .seq (.ops r35_23) s35_22
theorem s35_24_w {E : Env} {nt : Nat} {rd : Option Nat} {fr : Fr} {h : Heap} {Q : Ex → Fr → Heap → Prop} : s35_24.wp E nt rd fr h Q = (GC.seq (.ops r35_23) s35_22).wp E nt rd fr h Q := Eq.trans rfl rfl
def s35_25 : GC := .seq (s35_24) (.exit 2)
theorem s35_25_w {E : Env} {nt : Nat} {rd : Option Nat} {fr : Fr} {h : Heap} {Q : Ex → Fr → Heap → Prop} : s35_25.wp E nt rd fr h Q = (GC.seq (s35_24) (.exit 2)).wp E nt rd fr h Q := Eq.trans rfl rfl
def r35_26 : List GO := [⟨none, some 12, .assign (.const (.int .i64 (-1)))⟩]
theorem r35_26_w {E : Env} {fr : Fr} {h : Heap} {Q : Fr → Heap → Prop} : opsW E r35_26 fr h Q = opsW E [⟨none, some 12, .assign (.const (.int .i64 (-1)))⟩] fr h Q := Eq.trans rfl rfl
def s35_27 : GC := .ops r35_26
theorem s35_27_w {E : Env} {nt : Nat} {rd : Option Nat} {fr : Fr} {h : Heap} {Q : Ex → Fr → Heap → Prop} : s35_27.wp E nt rd fr h Q = (GC.ops r35_26).wp E nt rd fr h Q := Eq.trans rfl rfl
def r35_28 : List GO := [⟨none, some 47, .move (.tmp 6)⟩,
  ⟨none, some 48, .call ⟨.value (.func 57), ⟨[.tmp 47, .const (.string ⟨⟨[47, 50, 94]⟩⟩)]⟩, ⟨[9, 9]⟩⟩⟩,
  ⟨none, some 46, .move (.tmp 48)⟩,
  ⟨none, some 49, .extract (.tmp 46) 0⟩,
  ⟨none, some 50, .extract (.tmp 46) 1⟩,
  ⟨none, some 51, .extract (.tmp 46) 2⟩,
  ⟨none, some 9, .assign (.tmp 49)⟩,
  ⟨none, some 10, .assign (.tmp 50)⟩,
  ⟨none, some 11, .assign (.tmp 51)⟩]
theorem r35_28_w {E : Env} {fr : Fr} {h : Heap} {Q : Fr → Heap → Prop} : opsW E r35_28 fr h Q = opsW E [⟨none, some 47, .move (.tmp 6)⟩,
  ⟨none, some 48, .call ⟨.value (.func 57), ⟨[.tmp 47, .const (.string ⟨⟨[47, 50, 94]⟩⟩)]⟩, ⟨[9, 9]⟩⟩⟩,
  ⟨none, some 46, .move (.tmp 48)⟩,
  ⟨none, some 49, .extract (.tmp 46) 0⟩,
  ⟨none, some 50, .extract (.tmp 46) 1⟩,
  ⟨none, some 51, .extract (.tmp 46) 2⟩,
  ⟨none, some 9, .assign (.tmp 49)⟩,
  ⟨none, some 10, .assign (.tmp 50)⟩,
  ⟨none, some 11, .assign (.tmp 51)⟩] fr h Q := Eq.trans rfl rfl
def s35_29 : GC := .seq (.ops r35_28) s35_27
theorem s35_29_w {E : Env} {nt : Nat} {rd : Option Nat} {fr : Fr} {h : Heap} {Q : Ex → Fr → Heap → Prop} : s35_29.wp E nt rd fr h Q = (GC.seq (.ops r35_28) s35_27).wp E nt rd fr h Q := Eq.trans rfl rfl
def s35_30 : GC := .cond (.tmp 43) (.exit 3) .skip
theorem s35_30_w {E : Env} {nt : Nat} {rd : Option Nat} {fr : Fr} {h : Heap} {Q : Ex → Fr → Heap → Prop} : s35_30.wp E nt rd fr h Q = (GC.cond (.tmp 43) (.exit 3) .skip).wp E nt rd fr h Q := Eq.trans rfl rfl
def r35_31 : List GO := [⟨none, some 44, .move (.tmp 11)⟩,
  ⟨none, some 45, .unOp .not 4 (.tmp 44)⟩,
  ⟨none, some 43, .assign (.tmp 45)⟩]
theorem r35_31_w {E : Env} {fr : Fr} {h : Heap} {Q : Fr → Heap → Prop} : opsW E r35_31 fr h Q = opsW E [⟨none, some 44, .move (.tmp 11)⟩,
  ⟨none, some 45, .unOp .not 4 (.tmp 44)⟩,
  ⟨none, some 43, .assign (.tmp 45)⟩] fr h Q := Eq.trans rfl rfl
def s35_32 : GC := .seq (.ops r35_31) s35_30
theorem s35_32_w {E : Env} {nt : Nat} {rd : Option Nat} {fr : Fr} {h : Heap} {Q : Ex → Fr → Heap → Prop} : s35_32.wp E nt rd fr h Q = (GC.seq (.ops r35_31) s35_30).wp E nt rd fr h Q := Eq.trans rfl rfl
def s35_33 : GC := .seq (s35_32) (.exit 4)
theorem s35_33_w {E : Env} {nt : Nat} {rd : Option Nat} {fr : Fr} {h : Heap} {Q : Ex → Fr → Heap → Prop} : s35_33.wp E nt rd fr h Q = (GC.seq (s35_32) (.exit 4)).wp E nt rd fr h Q := Eq.trans rfl rfl
def s35_34 : GC := .seq (.block 3 s35_33) s35_29
theorem s35_34_w {E : Env} {nt : Nat} {rd : Option Nat} {fr : Fr} {h : Heap} {Q : Ex → Fr → Heap → Prop} : s35_34.wp E nt rd fr h Q = (GC.seq (.block 3 s35_33) s35_29).wp E nt rd fr h Q := Eq.trans rfl rfl
def s35_35 : GC := .seq (.block 4 s35_34) s35_25
theorem s35_35_w {E : Env} {nt : Nat} {rd : Option Nat} {fr : Fr} {h : Heap} {Q : Ex → Fr → Heap → Prop} : s35_35.wp E nt rd fr h Q = (GC.seq (.block 4 s35_34) s35_25).wp E nt rd fr h Q := Eq.trans rfl rfl
def s35_36 : GC := .block 2 s35_35
theorem s35_36_w {E : Env} {nt : Nat} {rd : Option Nat} {fr : Fr} {h : Heap} {Q : Ex → Fr → Heap → Prop} : s35_36.wp E nt rd fr h Q = (GC.block 2 s35_35).wp E nt rd fr h Q := Eq.trans rfl rfl
def r35_37 : List GO := [⟨none, some 12, .assign (.const (.int .i64 1))⟩]
theorem r35_37_w {E : Env} {fr : Fr} {h : Heap} {Q : Fr → Heap → Prop} : opsW E r35_37 fr h Q = opsW E [⟨none, some 12, .assign (.const (.int .i64 1))⟩] fr h Q := Eq.trans rfl rfl
def s35_38 : GC := .seq (.ops r35_37) s35_36
theorem s35_38_w {E : Env} {nt : Nat} {rd : Option Nat} {fr : Fr} {h : Heap} {Q : Ex → Fr → Heap → Prop} : s35_38.wp E nt rd fr h Q = (GC.seq (.ops r35_37) s35_36).wp E nt rd fr h Q := Eq.trans rfl rfl
def s35_39 : GC := .seq (s35_38) s35_17
theorem s35_39_w {E : Env} {nt : Nat} {rd : Option Nat} {fr : Fr} {h : Heap} {Q : Ex → Fr → Heap → Prop} : s35_39.wp E nt rd fr h Q = (GC.seq (s35_38) s35_17).wp E nt rd fr h Q := Eq.trans rfl rfl
def r35_40 : List GO := [⟨none, some 38, .move (.tmp 6)⟩,
  ⟨none, some 39, .call ⟨.value (.func 57), ⟨[.tmp 38, .const (.string ⟨⟨[42, 50, 94]⟩⟩)]⟩, ⟨[9, 9]⟩⟩⟩,
  ⟨none, some 37, .move (.tmp 39)⟩,
  ⟨none, some 40, .extract (.tmp 37) 0⟩,
  ⟨none, some 41, .extract (.tmp 37) 1⟩,
  ⟨none, some 42, .extract (.tmp 37) 2⟩,
  ⟨none, some 9, .assign (.tmp 40)⟩,
  ⟨none, some 10, .assign (.tmp 41)⟩,
  ⟨none, some 11, .assign (.tmp 42)⟩]
theorem r35_40_w {E : Env} {fr : Fr} {h : Heap} {Q : Fr → Heap → Prop} : opsW E r35_40 fr h Q = opsW E [⟨none, some 38, .move (.tmp 6)⟩,
  ⟨none, some 39, .call ⟨.value (.func 57), ⟨[.tmp 38, .const (.string ⟨⟨[42, 50, 94]⟩⟩)]⟩, ⟨[9, 9]⟩⟩⟩,
  ⟨none, some 37, .move (.tmp 39)⟩,
  ⟨none, some 40, .extract (.tmp 37) 0⟩,
  ⟨none, some 41, .extract (.tmp 37) 1⟩,
  ⟨none, some 42, .extract (.tmp 37) 2⟩,
  ⟨none, some 9, .assign (.tmp 40)⟩,
  ⟨none, some 10, .assign (.tmp 41)⟩,
  ⟨none, some 11, .assign (.tmp 42)⟩] fr h Q := Eq.trans rfl rfl
def s35_41 : GC := .seq (.ops r35_40) s35_39
theorem s35_41_w {E : Env} {nt : Nat} {rd : Option Nat} {fr : Fr} {h : Heap} {Q : Ex → Fr → Heap → Prop} : s35_41.wp E nt rd fr h Q = (GC.seq (.ops r35_40) s35_39).wp E nt rd fr h Q := Eq.trans rfl rfl
def r35_42 : List GO := [⟨none, some 8, .assign (.const (.int .i64 0))⟩]
theorem r35_42_w {E : Env} {fr : Fr} {h : Heap} {Q : Fr → Heap → Prop} : opsW E r35_42 fr h Q = opsW E [⟨none, some 8, .assign (.const (.int .i64 0))⟩] fr h Q := Eq.trans rfl rfl
def s35_43 : GC := .seq (.ops r35_42) s35_41
theorem s35_43_w {E : Env} {nt : Nat} {rd : Option Nat} {fr : Fr} {h : Heap} {Q : Ex → Fr → Heap → Prop} : s35_43.wp E nt rd fr h Q = (GC.seq (.ops r35_42) s35_41).wp E nt rd fr h Q := Eq.trans rfl rfl
def r35_44 : List GO := [⟨none, some 33, .move (.tmp 0)⟩,
  ⟨none, some 34, .call ⟨.value (.func 56), ⟨[.tmp 33, .const (.string ⟨⟨[45]⟩⟩)]⟩, ⟨[9, 9]⟩⟩⟩,
  ⟨none, some 32, .move (.tmp 34)⟩,
  ⟨none, some 35, .extract (.tmp 32) 0⟩,
  ⟨none, some 36, .extract (.tmp 32) 1⟩,
  ⟨none, some 6, .assign (.tmp 35)⟩,
  ⟨none, some 7, .assign (.tmp 36)⟩]
theorem r35_44_w {E : Env} {fr : Fr} {h : Heap} {Q : Fr → Heap → Prop} : opsW E r35_44 fr h Q = opsW E [⟨none, some 33, .move (.tmp 0)⟩,
  ⟨none, some 34, .call ⟨.value (.func 56), ⟨[.tmp 33, .const (.string ⟨⟨[45]⟩⟩)]⟩, ⟨[9, 9]⟩⟩⟩,
  ⟨none, some 32, .move (.tmp 34)⟩,
  ⟨none, some 35, .extract (.tmp 32) 0⟩,
  ⟨none, some 36, .extract (.tmp 32) 1⟩,
  ⟨none, some 6, .assign (.tmp 35)⟩,
  ⟨none, some 7, .assign (.tmp 36)⟩] fr h Q := Eq.trans rfl rfl
def s35_45 : GC := .seq (.ops r35_44) s35_43
theorem s35_45_w {E : Env} {nt : Nat} {rd : Option Nat} {fr : Fr} {h : Heap} {Q : Ex → Fr → Heap → Prop} : s35_45.wp E nt rd fr h Q = (GC.seq (.ops r35_44) s35_43).wp E nt rd fr h Q := Eq.trans rfl rfl
def r35_46 : List GO := [⟨none, some 31, .binOp .add 3 (.tmp 22) (.const (.int .i64 1)) 3⟩,
  ⟨none, some 22, .move (.tmp 31)⟩]
theorem r35_46_w {E : Env} {fr : Fr} {h : Heap} {Q : Fr → Heap → Prop} : opsW E r35_46 fr h Q = opsW E [⟨none, some 31, .binOp .add 3 (.tmp 22) (.const (.int .i64 1)) 3⟩,
  ⟨none, some 22, .move (.tmp 31)⟩] fr h Q := Eq.trans rfl rfl
def s35_47 : GC := .ops r35_46
theorem s35_47_w {E : Env} {nt : Nat} {rd : Option Nat} {fr : Fr} {h : Heap} {Q : Ex → Fr → Heap → Prop} : s35_47.wp E nt rd fr h Q = (GC.ops r35_46).wp E nt rd fr h Q := Eq.trans rfl rfl
def r35_48 : List GO := [⟨none, some 30, .move (.tmp 5)⟩,
  ⟨none, some 2, .assign (.tmp 30)⟩,
  ⟨none, some 3, .assign (.const (.int .i64 0))⟩]
theorem r35_48_w {E : Env} {fr : Fr} {h : Heap} {Q : Fr → Heap → Prop} : opsW E r35_48 fr h Q = opsW E [⟨none, some 30, .move (.tmp 5)⟩,
  ⟨none, some 2, .assign (.tmp 30)⟩,
  ⟨none, some 3, .assign (.const (.int .i64 0))⟩] fr h Q := Eq.trans rfl rfl
def s35_49 : GC := .seq (.ops r35_48) .ret
theorem s35_49_w {E : Env} {nt : Nat} {rd : Option Nat} {fr : Fr} {h : Heap} {Q : Ex → Fr → Heap → Prop} : s35_49.wp E nt rd fr h Q = (GC.seq (.ops r35_48) .ret).wp E nt rd fr h Q := Eq.trans rfl rfl
def s35_50 : GC := .cond (.tmp 29) s35_49 .skip
theorem s35_50_w {E : Env} {nt : Nat} {rd : Option Nat} {fr : Fr} {h : Heap} {Q : Ex → Fr → Heap → Prop} : s35_50.wp E nt rd fr h Q = (GC.cond (.tmp 29) s35_49 .skip).wp E nt rd fr h Q := Eq.trans rfl rfl
def r35_51 : List GO := [⟨none, some 26, .move (.tmp 5)⟩,
  ⟨none, some 27, .call ⟨.value (.func 54), ⟨[.tmp 26]⟩, ⟨[27]⟩⟩⟩,
  ⟨none, some 28, .move (.tmp 0)⟩,
  ⟨none, some 29, .binOp .eql 9 (.tmp 27) (.tmp 28) 9⟩]
theorem r35_51_w {E : Env} {fr : Fr} {h : Heap} {Q : Fr → Heap → Prop} : opsW E r35_51 fr h Q = opsW E [⟨none, some 26, .move (.tmp 5)⟩,
  ⟨none, some 27, .call ⟨.value (.func 54), ⟨[.tmp 26]⟩, ⟨[27]⟩⟩⟩,
  ⟨none, some 28, .move (.tmp 0)⟩,
  ⟨none, some 29, .binOp .eql 9 (.tmp 27) (.tmp 28) 9⟩] fr h Q := Eq.trans rfl rfl
def s35_52 : GC := .seq (.ops r35_51) s35_50
theorem s35_52_w {E : Env} {nt : Nat} {rd : Option Nat} {fr : Fr} {h : Heap} {Q : Ex → Fr → Heap → Prop} : s35_52.wp E nt rd fr h Q = (GC.seq (.ops r35_51) s35_50).wp E nt rd fr h Q := Eq.trans rfl rfl
def r35_53 : List GO := [⟨none, some 24, .indexAddr 25 (.tmp 20) (.tmp 22)⟩,
  ⟨none, some 25, .load 27 (.tmp 24)⟩,
  ⟨none, some 5, .assign (.tmp 25)⟩]
theorem r35_53_w {E : Env} {fr : Fr} {h : Heap} {Q : Fr → Heap → Prop} : opsW E r35_53 fr h Q = opsW E [⟨none, some 24, .indexAddr 25 (.tmp 20) (.tmp 22)⟩,
  ⟨none, some 25, .load 27 (.tmp 24)⟩,
  ⟨none, some 5, .assign (.tmp 25)⟩] fr h Q := Eq.trans rfl rfl
def s35_54 : GC := .seq (.ops r35_53) s35_52
theorem s35_54_w {E : Env} {nt : Nat} {rd : Option Nat} {fr : Fr} {h : Heap} {Q : Ex → Fr → Heap → Prop} : s35_54.wp E nt rd fr h Q = (GC.seq (.ops r35_53) s35_52).wp E nt rd fr h Q := Eq.trans rfl rfl
def s35_55 : GC := .seq (.block 1 s35_54) s35_47
theorem s35_55_w {E : Env} {nt : Nat} {rd : Option Nat} {fr : Fr} {h : Heap} {Q : Ex → Fr → Heap → Prop} : s35_55.wp E nt rd fr h Q = (GC.seq (.block 1 s35_54) s35_47).wp E nt rd fr h Q := Eq.trans rfl rfl
def s35_56 : GC := .cond (.tmp 23) .skip (.exit 0)
theorem s35_56_w {E : Env} {nt : Nat} {rd : Option Nat} {fr : Fr} {h : Heap} {Q : Ex → Fr → Heap → Prop} : s35_56.wp E nt rd fr h Q = (GC.cond (.tmp 23) .skip (.exit 0)).wp E nt rd fr h Q := Eq.trans rfl rfl
def s35_57 : GC := .seq (s35_56) s35_55
theorem s35_57_w {E : Env} {nt : Nat} {rd : Option Nat} {fr : Fr} {h : Heap} {Q : Ex → Fr → Heap → Prop} : s35_57.wp E nt rd fr h Q = (GC.seq (s35_56) s35_55).wp E nt rd fr h Q := Eq.trans rfl rfl
def r35_58 : List GO := [⟨none, some 23, .binOp .lss 3 (.tmp 22) (.tmp 21) 3⟩]
theorem r35_58_w {E : Env} {fr : Fr} {h : Heap} {Q : Fr → Heap → Prop} : opsW E r35_58 fr h Q = opsW E [⟨none, some 23, .binOp .lss 3 (.tmp 22) (.tmp 21) 3⟩] fr h Q := Eq.trans rfl rfl
def s35_59 : GC := .seq (.ops r35_58) s35_57
theorem s35_59_w {E : Env} {nt : Nat} {rd : Option Nat} {fr : Fr} {h : Heap} {Q : Ex → Fr → Heap → Prop} : s35_59.wp E nt rd fr h Q = (GC.seq (.ops r35_58) s35_57).wp E nt rd fr h Q := Eq.trans rfl rfl
def s35_60 : GC := .loop s35_59
theorem s35_60_w {E : Env} {nt : Nat} {rd : Option Nat} {fr : Fr} {h : Heap} {Q : Ex → Fr → Heap → Prop} : s35_60.wp E nt rd fr h Q = (GC.loop s35_59).wp E nt rd fr h Q := Eq.trans rfl rfl
def s35_61 : GC := .block 0 s35_60
theorem s35_61_w {E : Env} {nt : Nat} {rd : Option Nat} {fr : Fr} {h : Heap} {Q : Ex → Fr → Heap → Prop} : s35_61.wp E nt rd fr h Q = (GC.block 0 s35_60).wp E nt rd fr h Q := Eq.trans rfl rfl
def r35_62 : List GO := [⟨none, some 16, .call ⟨.value (.func 48), ⟨[]⟩, ⟨[]⟩⟩⟩,
  ⟨none, some 17, .call ⟨.value (.func 38), ⟨[.const (.int .i64 1)]⟩, ⟨[3]⟩⟩⟩,
  ⟨none, some 18, .call ⟨.value (.func 38), ⟨[.const (.int .i64 (-1))]⟩, ⟨[3]⟩⟩⟩,
  ⟨none, some 19, .call ⟨.value (.func 39), ⟨[.const (.float .f64 0), .const (.float .f64 13830554455654793216)]⟩, ⟨[27, 27]⟩⟩⟩,
  ⟨none, some 20, .buildSlice 25 5 ⟨[(0, .tmp 16), (1, .tmp 17), (2, .tmp 18), (3, .const (.float .f64 0)), (4, .tmp 19)]⟩⟩,
  ⟨none, some 21, .call ⟨.builtin .len, ⟨[.tmp 20]⟩, ⟨[25]⟩⟩⟩,
  ⟨none, some 22, .move (.const (.int .i64 0))⟩]
theorem r35_62_w {E : Env} {fr : Fr} {h : Heap} {Q : Fr → Heap → Prop} : opsW E r35_62 fr h Q = opsW E [⟨none, some 16, .call ⟨.value (.func 48), ⟨[]⟩, ⟨[]⟩⟩⟩,
  ⟨none, some 17, .call ⟨.value (.func 38), ⟨[.const (.int .i64 1)]⟩, ⟨[3]⟩⟩⟩,
  ⟨none, some 18, .call ⟨.value (.func 38), ⟨[.const (.int .i64 (-1))]⟩, ⟨[3]⟩⟩⟩,
  ⟨none, some 19, .call ⟨.value (.func 39), ⟨[.const (.float .f64 0), .const (.float .f64 13830554455654793216)]⟩, ⟨[27, 27]⟩⟩⟩,
  ⟨none, some 20, .buildSlice 25 5 ⟨[(0, .tmp 16), (1, .tmp 17), (2, .tmp 18), (3, .const (.float .f64 0)), (4, .tmp 19)]⟩⟩,
  ⟨none, some 21, .call ⟨.builtin .len, ⟨[.tmp 20]⟩, ⟨[25]⟩⟩⟩,
  ⟨none, some 22, .move (.const (.int .i64 0))⟩] fr h Q := Eq.trans rfl rfl
def s35_63 : GC := .seq (.ops r35_62) s35_61
theorem s35_63_w {E : Env} {nt : Nat} {rd : Option Nat} {fr : Fr} {h : Heap} {Q : Ex → Fr → Heap → Prop} : s35_63.wp E nt rd fr h Q = (GC.seq (.ops r35_62) s35_61).wp E nt rd fr h Q := Eq.trans rfl rfl
def s35_64 : GC := .seq (s35_63) s35_45
theorem s35_64_w {E : Env} {nt : Nat} {rd : Option Nat} {fr : Fr} {h : Heap} {Q : Ex → Fr → Heap → Prop} : s35_64.wp E nt rd fr h Q = (GC.seq (s35_63) s35_45).wp E nt rd fr h Q := Eq.trans rfl rfl
def r35_65 : List GO := [⟨none, some 2, .assign (.const (.float .f64 0))⟩,
  ⟨none, some 3, .assign (.const (.int .i64 0))⟩]
theorem r35_65_w {E : Env} {fr : Fr} {h : Heap} {Q : Fr → Heap → Prop} : opsW E r35_65 fr h Q = opsW E [⟨none, some 2, .assign (.const (.float .f64 0))⟩,
  ⟨none, some 3, .assign (.const (.int .i64 0))⟩] fr h Q := Eq.trans rfl rfl
def s35_66 : GC := .seq (.ops r35_65) s35_64
theorem s35_66_w {E : Env} {nt : Nat} {rd : Option Nat} {fr : Fr} {h : Heap} {Q : Ex → Fr → Heap → Prop} : s35_66.wp E nt rd fr h Q = (GC.seq (.ops r35_65) s35_64).wp E nt rd fr h Q := Eq.trans rfl rfl
theorem c35 : Tryd.f35.body.bind (clean env 80) = some s35_66 := by kernel_rfl
theorem e35 : env.funs.get 35 = some Tryd.f35 := by kernel_rfl
theorem F35 {args : List Value} {h : Heap} {K : Value → Heap → Prop} (hl : args.length = 1) (w : s35_66.wp env 80 none (setAll args 0 .leaf) h (resK env [.tmp 2, .tmp 3] K)) : Ret env (.func 35) args h K :=
  Ret.of_body' rfl e35 c35 rfl rfl (by rw [hl]; decide) w
/-! helmsman/helmsmanref31.Text -/
def r36_0 : List GO := [⟨none, some 67, .move (.tmp 6)⟩,
  ⟨none, some 2, .assign (.tmp 67)⟩]
theorem r36_0_w {E : Env} {fr : Fr} {h : Heap} {Q : Fr → Heap → Prop} : opsW E r36_0 fr h Q = opsW E [⟨none, some 67, .move (.tmp 6)⟩,
  ⟨none, some 2, .assign (.tmp 67)⟩] fr h Q := Eq.trans rfl rfl
def s36_1 : GC := .seq (.ops r36_0) .ret
theorem s36_1_w {E : Env} {nt : Nat} {rd : Option Nat} {fr : Fr} {h : Heap} {Q : Ex → Fr → Heap → Prop} : s36_1.wp E nt rd fr h Q = (GC.seq (.ops r36_0) .ret).wp E nt rd fr h Q := Eq.trans rfl rfl
def r36_2 : List GO := [⟨none, some 61, .move (.tmp 6)⟩,
  ⟨none, some 62, .binOp .add 9 (.tmp 61) (.const (.string ⟨⟨[47, 50, 94]⟩⟩)) 9⟩,
  ⟨none, some 63, .move (.tmp 8)⟩,
  ⟨none, some 64, .unOp .neg 3 (.tmp 63)⟩,
  ⟨none, some 65, .call ⟨.value (.func 52), ⟨[.tmp 64]⟩, ⟨[3]⟩⟩⟩,
  ⟨none, some 66, .binOp .add 9 (.tmp 62) (.tmp 65) 9⟩,
  ⟨none, some 2, .assign (.tmp 66)⟩]
theorem r36_2_w {E : Env} {fr : Fr} {h : Heap} {Q : Fr → Heap → Prop} : opsW E r36_2 fr h Q = opsW E [⟨none, some 61, .move (.tmp 6)⟩,
  ⟨none, some 62, .binOp .add 9 (.tmp 61) (.const (.string ⟨⟨[47, 50, 94]⟩⟩)) 9⟩,
  ⟨none, some 63, .move (.tmp 8)⟩,
  ⟨none, some 64, .unOp .neg 3 (.tmp 63)⟩,
  ⟨none, some 65, .call ⟨.value (.func 52), ⟨[.tmp 64]⟩, ⟨[3]⟩⟩⟩,
  ⟨none, some 66, .binOp .add 9 (.tmp 62) (.tmp 65) 9⟩,
  ⟨none, some 2, .assign (.tmp 66)⟩] fr h Q := Eq.trans rfl rfl
def s36_3 : GC := .seq (.ops r36_2) .ret
theorem s36_3_w {E : Env} {nt : Nat} {rd : Option Nat} {fr : Fr} {h : Heap} {Q : Ex → Fr → Heap → Prop} : s36_3.wp E nt rd fr h Q = (GC.seq (.ops r36_2) .ret).wp E nt rd fr h Q := Eq.trans rfl rfl
def s36_4 : GC := .cond (.tmp 60) s36_3 .skip
theorem s36_4_w {E : Env} {nt : Nat} {rd : Option Nat} {fr : Fr} {h : Heap} {Q : Ex → Fr → Heap → Prop} : s36_4.wp E nt rd fr h Q = (GC.cond (.tmp 60) s36_3 .skip).wp E nt rd fr h Q := Eq.trans rfl rfl
def r36_5 : List GO := [⟨none, some 59, .move (.tmp 8)⟩,
  ⟨none, some 60, .binOp .lss 3 (.tmp 59) (.const (.int .i64 0)) 3⟩]
theorem r36_5_w {E : Env} {fr : Fr} {h : Heap} {Q : Fr → Heap → Prop} : opsW E r36_5 fr h Q = opsW E [⟨none, some 59, .move (.tmp 8)⟩,
  ⟨none, some 60, .binOp .lss 3 (.tmp 59) (.const (.int .i64 0)) 3⟩] fr h Q := Eq.trans rfl rfl
def s36_6 : GC := .seq (.ops r36_5) s36_4
theorem s36_6_w {E : Env} {nt : Nat} {rd : Option Nat} {fr : Fr} {h : Heap} {Q : Ex → Fr → Heap → Prop} : s36_6.wp E nt rd fr h Q = (GC.seq (.ops r36_5) s36_4).wp E nt rd fr h Q := Eq.trans rfl rfl
def s36_7 : GC := .seq (s36_6) s36_1
theorem s36_7_w {E : Env} {nt : Nat} {rd : Option Nat} {fr : Fr} {h : Heap} {Q : Ex → Fr → Heap → Prop} : s36_7.wp E nt rd fr h Q = (GC.seq (s36_6) s36_1).wp E nt rd fr h Q := Eq.trans rfl rfl
def r36_8 : List GO := [⟨none, some 54, .move (.tmp 6)⟩,
  ⟨none, some 55, .binOp .add 9 (.tmp 54) (.const (.string ⟨⟨[42, 50, 94]⟩⟩)) 9⟩,
  ⟨none, some 56, .move (.tmp 8)⟩,
  ⟨none, some 57, .call ⟨.value (.func 52), ⟨[.tmp 56]⟩, ⟨[3]⟩⟩⟩,
  ⟨none, some 58, .binOp .add 9 (.tmp 55) (.tmp 57) 9⟩,
  ⟨none, some 2, .assign (.tmp 58)⟩]
theorem r36_8_w {E : Env} {fr : Fr} {h : Heap} {Q : Fr → Heap → Prop} : opsW E r36_8 fr h Q = opsW E [⟨none, some 54, .move (.tmp 6)⟩,
  ⟨none, some 55, .binOp .add 9 (.tmp 54) (.const (.string ⟨⟨[42, 50, 94]⟩⟩)) 9⟩,
  ⟨none, some 56, .move (.tmp 8)⟩,
  ⟨none, some 57, .call ⟨.value (.func 52), ⟨[.tmp 56]⟩, ⟨[3]⟩⟩⟩,
  ⟨none, some 58, .binOp .add 9 (.tmp 55) (.tmp 57) 9⟩,
  ⟨none, some 2, .assign (.tmp 58)⟩] fr h Q := Eq.trans rfl rfl
def s36_9 : GC := .seq (.ops r36_8) .ret
theorem s36_9_w {E : Env} {nt : Nat} {rd : Option Nat} {fr : Fr} {h : Heap} {Q : Ex → Fr → Heap → Prop} : s36_9.wp E nt rd fr h Q = (GC.seq (.ops r36_8) .ret).wp E nt rd fr h Q := Eq.trans rfl rfl
def s36_10 : GC := .cond (.tmp 53) s36_9 .skip
theorem s36_10_w {E : Env} {nt : Nat} {rd : Option Nat} {fr : Fr} {h : Heap} {Q : Ex → Fr → Heap → Prop} : s36_10.wp E nt rd fr h Q = (GC.cond (.tmp 53) s36_9 .skip).wp E nt rd fr h Q := Eq.trans rfl rfl
def r36_11 : List GO := [⟨none, some 52, .move (.tmp 8)⟩,
  ⟨none, some 53, .binOp .gtr 3 (.tmp 52) (.const (.int .i64 0)) 3⟩]
theorem r36_11_w {E : Env} {fr : Fr} {h : Heap} {Q : Fr → Heap → Prop} : opsW E r36_11 fr h Q = opsW E [⟨none, some 52, .move (.tmp 8)⟩,
  ⟨none, some 53, .binOp .gtr 3 (.tmp 52) (.const (.int .i64 0)) 3⟩] fr h Q := Eq.trans rfl rfl
def s36_12 : GC := .seq (.ops r36_11) s36_10
theorem s36_12_w {E : Env} {nt : Nat} {rd : Option Nat} {fr : Fr} {h : Heap} {Q : Ex → Fr → Heap → Prop} : s36_12.wp E nt rd fr h Q = (GC.seq (.ops r36_11) s36_10).wp E nt rd fr h Q := Eq.trans rfl rfl
def s36_13 : GC := .seq (s36_12) s36_7
theorem s36_13_w {E : Env} {nt : Nat} {rd : Option Nat} {fr : Fr} {h : Heap} {Q : Ex → Fr → Heap → Prop} : s36_13.wp E nt rd fr h Q = (GC.seq (s36_12) s36_7).wp E nt rd fr h Q := Eq.trans rfl rfl
def r36_14 : List GO := [⟨none, some 48, .move (.tmp 6)⟩,
  ⟨none, some 49, .move (.tmp 7)⟩,
  ⟨none, some 50, .call ⟨.value (.func 53), ⟨[.tmp 49]⟩, ⟨[23]⟩⟩⟩,
  ⟨none, some 51, .binOp .add 9 (.tmp 48) (.tmp 50) 9⟩,
  ⟨none, some 6, .assign (.tmp 51)⟩]
theorem r36_14_w {E : Env} {fr : Fr} {h : Heap} {Q : Fr → Heap → Prop} : opsW E r36_14 fr h Q = opsW E [⟨none, some 48, .move (.tmp 6)⟩,
  ⟨none, some 49, .move (.tmp 7)⟩,
  ⟨none, some 50, .call ⟨.value (.func 53), ⟨[.tmp 49]⟩, ⟨[23]⟩⟩⟩,
  ⟨none, some 51, .binOp .add 9 (.tmp 48) (.tmp 50) 9⟩,
  ⟨none, some 6, .assign (.tmp 51)⟩] fr h Q := Eq.trans rfl rfl
def s36_15 : GC := .seq (.ops r36_14) s36_13
theorem s36_15_w {E : Env} {nt : Nat} {rd : Option Nat} {fr : Fr} {h : Heap} {Q : Ex → Fr → Heap → Prop} : s36_15.wp E nt rd fr h Q = (GC.seq (.ops r36_14) s36_13).wp E nt rd fr h Q := Eq.trans rfl rfl
def r36_16 : List GO := [⟨none, some 46, .move (.tmp 8)⟩,
  ⟨none, some 47, .binOp .add 3 (.tmp 46) (.const (.int .i64 1)) 3⟩,
  ⟨none, some 8, .assign (.tmp 47)⟩]
theorem r36_16_w {E : Env} {fr : Fr} {h : Heap} {Q : Fr → Heap → Prop} : opsW E r36_16 fr h Q = opsW E [⟨none, some 46, .move (.tmp 8)⟩,
  ⟨none, some 47, .binOp .add 3 (.tmp 46) (.const (.int .i64 1)) 3⟩,
  ⟨none, some 8, .assign (.tmp 47)⟩] fr h Q := Eq.trans rfl rfl
def s36_17 : GC := .ops r36_16
theorem s36_17_w {E : Env} {nt : Nat} {rd : Option Nat} {fr : Fr} {h : Heap} {Q : Ex → Fr → Heap → Prop} : s36_17.wp E nt rd fr h Q = (GC.ops r36_16).wp E nt rd fr h Q := Eq.trans rfl rfl
def r36_18 : List GO := [⟨none, some 44, .move (.tmp 7)⟩,
  ⟨none, some 45, .binOp .quo 23 (.tmp 44) (.const (.int .u64 2)) 23⟩,
  ⟨none, some 7, .assign (.tmp 45)⟩]
theorem r36_18_w {E : Env} {fr : Fr} {h : Heap} {Q : Fr → Heap → Prop} : opsW E r36_18 fr h Q = opsW E [⟨none, some 44, .move (.tmp 7)⟩,
  ⟨none, some 45, .binOp .quo 23 (.tmp 44) (.const (.int .u64 2)) 23⟩,
  ⟨none, some 7, .assign (.tmp 45)⟩] fr h Q := Eq.trans rfl rfl
def s36_19 : GC := .seq (.ops r36_18) s36_17
theorem s36_19_w {E : Env} {nt : Nat} {rd : Option Nat} {fr : Fr} {h : Heap} {Q : Ex → Fr → Heap → Prop} : s36_19.wp E nt rd fr h Q = (GC.seq (.ops r36_18) s36_17).wp E nt rd fr h Q := Eq.trans rfl rfl
def s36_20 : GC := .block 1 s36_19
theorem s36_20_w {E : Env} {nt : Nat} {rd : Option Nat} {fr : Fr} {h : Heap} {Q : Ex → Fr → Heap → Prop} : s36_20.wp E nt rd fr h Q = (GC.block 1 s36_19).wp E nt rd fr h Q := Eq.trans rfl rfl
def s36_21 : GC := .cond (.tmp 43) .skip (.exit 0)
theorem s36_21_w {E : Env} {nt : Nat} {rd : Option Nat} {fr : Fr} {h : Heap} {Q : Ex → Fr → Heap → Prop} : s36_21.wp E nt rd fr h Q = (GC.cond (.tmp 43) .skip (.exit 0)).wp E nt rd fr h Q := Eq.trans rfl rfl
def r36_22 : List GO := [⟨none, some 41, .move (.tmp 7)⟩,
  ⟨none, some 42, .binOp .rem 23 (.tmp 41) (.const (.int .u64 2)) 23⟩,
  ⟨none, some 43, .binOp .eql 23 (.tmp 42) (.const (.int .u64 0)) 23⟩]
theorem r36_22_w {E : Env} {fr : Fr} {h : Heap} {Q : Fr → Heap → Prop} : opsW E r36_22 fr h Q = opsW E [⟨none, some 41, .move (.tmp 7)⟩,
  ⟨none, some 42, .binOp .rem 23 (.tmp 41) (.const (.int .u64 2)) 23⟩,
  ⟨none, some 43, .binOp .eql 23 (.tmp 42) (.const (.int .u64 0)) 23⟩] fr h Q := Eq.trans rfl rfl
def s36_23 : GC := .seq (.ops r36_22) s36_21
theorem s36_23_w {E : Env} {nt : Nat} {rd : Option Nat} {fr : Fr} {h : Heap} {Q : Ex → Fr → Heap → Prop} : s36_23.wp E nt rd fr h Q = (GC.seq (.ops r36_22) s36_21).wp E nt rd fr h Q := Eq.trans rfl rfl
def s36_24 : GC := .seq (s36_23) s36_20
theorem s36_24_w {E : Env} {nt : Nat} {rd : Option Nat} {fr : Fr} {h : Heap} {Q : Ex → Fr → Heap → Prop} : s36_24.wp E nt rd fr h Q = (GC.seq (s36_23) s36_20).wp E nt rd fr h Q := Eq.trans rfl rfl
def s36_25 : GC := .loop s36_24
theorem s36_25_w {E : Env} {nt : Nat} {rd : Option Nat} {fr : Fr} {h : Heap} {Q : Ex → Fr → Heap → Prop} : s36_25.wp E nt rd fr h Q = (GC.loop s36_24).wp E nt rd fr h Q := Eq.trans rfl rfl
def s36_26 : GC := .seq (.block 0 s36_25) s36_15
theorem s36_26_w {E : Env} {nt : Nat} {rd : Option Nat} {fr : Fr} {h : Heap} {Q : Ex → Fr → Heap → Prop} : s36_26.wp E nt rd fr h Q = (GC.seq (.block 0 s36_25) s36_15).wp E nt rd fr h Q := Eq.trans rfl rfl
def r36_27 : List GO := [⟨none, some 39, .move (.tmp 4)⟩,
  ⟨none, some 40, .binOp .sub 3 (.tmp 39) (.const (.int .i64 1075)) 3⟩,
  ⟨none, some 8, .assign (.tmp 40)⟩]
theorem r36_27_w {E : Env} {fr : Fr} {h : Heap} {Q : Fr → Heap → Prop} : opsW E r36_27 fr h Q = opsW E [⟨none, some 39, .move (.tmp 4)⟩,
  ⟨none, some 40, .binOp .sub 3 (.tmp 39) (.const (.int .i64 1075)) 3⟩,
  ⟨none, some 8, .assign (.tmp 40)⟩] fr h Q := Eq.trans rfl rfl
def s36_28 : GC := .ops r36_27
theorem s36_28_w {E : Env} {nt : Nat} {rd : Option Nat} {fr : Fr} {h : Heap} {Q : Ex → Fr → Heap → Prop} : s36_28.wp E nt rd fr h Q = (GC.ops r36_27).wp E nt rd fr h Q := Eq.trans rfl rfl
def r36_29 : List GO := [⟨none, some 37, .move (.tmp 5)⟩,
  ⟨none, some 38, .binOp .add 23 (.tmp 37) (.const (.int .u64 4503599627370496)) 23⟩,
  ⟨none, some 7, .assign (.tmp 38)⟩]
theorem r36_29_w {E : Env} {fr : Fr} {h : Heap} {Q : Fr → Heap → Prop} : opsW E r36_29 fr h Q = opsW E [⟨none, some 37, .move (.tmp 5)⟩,
  ⟨none, some 38, .binOp .add 23 (.tmp 37) (.const (.int .u64 4503599627370496)) 23⟩,
  ⟨none, some 7, .assign (.tmp 38)⟩] fr h Q := Eq.trans rfl rfl
def s36_30 : GC := .seq (.ops r36_29) s36_28
theorem s36_30_w {E : Env} {nt : Nat} {rd : Option Nat} {fr : Fr} {h : Heap} {Q : Ex → Fr → Heap → Prop} : s36_30.wp E nt rd fr h Q = (GC.seq (.ops r36_29) s36_28).wp E nt rd fr h Q := Eq.trans rfl rfl
def s36_31 : GC := .cond (.tmp 36) s36_30 .skip
theorem s36_31_w {E : Env} {nt : Nat} {rd : Option Nat} {fr : Fr} {h : Heap} {Q : Ex → Fr → Heap → Prop} : s36_31.wp E nt rd fr h Q = (GC.cond (.tmp 36) s36_30 .skip).wp E nt rd fr h Q := Eq.trans rfl rfl
def r36_32 : List GO := [⟨none, some 35, .move (.tmp 4)⟩,
  ⟨none, some 36, .binOp .gtr 3 (.tmp 35) (.const (.int .i64 0)) 3⟩]
theorem r36_32_w {E : Env} {fr : Fr} {h : Heap} {Q : Fr → Heap → Prop} : opsW E r36_32 fr h Q = opsW E [⟨none, some 35, .move (.tmp 4)⟩,
  ⟨none, some 36, .binOp .gtr 3 (.tmp 35) (.const (.int .i64 0)) 3⟩] fr h Q := Eq.trans rfl rfl
def s36_33 : GC := .seq (.ops r36_32) s36_31
theorem s36_33_w {E : Env} {nt : Nat} {rd : Option Nat} {fr : Fr} {h : Heap} {Q : Ex → Fr → Heap → Prop} : s36_33.wp E nt rd fr h Q = (GC.seq (.ops r36_32) s36_31).wp E nt rd fr h Q := Eq.trans rfl rfl
def s36_34 : GC := .seq (s36_33) s36_26
theorem s36_34_w {E : Env} {nt : Nat} {rd : Option Nat} {fr : Fr} {h : Heap} {Q : Ex → Fr → Heap → Prop} : s36_34.wp E nt rd fr h Q = (GC.seq (s36_33) s36_26).wp E nt rd fr h Q := Eq.trans rfl rfl
def r36_35 : List GO := [⟨none, some 34, .move (.tmp 5)⟩,
  ⟨none, some 7, .assign (.tmp 34)⟩,
  ⟨none, some 8, .assign (.const (.int .i64 (-1074)))⟩]
theorem r36_35_w {E : Env} {fr : Fr} {h : Heap} {Q : Fr → Heap → Prop} : opsW E r36_35 fr h Q = opsW E [⟨none, some 34, .move (.tmp 5)⟩,
  ⟨none, some 7, .assign (.tmp 34)⟩,
  ⟨none, some 8, .assign (.const (.int .i64 (-1074)))⟩] fr h Q := Eq.trans rfl rfl
def s36_36 : GC := .seq (.ops r36_35) s36_34
theorem s36_36_w {E : Env} {nt : Nat} {rd : Option Nat} {fr : Fr} {h : Heap} {Q : Ex → Fr → Heap → Prop} : s36_36.wp E nt rd fr h Q = (GC.seq (.ops r36_35) s36_34).wp E nt rd fr h Q := Eq.trans rfl rfl
def r36_37 : List GO := [⟨none, some 32, .move (.tmp 6)⟩,
  ⟨none, some 33, .binOp .add 9 (.tmp 32) (.const (.string ⟨⟨[48]⟩⟩)) 9⟩,
  ⟨none, some 2, .assign (.tmp 33)⟩]
theorem r36_37_w {E : Env} {fr : Fr} {h : Heap} {Q : Fr → Heap → Prop} : opsW E r36_37 fr h Q = opsW E [⟨none, some 32, .move (.tmp 6)⟩,
  ⟨none, some 33, .binOp .add 9 (.tmp 32) (.const (.string ⟨⟨[48]⟩⟩)) 9⟩,
  ⟨none, some 2, .assign (.tmp 33)⟩] fr h Q := Eq.trans rfl rfl
def s36_38 : GC := .seq (.ops r36_37) .ret
theorem s36_38_w {E : Env} {nt : Nat} {rd : Option Nat} {fr : Fr} {h : Heap} {Q : Ex → Fr → Heap → Prop} : s36_38.wp E nt rd fr h Q = (GC.seq (.ops r36_37) .ret).wp E nt rd fr h Q := Eq.trans rfl rfl
def s36_39 : GC := .cond (.tmp 31) s36_38 .skip
theorem s36_39_w {E : Env} {nt : Nat} {rd : Option Nat} {fr : Fr} {h : Heap} {Q : Ex → Fr → Heap → Prop} : s36_39.wp E nt rd fr h Q = (GC.cond (.tmp 31) s36_38 .skip).wp E nt rd fr h Q := Eq.trans rfl rfl
def r36_40 : List GO := [⟨none, some 26, .move (.tmp 4)⟩,
  ⟨none, some 27, .binOp .eql 3 (.tmp 26) (.const (.int .i64 0)) 3⟩,
  ⟨none, some 28, .move (.tmp 27)⟩,
  ⟨some (28, true), some 29, .move (.tmp 5)⟩,
  ⟨some (28, true), some 30, .binOp .eql 23 (.tmp 29) (.const (.int .u64 0)) 23⟩,
  ⟨none, some 31, .pick (.tmp 28) (.tmp 30) (.const (.bool false))⟩]
theorem r36_40_w {E : Env} {fr : Fr} {h : Heap} {Q : Fr → Heap → Prop} : opsW E r36_40 fr h Q = opsW E [⟨none, some 26, .move (.tmp 4)⟩,
  ⟨none, some 27, .binOp .eql 3 (.tmp 26) (.const (.int .i64 0)) 3⟩,
  ⟨none, some 28, .move (.tmp 27)⟩,
  ⟨some (28, true), some 29, .move (.tmp 5)⟩,
  ⟨some (28, true), some 30, .binOp .eql 23 (.tmp 29) (.const (.int .u64 0)) 23⟩,
  ⟨none, some 31, .pick (.tmp 28) (.tmp 30) (.const (.bool false))⟩] fr h Q := Eq.trans rfl rfl
def s36_41 : GC := .seq (.ops r36_40) s36_39
theorem s36_41_w {E : Env} {nt : Nat} {rd : Option Nat} {fr : Fr} {h : Heap} {Q : Ex → Fr → Heap → Prop} : s36_41.wp E nt rd fr h Q = (GC.seq (.ops r36_40) s36_39).wp E nt rd fr h Q := Eq.trans rfl rfl
def s36_42 : GC := .seq (s36_41) s36_36
theorem s36_42_w {E : Env} {nt : Nat} {rd : Option Nat} {fr : Fr} {h : Heap} {Q : Ex → Fr → Heap → Prop} : s36_42.wp E nt rd fr h Q = (GC.seq (s36_41) s36_36).wp E nt rd fr h Q := Eq.trans rfl rfl
def r36_43 : List GO := [⟨none, some 24, .move (.tmp 6)⟩,
  ⟨none, some 25, .binOp .add 9 (.tmp 24) (.const (.string ⟨⟨[105, 110, 102]⟩⟩)) 9⟩,
  ⟨none, some 2, .assign (.tmp 25)⟩]
theorem r36_43_w {E : Env} {fr : Fr} {h : Heap} {Q : Fr → Heap → Prop} : opsW E r36_43 fr h Q = opsW E [⟨none, some 24, .move (.tmp 6)⟩,
  ⟨none, some 25, .binOp .add 9 (.tmp 24) (.const (.string ⟨⟨[105, 110, 102]⟩⟩)) 9⟩,
  ⟨none, some 2, .assign (.tmp 25)⟩] fr h Q := Eq.trans rfl rfl
def s36_44 : GC := .seq (.ops r36_43) .ret
theorem s36_44_w {E : Env} {nt : Nat} {rd : Option Nat} {fr : Fr} {h : Heap} {Q : Ex → Fr → Heap → Prop} : s36_44.wp E nt rd fr h Q = (GC.seq (.ops r36_43) .ret).wp E nt rd fr h Q := Eq.trans rfl rfl
def s36_45 : GC := .cond (.tmp 23) s36_44 .skip
theorem s36_45_w {E : Env} {nt : Nat} {rd : Option Nat} {fr : Fr} {h : Heap} {Q : Ex → Fr → Heap → Prop} : s36_45.wp E nt rd fr h Q = (GC.cond (.tmp 23) s36_44 .skip).wp E nt rd fr h Q := Eq.trans rfl rfl
def r36_46 : List GO := [⟨none, some 22, .move (.tmp 4)⟩,
  ⟨none, some 23, .binOp .eql 3 (.tmp 22) (.const (.int .i64 2047)) 3⟩]
theorem r36_46_w {E : Env} {fr : Fr} {h : Heap} {Q : Fr → Heap → Prop} : opsW E r36_46 fr h Q = opsW E [⟨none, some 22, .move (.tmp 4)⟩,
  ⟨none, some 23, .binOp .eql 3 (.tmp 22) (.const (.int .i64 2047)) 3⟩] fr h Q := Eq.trans rfl rfl
def s36_47 : GC := .seq (.ops r36_46) s36_45
theorem s36_47_w {E : Env} {nt : Nat} {rd : Option Nat} {fr : Fr} {h : Heap} {Q : Ex → Fr → Heap → Prop} : s36_47.wp E nt rd fr h Q = (GC.seq (.ops r36_46) s36_45).wp E nt rd fr h Q := Eq.trans rfl rfl
def s36_48 : GC := .seq (s36_47) s36_42
theorem s36_48_w {E : Env} {nt : Nat} {rd : Option Nat} {fr : Fr} {h : Heap} {Q : Ex → Fr → Heap → Prop} : s36_48.wp E nt rd fr h Q = (GC.seq (s36_47) s36_42).wp E nt rd fr h Q := Eq.trans rfl rfl
def r36_49 : List GO := [⟨none, some 2, .assign (.const (.string ⟨⟨[110, 97, 110]⟩⟩))⟩]
theorem r36_49_w {E : Env} {fr : Fr} {h : Heap} {Q : Fr → Heap → Prop} : opsW E r36_49 fr h Q = opsW E [⟨none, some 2, .assign (.const (.string ⟨⟨[110, 97, 110]⟩⟩))⟩] fr h Q := Eq.trans rfl rfl
def s36_50 : GC := .seq (.ops r36_49) .ret
theorem s36_50_w {E : Env} {nt : Nat} {rd : Option Nat} {fr : Fr} {h : Heap} {Q : Ex → Fr → Heap → Prop} : s36_50.wp E nt rd fr h Q = (GC.seq (.ops r36_49) .ret).wp E nt rd fr h Q := Eq.trans rfl rfl
def s36_51 : GC := .cond (.tmp 21) s36_50 .skip
theorem s36_51_w {E : Env} {nt : Nat} {rd : Option Nat} {fr : Fr} {h : Heap} {Q : Ex → Fr → Heap → Prop} : s36_51.wp E nt rd fr h Q = (GC.cond (.tmp 21) s36_50 .skip).wp E nt rd fr h Q := Eq.trans rfl rfl
def r36_52 : List GO := [⟨none, some 16, .move (.tmp 4)⟩,
  ⟨none, some 17, .binOp .eql 3 (.tmp 16) (.const (.int .i64 2047)) 3⟩,
  ⟨none, some 18, .move (.tmp 17)⟩,
  ⟨some (18, true), some 19, .move (.tmp 5)⟩,
  ⟨some (18, true), some 20, .binOp .gtr 23 (.tmp 19) (.const (.int .u64 0)) 23⟩,
  ⟨none, some 21, .pick (.tmp 18) (.tmp 20) (.const (.bool false))⟩]
theorem r36_52_w {E : Env} {fr : Fr} {h : Heap} {Q : Fr → Heap → Prop} : opsW E r36_52 fr h Q = opsW E [⟨none, some 16, .move (.tmp 4)⟩,
  ⟨none, some 17, .binOp .eql 3 (.tmp 16) (.const (.int .i64 2047)) 3⟩,
  ⟨none, some 18, .move (.tmp 17)⟩,
  ⟨some (18, true), some 19, .move (.tmp 5)⟩,
  ⟨some (18, true), some 20, .binOp .gtr 23 (.tmp 19) (.const (.int .u64 0)) 23⟩,
  ⟨none, some 21, .pick (.tmp 18) (.tmp 20) (.const (.bool false))⟩] fr h Q := Eq.trans rfl rfl
def s36_53 : GC := .seq (.ops r36_52) s36_51
theorem s36_53_w {E : Env} {nt : Nat} {rd : Option Nat} {fr : Fr} {h : Heap} {Q : Ex → Fr → Heap → Prop} : s36_53.wp E nt rd fr h Q = (GC.seq (.ops r36_52) s36_51).wp E nt rd fr h Q := Eq.trans rfl rfl
def s36_54 : GC := .seq (s36_53) s36_48
theorem s36_54_w {E : Env} {nt : Nat} {rd : Option Nat} {fr : Fr} {h : Heap} {Q : Ex → Fr → Heap → Prop} : s36_54.wp E nt rd fr h Q = (GC.seq (s36_53) s36_48).wp E nt rd fr h Q := Eq.trans rfl rfl
def r36_55 : List GO := [⟨none, some 6, .assign (.const (.string ⟨⟨[45]⟩⟩))⟩]
theorem r36_55_w {E : Env} {fr : Fr} {h : Heap} {Q : Fr → Heap → Prop} : opsW E r36_55 fr h Q = opsW E [⟨none, some 6, .assign (.const (.string ⟨⟨[45]⟩⟩))⟩] fr h Q := Eq.trans rfl rfl
def s36_56 : GC := .ops r36_55
theorem s36_56_w {E : Env} {nt : Nat} {rd : Option Nat} {fr : Fr} {h : Heap} {Q : Ex → Fr → Heap → Prop} : s36_56.wp E nt rd fr h Q = (GC.ops r36_55).wp E nt rd fr h Q := Eq.trans rfl rfl
def s36_57 : GC := .cond (.tmp 15) s36_56 .skip
theorem s36_57_w {E : Env} {nt : Nat} {rd : Option Nat} {fr : Fr} {h : Heap} {Q : Ex → Fr → Heap → Prop} : s36_57.wp E nt rd fr h Q = (GC.cond (.tmp 15) s36_56 .skip).wp E nt rd fr h Q := Eq.trans rfl rfl
def r36_58 : List GO := [⟨none, some 15, .move (.tmp 3)⟩]
theorem r36_58_w {E : Env} {fr : Fr} {h : Heap} {Q : Fr → Heap → Prop} : opsW E r36_58 fr h Q = opsW E [⟨none, some 15, .move (.tmp 3)⟩] fr h Q := Eq.trans rfl rfl
def s36_59 : GC := .seq (.ops r36_58) s36_57
theorem s36_59_w {E : Env} {nt : Nat} {rd : Option Nat} {fr : Fr} {h : Heap} {Q : Ex → Fr → Heap → Prop} : s36_59.wp E nt rd fr h Q = (GC.seq (.ops r36_58) s36_57).wp E nt rd fr h Q := Eq.trans rfl rfl
def s36_60 : GC := .seq (s36_59) s36_54
theorem s36_60_w {E : Env} {nt : Nat} {rd : Option Nat} {fr : Fr} {h : Heap} {Q : Ex → Fr → Heap → Prop} : s36_60.wp E nt rd fr h Q = (GC.seq (s36_59) s36_54).wp E nt rd fr h Q := Eq.trans rfl rfl
def r36_61 : List GO := [⟨none, some 6, .assign (.const (.string ⟨⟨[]⟩⟩))⟩]
theorem r36_61_w {E : Env} {fr : Fr} {h : Heap} {Q : Fr → Heap → Prop} : opsW E r36_61 fr h Q = opsW E [⟨none, some 6, .assign (.const (.string ⟨⟨[]⟩⟩))⟩] fr h Q := Eq.trans rfl rfl
def s36_62 : GC := .seq (.ops r36_61) s36_60
theorem s36_62_w {E : Env} {nt : Nat} {rd : Option Nat} {fr : Fr} {h : Heap} {Q : Ex → Fr → Heap → Prop} : s36_62.wp E nt rd fr h Q = (GC.seq (.ops r36_61) s36_60).wp E nt rd fr h Q := Eq.trans rfl rfl
def r36_63 : List GO := [⟨none, some 10, .move (.tmp 0)⟩,
  ⟨none, some 11, .call ⟨.value (.func 40), ⟨[.tmp 10]⟩, ⟨[27]⟩⟩⟩,
  ⟨none, some 9, .move (.tmp 11)⟩,
  ⟨none, some 12, .extract (.tmp 9) 0⟩,
  ⟨none, some 13, .extract (.tmp 9) 1⟩,
  ⟨none, some 14, .extract (.tmp 9) 2⟩,
  ⟨none, some 3, .assign (.tmp 12)⟩,
  ⟨none, some 4, .assign (.tmp 13)⟩,
  ⟨none, some 5, .assign (.tmp 14)⟩]
theorem r36_63_w {E : Env} {fr : Fr} {h : Heap} {Q : Fr → Heap → Prop} : opsW E r36_63 fr h Q = opsW E [⟨none, some 10, .move (.tmp 0)⟩,
  ⟨none, some 11, .call ⟨.value (.func 40), ⟨[.tmp 10]⟩, ⟨[27]⟩⟩⟩,
  ⟨none, some 9, .move (.tmp 11)⟩,
  ⟨none, some 12, .extract (.tmp 9) 0⟩,
  ⟨none, some 13, .extract (.tmp 9) 1⟩,
  ⟨none, some 14, .extract (.tmp 9) 2⟩,
  ⟨none, some 3, .assign (.tmp 12)⟩,
  ⟨none, some 4, .assign (.tmp 13)⟩,
  ⟨none, some 5, .assign (.tmp 14)⟩] fr h Q := Eq.trans rfl rfl
def s36_64 : GC := .seq (.ops r36_63) s36_62
theorem s36_64_w {E : Env} {nt : Nat} {rd : Option Nat} {fr : Fr} {h : Heap} {Q : Ex → Fr → Heap → Prop} : s36_64.wp E nt rd fr h Q = (GC.seq (.ops r36_63) s36_62).wp E nt rd fr h Q := Eq.trans rfl rfl
def r36_65 : List GO := [⟨none, some 2, .assign (.const (.string ⟨⟨[]⟩⟩))⟩]
theorem r36_65_w {E : Env} {fr : Fr} {h : Heap} {Q : Fr → Heap → Prop} : opsW E r36_65 fr h Q = opsW E [⟨none, some 2, .assign (.const (.string ⟨⟨[]⟩⟩))⟩] fr h Q := Eq.trans rfl rfl
def s36_66 : GC := .seq (.ops r36_65) s36_64
theorem s36_66_w {E : Env} {nt : Nat} {rd : Option Nat} {fr : Fr} {h : Heap} {Q : Ex → Fr → Heap → Prop} : s36_66.wp E nt rd fr h Q = (GC.seq (.ops r36_65) s36_64).wp E nt rd fr h Q := Eq.trans rfl rfl
theorem c36 : Tryd.f36.body.bind (clean env 68) = some s36_66 := by kernel_rfl
theorem e36 : env.funs.get 36 = some Tryd.f36 := by kernel_rfl
theorem F36 {args : List Value} {h : Heap} {K : Value → Heap → Prop} (hx : env.ext 36 args h = none) (hl : args.length = 1) (w : s36_66.wp env 68 none (setAll args 0 .leaf) h (resK env [.tmp 2] K)) : Ret env (.func 36) args h K :=
  Ret.of_body' hx e36 c36 rfl rfl (by rw [hl]; decide) w
/-! math.Inf -/
def r38_0 : List GO := [⟨none, some 6, .move (.tmp 3)⟩,
  ⟨none, some 7, .call ⟨.value (.func 10), ⟨[.tmp 6]⟩, ⟨[23]⟩⟩⟩,
  ⟨none, some 2, .assign (.tmp 7)⟩]
theorem r38_0_w {E : Env} {fr : Fr} {h : Heap} {Q : Fr → Heap → Prop} : opsW E r38_0 fr h Q = opsW E [⟨none, some 6, .move (.tmp 3)⟩,
  ⟨none, some 7, .call ⟨.value (.func 10), ⟨[.tmp 6]⟩, ⟨[23]⟩⟩⟩,
  ⟨none, some 2, .assign (.tmp 7)⟩] fr h Q := Eq.trans rfl rfl
def s38_1 : GC := .seq (.ops r38_0) .ret
theorem s38_1_w {E : Env} {nt : Nat} {rd : Option Nat} {fr : Fr} {h : Heap} {Q : Ex → Fr → Heap → Prop} : s38_1.wp E nt rd fr h Q = (GC.seq (.ops r38_0) .ret).wp E nt rd fr h Q := Eq.trans rfl rfl
def r38_2 : List GO := [⟨none, some 3, .assign (.const (.int .u64 9218868437227405312))⟩]
theorem r38_2_w {E : Env} {fr : Fr} {h : Heap} {Q : Fr → Heap → Prop} : opsW E r38_2 fr h Q = opsW E [⟨none, some 3, .assign (.const (.int .u64 9218868437227405312))⟩] fr h Q := Eq.trans rfl rfl
def s38_3 : GC := .ops r38_2
theorem s38_3_w {E : Env} {nt : Nat} {rd : Option Nat} {fr : Fr} {h : Heap} {Q : Ex → Fr → Heap → Prop} : s38_3.wp E nt rd fr h Q = (GC.ops r38_2).wp E nt rd fr h Q := Eq.trans rfl rfl
def r38_4 : List GO := [⟨none, some 3, .assign (.const (.int .u64 18442240474082181120))⟩]
theorem r38_4_w {E : Env} {fr : Fr} {h : Heap} {Q : Fr → Heap → Prop} : opsW E r38_4 fr h Q = opsW E [⟨none, some 3, .assign (.const (.int .u64 18442240474082181120))⟩] fr h Q := Eq.trans rfl rfl
def s38_5 : GC := .ops r38_4
theorem s38_5_w {E : Env} {nt : Nat} {rd : Option Nat} {fr : Fr} {h : Heap} {Q : Ex → Fr → Heap → Prop} : s38_5.wp E nt rd fr h Q = (GC.ops r38_4).wp E nt rd fr h Q := Eq.trans rfl rfl
def s38_6 : GC := .cond (.tmp 5) s38_3 s38_5
theorem s38_6_w {E : Env} {nt : Nat} {rd : Option Nat} {fr : Fr} {h : Heap} {Q : Ex → Fr → Heap → Prop} : s38_6.wp E nt rd fr h Q = (GC.cond (.tmp 5) s38_3 s38_5).wp E nt rd fr h Q := Eq.trans rfl rfl
def r38_7 : List GO := [⟨none, some 4, .move (.tmp 0)⟩,
  ⟨none, some 5, .binOp .geq 3 (.tmp 4) (.const (.int .i64 0)) 3⟩]
theorem r38_7_w {E : Env} {fr : Fr} {h : Heap} {Q : Fr → Heap → Prop} : opsW E r38_7 fr h Q = opsW E [⟨none, some 4, .move (.tmp 0)⟩,
  ⟨none, some 5, .binOp .geq 3 (.tmp 4) (.const (.int .i64 0)) 3⟩] fr h Q := Eq.trans rfl rfl
def s38_8 : GC := .seq (.ops r38_7) s38_6
theorem s38_8_w {E : Env} {nt : Nat} {rd : Option Nat} {fr : Fr} {h : Heap} {Q : Ex → Fr → Heap → Prop} : s38_8.wp E nt rd fr h Q = (GC.seq (.ops r38_7) s38_6).wp E nt rd fr h Q := Eq.trans rfl rfl
def s38_9 : GC := .seq (s38_8) s38_1
theorem s38_9_w {E : Env} {nt : Nat} {rd : Option Nat} {fr : Fr} {h : Heap} {Q : Ex → Fr → Heap → Prop} : s38_9.wp E nt rd fr h Q = (GC.seq (s38_8) s38_1).wp E nt rd fr h Q := Eq.trans rfl rfl
def r38_10 : List GO := [⟨none, some 3, .assign (.const (.int .u64 0))⟩]
theorem r38_10_w {E : Env} {fr : Fr} {h : Heap} {Q : Fr → Heap → Prop} : opsW E r38_10 fr h Q = opsW E [⟨none, some 3, .assign (.const (.int .u64 0))⟩] fr h Q := Eq.trans rfl rfl
def s38_11 : GC := .seq (.ops r38_10) s38_9
theorem s38_11_w {E : Env} {nt : Nat} {rd : Option Nat} {fr : Fr} {h : Heap} {Q : Ex → Fr → Heap → Prop} : s38_11.wp E nt rd fr h Q = (GC.seq (.ops r38_10) s38_9).wp E nt rd fr h Q := Eq.trans rfl rfl
def r38_12 : List GO := [⟨none, some 2, .assign (.const (.float .f64 0))⟩]
theorem r38_12_w {E : Env} {fr : Fr} {h : Heap} {Q : Fr → Heap → Prop} : opsW E r38_12 fr h Q = opsW E [⟨none, some 2, .assign (.const (.float .f64 0))⟩] fr h Q := Eq.trans rfl rfl
def s38_13 : GC := .seq (.ops r38_12) s38_11
theorem s38_13_w {E : Env} {nt : Nat} {rd : Option Nat} {fr : Fr} {h : Heap} {Q : Ex → Fr → Heap → Prop} : s38_13.wp E nt rd fr h Q = (GC.seq (.ops r38_12) s38_11).wp E nt rd fr h Q := Eq.trans rfl rfl
theorem c38 : Tryd.f38.body.bind (clean env 8) = some s38_13 := by kernel_rfl
theorem e38 : env.funs.get 38 = some Tryd.f38 := by kernel_rfl
theorem F38 {args : List Value} {h : Heap} {K : Value → Heap → Prop} (hl : args.length = 1) (w : s38_13.wp env 8 none (setAll args 0 .leaf) h (resK env [.tmp 2] K)) : Ret env (.func 38) args h K :=
  Ret.of_body' rfl e38 c38 rfl rfl (by rw [hl]; decide) w
/-! math.Copysign -/
def r39_0 : List GO := [⟨none, some 5, .move (.tmp 0)⟩,
  ⟨none, some 6, .call ⟨.value (.func 18), ⟨[.tmp 5]⟩, ⟨[27]⟩⟩⟩,
  ⟨none, some 7, .binOp .andNot 23 (.tmp 6) (.const (.int .u64 9223372036854775808)) 23⟩,
  ⟨none, some 8, .move (.tmp 1)⟩,
  ⟨none, some 9, .call ⟨.value (.func 18), ⟨[.tmp 8]⟩, ⟨[27]⟩⟩⟩,
  ⟨none, some 10, .binOp .and 23 (.tmp 9) (.const (.int .u64 9223372036854775808)) 23⟩,
  ⟨none, some 11, .binOp .or 23 (.tmp 7) (.tmp 10) 23⟩,
  ⟨none, some 12, .call ⟨.value (.func 10), ⟨[.tmp 11]⟩, ⟨[23]⟩⟩⟩,
  ⟨none, some 4, .assign (.tmp 12)⟩]
theorem r39_0_w {E : Env} {fr : Fr} {h : Heap} {Q : Fr → Heap → Prop} : opsW E r39_0 fr h Q = opsW E [⟨none, some 5, .move (.tmp 0)⟩,
  ⟨none, some 6, .call ⟨.value (.func 18), ⟨[.tmp 5]⟩, ⟨[27]⟩⟩⟩,
  ⟨none, some 7, .binOp .andNot 23 (.tmp 6) (.const (.int .u64 9223372036854775808)) 23⟩,
  ⟨none, some 8, .move (.tmp 1)⟩,
  ⟨none, some 9, .call ⟨.value (.func 18), ⟨[.tmp 8]⟩, ⟨[27]⟩⟩⟩,
  ⟨none, some 10, .binOp .and 23 (.tmp 9) (.const (.int .u64 9223372036854775808)) 23⟩,
  ⟨none, some 11, .binOp .or 23 (.tmp 7) (.tmp 10) 23⟩,
  ⟨none, some 12, .call ⟨.value (.func 10), ⟨[.tmp 11]⟩, ⟨[23]⟩⟩⟩,
  ⟨none, some 4, .assign (.tmp 12)⟩] fr h Q := Eq.trans rfl rfl
def s39_1 : GC := .seq (.ops r39_0) .ret
theorem s39_1_w {E : Env} {nt : Nat} {rd : Option Nat} {fr : Fr} {h : Heap} {Q : Ex → Fr → Heap → Prop} : s39_1.wp E nt rd fr h Q = (GC.seq (.ops r39_0) .ret).wp E nt rd fr h Q := Eq.trans rfl rfl
def r39_2 : List GO := [⟨none, some 4, .assign (.const (.float .f64 0))⟩]
theorem r39_2_w {E : Env} {fr : Fr} {h : Heap} {Q : Fr → Heap → Prop} : opsW E r39_2 fr h Q = opsW E [⟨none, some 4, .assign (.const (.float .f64 0))⟩] fr h Q := Eq.trans rfl rfl
def s39_3 : GC := .seq (.ops r39_2) s39_1
theorem s39_3_w {E : Env} {nt : Nat} {rd : Option Nat} {fr : Fr} {h : Heap} {Q : Ex → Fr → Heap → Prop} : s39_3.wp E nt rd fr h Q = (GC.seq (.ops r39_2) s39_1).wp E nt rd fr h Q := Eq.trans rfl rfl
theorem c39 : Tryd.f39.body.bind (clean env 13) = some s39_3 := by kernel_rfl
theorem e39 : env.funs.get 39 = some Tryd.f39 := by kernel_rfl
theorem F39 {args : List Value} {h : Heap} {K : Value → Heap → Prop} (hl : args.length = 2) (w : s39_3.wp env 13 none (setAll args 0 .leaf) h (resK env [.tmp 4] K)) : Ret env (.func 39) args h K :=
  Ret.of_body' rfl e39 c39 rfl rfl (by rw [hl]; decide) w
/-! helmsman/helmsmanref31.parts -/
def r40_0 : List GO := [⟨none, some 8, .move (.tmp 5)⟩,
  ⟨none, some 9, .binOp .gtr 23 (.tmp 8) (.const (.int .u64 9223372036854775807)) 23⟩,
  ⟨none, some 10, .move (.tmp 5)⟩,
  ⟨none, some 11, .binOp .quo 23 (.tmp 10) (.const (.int .u64 4503599627370496)) 23⟩,
  ⟨none, some 12, .binOp .rem 23 (.tmp 11) (.const (.int .u64 2048)) 23⟩,
  ⟨none, some 13, .convert 23 3 (.tmp 12)⟩,
  ⟨none, some 14, .move (.tmp 5)⟩,
  ⟨none, some 15, .binOp .rem 23 (.tmp 14) (.const (.int .u64 4503599627370496)) 23⟩,
  ⟨none, some 2, .assign (.tmp 9)⟩,
  ⟨none, some 3, .assign (.tmp 13)⟩,
  ⟨none, some 4, .assign (.tmp 15)⟩]
theorem r40_0_w {E : Env} {fr : Fr} {h : Heap} {Q : Fr → Heap → Prop} : opsW E r40_0 fr h Q = opsW E [⟨none, some 8, .move (.tmp 5)⟩,
  ⟨none, some 9, .binOp .gtr 23 (.tmp 8) (.const (.int .u64 9223372036854775807)) 23⟩,
  ⟨none, some 10, .move (.tmp 5)⟩,
  ⟨none, some 11, .binOp .quo 23 (.tmp 10) (.const (.int .u64 4503599627370496)) 23⟩,
  ⟨none, some 12, .binOp .rem 23 (.tmp 11) (.const (.int .u64 2048)) 23⟩,
  ⟨none, some 13, .convert 23 3 (.tmp 12)⟩,
  ⟨none, some 14, .move (.tmp 5)⟩,
  ⟨none, some 15, .binOp .rem 23 (.tmp 14) (.const (.int .u64 4503599627370496)) 23⟩,
  ⟨none, some 2, .assign (.tmp 9)⟩,
  ⟨none, some 3, .assign (.tmp 13)⟩,
  ⟨none, some 4, .assign (.tmp 15)⟩] fr h Q := Eq.trans rfl rfl
def s40_1 : GC := .seq (.ops r40_0) .ret
theorem s40_1_w {E : Env} {nt : Nat} {rd : Option Nat} {fr : Fr} {h : Heap} {Q : Ex → Fr → Heap → Prop} : s40_1.wp E nt rd fr h Q = (GC.seq (.ops r40_0) .ret).wp E nt rd fr h Q := Eq.trans rfl rfl
def r40_2 : List GO := [⟨none, some 6, .move (.tmp 0)⟩,
  ⟨none, some 7, .call ⟨.value (.func 18), ⟨[.tmp 6]⟩, ⟨[27]⟩⟩⟩,
  ⟨none, some 5, .assign (.tmp 7)⟩]
theorem r40_2_w {E : Env} {fr : Fr} {h : Heap} {Q : Fr → Heap → Prop} : opsW E r40_2 fr h Q = opsW E [⟨none, some 6, .move (.tmp 0)⟩,
  ⟨none, some 7, .call ⟨.value (.func 18), ⟨[.tmp 6]⟩, ⟨[27]⟩⟩⟩,
  ⟨none, some 5, .assign (.tmp 7)⟩] fr h Q := Eq.trans rfl rfl
def s40_3 : GC := .seq (.ops r40_2) s40_1
theorem s40_3_w {E : Env} {nt : Nat} {rd : Option Nat} {fr : Fr} {h : Heap} {Q : Ex → Fr → Heap → Prop} : s40_3.wp E nt rd fr h Q = (GC.seq (.ops r40_2) s40_1).wp E nt rd fr h Q := Eq.trans rfl rfl
def r40_4 : List GO := [⟨none, some 2, .assign (.const (.bool false))⟩,
  ⟨none, some 3, .assign (.const (.int .i64 0))⟩,
  ⟨none, some 4, .assign (.const (.int .u64 0))⟩]
theorem r40_4_w {E : Env} {fr : Fr} {h : Heap} {Q : Fr → Heap → Prop} : opsW E r40_4 fr h Q = opsW E [⟨none, some 2, .assign (.const (.bool false))⟩,
  ⟨none, some 3, .assign (.const (.int .i64 0))⟩,
  ⟨none, some 4, .assign (.const (.int .u64 0))⟩] fr h Q := Eq.trans rfl rfl
def s40_5 : GC := .seq (.ops r40_4) s40_3
theorem s40_5_w {E : Env} {nt : Nat} {rd : Option Nat} {fr : Fr} {h : Heap} {Q : Ex → Fr → Heap → Prop} : s40_5.wp E nt rd fr h Q = (GC.seq (.ops r40_4) s40_3).wp E nt rd fr h Q := Eq.trans rfl rfl
theorem c40 : Tryd.f40.body.bind (clean env 16) = some s40_5 := by kernel_rfl
theorem e40 : env.funs.get 40 = some Tryd.f40 := by kernel_rfl
theorem F40 {args : List Value} {h : Heap} {K : Value → Heap → Prop} (hl : args.length = 1) (w : s40_5.wp env 16 none (setAll args 0 .leaf) h (resK env [.tmp 2, .tmp 3, .tmp 4] K)) : Ret env (.func 40) args h K :=
  Ret.of_body' rfl e40 c40 rfl rfl (by rw [hl]; decide) w
/-! math.NaN -/
def r48_0 : List GO := [⟨none, some 1, .call ⟨.value (.func 10), ⟨[.const (.int .u64 9221120237041090561)]⟩, ⟨[23]⟩⟩⟩,
  ⟨none, some 0, .assign (.tmp 1)⟩]
theorem r48_0_w {E : Env} {fr : Fr} {h : Heap} {Q : Fr → Heap → Prop} : opsW E r48_0 fr h Q = opsW E [⟨none, some 1, .call ⟨.value (.func 10), ⟨[.const (.int .u64 9221120237041090561)]⟩, ⟨[23]⟩⟩⟩,
  ⟨none, some 0, .assign (.tmp 1)⟩] fr h Q := Eq.trans rfl rfl
def s48_1 : GC := .seq (.ops r48_0) .ret
theorem s48_1_w {E : Env} {nt : Nat} {rd : Option Nat} {fr : Fr} {h : Heap} {Q : Ex → Fr → Heap → Prop} : s48_1.wp E nt rd fr h Q = (GC.seq (.ops r48_0) .ret).wp E nt rd fr h Q := Eq.trans rfl rfl
def r48_2 : List GO := [⟨none, some 0, .assign (.const (.float .f64 0))⟩]
theorem r48_2_w {E : Env} {fr : Fr} {h : Heap} {Q : Fr → Heap → Prop} : opsW E r48_2 fr h Q = opsW E [⟨none, some 0, .assign (.const (.float .f64 0))⟩] fr h Q := Eq.trans rfl rfl
def s48_3 : GC := .seq (.ops r48_2) s48_1
theorem s48_3_w {E : Env} {nt : Nat} {rd : Option Nat} {fr : Fr} {h : Heap} {Q : Ex → Fr → Heap → Prop} : s48_3.wp E nt rd fr h Q = (GC.seq (.ops r48_2) s48_1).wp E nt rd fr h Q := Eq.trans rfl rfl
theorem c48 : Tryd.f48.body.bind (clean env 2) = some s48_3 := by kernel_rfl
theorem e48 : env.funs.get 48 = some Tryd.f48 := by kernel_rfl
theorem F48 {args : List Value} {h : Heap} {K : Value → Heap → Prop} (hl : args.length = 0) (w : s48_3.wp env 2 none (setAll args 0 .leaf) h (resK env [.tmp 0] K)) : Ret env (.func 48) args h K :=
  Ret.of_body' rfl e48 c48 rfl rfl (by rw [hl]; decide) w
/-! strconv.FormatUint -/
def r50_0 : List GO := [⟨none, some 5, .move (.tmp 0)⟩,
  ⟨none, some 6, .move (.tmp 1)⟩,
  ⟨none, some 7, .call ⟨.value (.func 67), ⟨[.tmp 5, .tmp 6]⟩, ⟨[23, 3]⟩⟩⟩,
  ⟨none, some 4, .assign (.tmp 7)⟩]
theorem r50_0_w {E : Env} {fr : Fr} {h : Heap} {Q : Fr → Heap → Prop} : opsW E r50_0 fr h Q = opsW E [⟨none, some 5, .move (.tmp 0)⟩,
  ⟨none, some 6, .move (.tmp 1)⟩,
  ⟨none, some 7, .call ⟨.value (.func 67), ⟨[.tmp 5, .tmp 6]⟩, ⟨[23, 3]⟩⟩⟩,
  ⟨none, some 4, .assign (.tmp 7)⟩] fr h Q := Eq.trans rfl rfl
def s50_1 : GC := .seq (.ops r50_0) .ret
theorem s50_1_w {E : Env} {nt : Nat} {rd : Option Nat} {fr : Fr} {h : Heap} {Q : Ex → Fr → Heap → Prop} : s50_1.wp E nt rd fr h Q = (GC.seq (.ops r50_0) .ret).wp E nt rd fr h Q := Eq.trans rfl rfl
def r50_2 : List GO := [⟨none, some 4, .assign (.const (.string ⟨⟨[]⟩⟩))⟩]
theorem r50_2_w {E : Env} {fr : Fr} {h : Heap} {Q : Fr → Heap → Prop} : opsW E r50_2 fr h Q = opsW E [⟨none, some 4, .assign (.const (.string ⟨⟨[]⟩⟩))⟩] fr h Q := Eq.trans rfl rfl
def s50_3 : GC := .seq (.ops r50_2) s50_1
theorem s50_3_w {E : Env} {nt : Nat} {rd : Option Nat} {fr : Fr} {h : Heap} {Q : Ex → Fr → Heap → Prop} : s50_3.wp E nt rd fr h Q = (GC.seq (.ops r50_2) s50_1).wp E nt rd fr h Q := Eq.trans rfl rfl
theorem c50 : Tryd.f50.body.bind (clean env 8) = some s50_3 := by kernel_rfl
theorem e50 : env.funs.get 50 = some Tryd.f50 := by kernel_rfl
theorem F50 {args : List Value} {h : Heap} {K : Value → Heap → Prop} (hl : args.length = 2) (w : s50_3.wp env 8 none (setAll args 0 .leaf) h (resK env [.tmp 4] K)) : Ret env (.func 50) args h K :=
  Ret.of_body' rfl e50 c50 rfl rfl (by rw [hl]; decide) w
/-! helmsman/helmsmanref31.num -/
def r52_0 : List GO := [⟨none, some 10, .move (.tmp 0)⟩,
  ⟨none, some 11, .convert 3 23 (.tmp 10)⟩,
  ⟨none, some 12, .call ⟨.value (.func 53), ⟨[.tmp 11]⟩, ⟨[23]⟩⟩⟩,
  ⟨none, some 2, .assign (.tmp 12)⟩]
theorem r52_0_w {E : Env} {fr : Fr} {h : Heap} {Q : Fr → Heap → Prop} : opsW E r52_0 fr h Q = opsW E [⟨none, some 10, .move (.tmp 0)⟩,
  ⟨none, some 11, .convert 3 23 (.tmp 10)⟩,
  ⟨none, some 12, .call ⟨.value (.func 53), ⟨[.tmp 11]⟩, ⟨[23]⟩⟩⟩,
  ⟨none, some 2, .assign (.tmp 12)⟩] fr h Q := Eq.trans rfl rfl
def s52_1 : GC := .seq (.ops r52_0) .ret
theorem s52_1_w {E : Env} {nt : Nat} {rd : Option Nat} {fr : Fr} {h : Heap} {Q : Ex → Fr → Heap → Prop} : s52_1.wp E nt rd fr h Q = (GC.seq (.ops r52_0) .ret).wp E nt rd fr h Q := Eq.trans rfl rfl
def r52_2 : List GO := [⟨none, some 5, .move (.tmp 0)⟩,
  ⟨none, some 6, .unOp .neg 3 (.tmp 5)⟩,
  ⟨none, some 7, .convert 3 23 (.tmp 6)⟩,
  ⟨none, some 8, .call ⟨.value (.func 53), ⟨[.tmp 7]⟩, ⟨[23]⟩⟩⟩,
  ⟨none, some 9, .binOp .add 9 (.const (.string ⟨⟨[45]⟩⟩)) (.tmp 8) 9⟩,
  ⟨none, some 2, .assign (.tmp 9)⟩]
theorem r52_2_w {E : Env} {fr : Fr} {h : Heap} {Q : Fr → Heap → Prop} : opsW E r52_2 fr h Q = opsW E [⟨none, some 5, .move (.tmp 0)⟩,
  ⟨none, some 6, .unOp .neg 3 (.tmp 5)⟩,
  ⟨none, some 7, .convert 3 23 (.tmp 6)⟩,
  ⟨none, some 8, .call ⟨.value (.func 53), ⟨[.tmp 7]⟩, ⟨[23]⟩⟩⟩,
  ⟨none, some 9, .binOp .add 9 (.const (.string ⟨⟨[45]⟩⟩)) (.tmp 8) 9⟩,
  ⟨none, some 2, .assign (.tmp 9)⟩] fr h Q := Eq.trans rfl rfl
def s52_3 : GC := .seq (.ops r52_2) .ret
theorem s52_3_w {E : Env} {nt : Nat} {rd : Option Nat} {fr : Fr} {h : Heap} {Q : Ex → Fr → Heap → Prop} : s52_3.wp E nt rd fr h Q = (GC.seq (.ops r52_2) .ret).wp E nt rd fr h Q := Eq.trans rfl rfl
def s52_4 : GC := .cond (.tmp 4) s52_3 .skip
theorem s52_4_w {E : Env} {nt : Nat} {rd : Option Nat} {fr : Fr} {h : Heap} {Q : Ex → Fr → Heap → Prop} : s52_4.wp E nt rd fr h Q = (GC.cond (.tmp 4) s52_3 .skip).wp E nt rd fr h Q := Eq.trans rfl rfl
def r52_5 : List GO := [⟨none, some 3, .move (.tmp 0)⟩,
  ⟨none, some 4, .binOp .lss 3 (.tmp 3) (.const (.int .i64 0)) 3⟩]
theorem r52_5_w {E : Env} {fr : Fr} {h : Heap} {Q : Fr → Heap → Prop} : opsW E r52_5 fr h Q = opsW E [⟨none, some 3, .move (.tmp 0)⟩,
  ⟨none, some 4, .binOp .lss 3 (.tmp 3) (.const (.int .i64 0)) 3⟩] fr h Q := Eq.trans rfl rfl
def s52_6 : GC := .seq (.ops r52_5) s52_4
theorem s52_6_w {E : Env} {nt : Nat} {rd : Option Nat} {fr : Fr} {h : Heap} {Q : Ex → Fr → Heap → Prop} : s52_6.wp E nt rd fr h Q = (GC.seq (.ops r52_5) s52_4).wp E nt rd fr h Q := Eq.trans rfl rfl
def s52_7 : GC := .seq (s52_6) s52_1
theorem s52_7_w {E : Env} {nt : Nat} {rd : Option Nat} {fr : Fr} {h : Heap} {Q : Ex → Fr → Heap → Prop} : s52_7.wp E nt rd fr h Q = (GC.seq (s52_6) s52_1).wp E nt rd fr h Q := Eq.trans rfl rfl
def r52_8 : List GO := [⟨none, some 2, .assign (.const (.string ⟨⟨[]⟩⟩))⟩]
theorem r52_8_w {E : Env} {fr : Fr} {h : Heap} {Q : Fr → Heap → Prop} : opsW E r52_8 fr h Q = opsW E [⟨none, some 2, .assign (.const (.string ⟨⟨[]⟩⟩))⟩] fr h Q := Eq.trans rfl rfl
def s52_9 : GC := .seq (.ops r52_8) s52_7
theorem s52_9_w {E : Env} {nt : Nat} {rd : Option Nat} {fr : Fr} {h : Heap} {Q : Ex → Fr → Heap → Prop} : s52_9.wp E nt rd fr h Q = (GC.seq (.ops r52_8) s52_7).wp E nt rd fr h Q := Eq.trans rfl rfl
theorem c52 : Tryd.f52.body.bind (clean env 13) = some s52_9 := by kernel_rfl
theorem e52 : env.funs.get 52 = some Tryd.f52 := by kernel_rfl
theorem F52 {args : List Value} {h : Heap} {K : Value → Heap → Prop} (hl : args.length = 1) (w : s52_9.wp env 13 none (setAll args 0 .leaf) h (resK env [.tmp 2] K)) : Ret env (.func 52) args h K :=
  Ret.of_body' rfl e52 c52 rfl rfl (by rw [hl]; decide) w
/-! helmsman/helmsmanref31.big -/
def p53_0 : List (GO × List GO) := [(⟨none, some 10, .move (.tmp 0)⟩, []),
  (⟨none, some 11, .binOp .quo 23 (.tmp 10) (.const (.int .u64 10)) 23⟩, []),
  (⟨none, some 13, .move (.tmp 0)⟩, []),
  (⟨none, some 14, .binOp .rem 23 (.tmp 13) (.const (.int .u64 10)) 23⟩, []),
  (⟨none, some 15, .binOp .add 23 (.const (.int .u64 48)) (.tmp 14) 23⟩, []),
  (⟨none, some 16, .convert 23 5 (.tmp 15)⟩, []),
  (⟨none, some 17, .buildSlice 87 1 ⟨[(0, .tmp 16)]⟩⟩, []),
  (⟨none, some 18, .convert 87 9 (.tmp 17)⟩, []),
  (⟨none, some 12, .call ⟨.value (.func 53), ⟨[.tmp 11]⟩, ⟨[23]⟩⟩⟩, [⟨none, some 18, .convert 87 9 (.tmp 17)⟩]),
  (⟨none, some 19, .binOp .add 9 (.tmp 12) (.tmp 18) 9⟩, []),
  (⟨none, some 2, .assign (.tmp 19)⟩, [])]
theorem p53_0_w {E : Env} {fr : Fr} {h : Heap} {Q : Fr → Heap → Prop} : planW E p53_0 fr h Q = planW E [(⟨none, some 10, .move (.tmp 0)⟩, []),
  (⟨none, some 11, .binOp .quo 23 (.tmp 10) (.const (.int .u64 10)) 23⟩, []),
  (⟨none, some 13, .move (.tmp 0)⟩, []),
  (⟨none, some 14, .binOp .rem 23 (.tmp 13) (.const (.int .u64 10)) 23⟩, []),
  (⟨none, some 15, .binOp .add 23 (.const (.int .u64 48)) (.tmp 14) 23⟩, []),
  (⟨none, some 16, .convert 23 5 (.tmp 15)⟩, []),
  (⟨none, some 17, .buildSlice 87 1 ⟨[(0, .tmp 16)]⟩⟩, []),
  (⟨none, some 18, .convert 87 9 (.tmp 17)⟩, []),
  (⟨none, some 12, .call ⟨.value (.func 53), ⟨[.tmp 11]⟩, ⟨[23]⟩⟩⟩, [⟨none, some 18, .convert 87 9 (.tmp 17)⟩]),
  (⟨none, some 19, .binOp .add 9 (.tmp 12) (.tmp 18) 9⟩, []),
  (⟨none, some 2, .assign (.tmp 19)⟩, [])] fr h Q := Eq.trans rfl rfl
def s53_1 : GC := .seq (.plan p53_0) .ret
theorem s53_1_w {E : Env} {nt : Nat} {rd : Option Nat} {fr : Fr} {h : Heap} {Q : Ex → Fr → Heap → Prop} : s53_1.wp E nt rd fr h Q = (GC.seq (.plan p53_0) .ret).wp E nt rd fr h Q := Eq.trans rfl rfl
def r53_2 : List GO := [⟨none, some 5, .move (.tmp 0)⟩,
  ⟨none, some 6, .binOp .add 23 (.const (.int .u64 48)) (.tmp 5) 23⟩,
  ⟨none, some 7, .convert 23 5 (.tmp 6)⟩,
  ⟨none, some 8, .buildSlice 87 1 ⟨[(0, .tmp 7)]⟩⟩,
  ⟨none, some 9, .convert 87 9 (.tmp 8)⟩,
  ⟨none, some 2, .assign (.tmp 9)⟩]
theorem r53_2_w {E : Env} {fr : Fr} {h : Heap} {Q : Fr → Heap → Prop} : opsW E r53_2 fr h Q = opsW E [⟨none, some 5, .move (.tmp 0)⟩,
  ⟨none, some 6, .binOp .add 23 (.const (.int .u64 48)) (.tmp 5) 23⟩,
  ⟨none, some 7, .convert 23 5 (.tmp 6)⟩,
  ⟨none, some 8, .buildSlice 87 1 ⟨[(0, .tmp 7)]⟩⟩,
  ⟨none, some 9, .convert 87 9 (.tmp 8)⟩,
  ⟨none, some 2, .assign (.tmp 9)⟩] fr h Q := Eq.trans rfl rfl
def s53_3 : GC := .seq (.ops r53_2) .ret
theorem s53_3_w {E : Env} {nt : Nat} {rd : Option Nat} {fr : Fr} {h : Heap} {Q : Ex → Fr → Heap → Prop} : s53_3.wp E nt rd fr h Q = (GC.seq (.ops r53_2) .ret).wp E nt rd fr h Q := Eq.trans rfl rfl
def s53_4 : GC := .cond (.tmp 4) s53_3 .skip
theorem s53_4_w {E : Env} {nt : Nat} {rd : Option Nat} {fr : Fr} {h : Heap} {Q : Ex → Fr → Heap → Prop} : s53_4.wp E nt rd fr h Q = (GC.cond (.tmp 4) s53_3 .skip).wp E nt rd fr h Q := Eq.trans rfl rfl
def r53_5 : List GO := [⟨none, some 3, .move (.tmp 0)⟩,
  ⟨none, some 4, .binOp .lss 23 (.tmp 3) (.const (.int .u64 10)) 23⟩]
theorem r53_5_w {E : Env} {fr : Fr} {h : Heap} {Q : Fr → Heap → Prop} : opsW E r53_5 fr h Q = opsW E [⟨none, some 3, .move (.tmp 0)⟩,
  ⟨none, some 4, .binOp .lss 23 (.tmp 3) (.const (.int .u64 10)) 23⟩] fr h Q := Eq.trans rfl rfl
def s53_6 : GC := .seq (.ops r53_5) s53_4
theorem s53_6_w {E : Env} {nt : Nat} {rd : Option Nat} {fr : Fr} {h : Heap} {Q : Ex → Fr → Heap → Prop} : s53_6.wp E nt rd fr h Q = (GC.seq (.ops r53_5) s53_4).wp E nt rd fr h Q := Eq.trans rfl rfl
def s53_7 : GC := .seq (s53_6) s53_1
theorem s53_7_w {E : Env} {nt : Nat} {rd : Option Nat} {fr : Fr} {h : Heap} {Q : Ex → Fr → Heap → Prop} : s53_7.wp E nt rd fr h Q = (GC.seq (s53_6) s53_1).wp E nt rd fr h Q := Eq.trans rfl rfl
def r53_8 : List GO := [⟨none, some 2, .assign (.const (.string ⟨⟨[]⟩⟩))⟩]
theorem r53_8_w {E : Env} {fr : Fr} {h : Heap} {Q : Fr → Heap → Prop} : opsW E r53_8 fr h Q = opsW E [⟨none, some 2, .assign (.const (.string ⟨⟨[]⟩⟩))⟩] fr h Q := Eq.trans rfl rfl
def s53_9 : GC := .seq (.ops r53_8) s53_7
theorem s53_9_w {E : Env} {nt : Nat} {rd : Option Nat} {fr : Fr} {h : Heap} {Q : Ex → Fr → Heap → Prop} : s53_9.wp E nt rd fr h Q = (GC.seq (.ops r53_8) s53_7).wp E nt rd fr h Q := Eq.trans rfl rfl
theorem c53 : Tryd.f53.body.bind (clean env 20) = some s53_9 := by kernel_rfl
theorem e53 : env.funs.get 53 = some Tryd.f53 := by kernel_rfl
theorem F53 {args : List Value} {h : Heap} {K : Value → Heap → Prop} (hl : args.length = 1) (w : s53_9.wp env 20 none (setAll args 0 .leaf) h (resK env [.tmp 2] K)) : Ret env (.func 53) args h K :=
  Ret.of_body' rfl e53 c53 rfl rfl (by rw [hl]; decide) w
/-! helmsman/share.class -/
def r54_0 : List GO := [⟨none, some 2, .assign (.const (.string ⟨⟨[]⟩⟩))⟩]
theorem r54_0_w {E : Env} {fr : Fr} {h : Heap} {Q : Fr → Heap → Prop} : opsW E r54_0 fr h Q = opsW E [⟨none, some 2, .assign (.const (.string ⟨⟨[]⟩⟩))⟩] fr h Q := Eq.trans rfl rfl
def s54_1 : GC := .seq (.ops r54_0) .ret
theorem s54_1_w {E : Env} {nt : Nat} {rd : Option Nat} {fr : Fr} {h : Heap} {Q : Ex → Fr → Heap → Prop} : s54_1.wp E nt rd fr h Q = (GC.seq (.ops r54_0) .ret).wp E nt rd fr h Q := Eq.trans rfl rfl
def r54_2 : List GO := [⟨none, some 2, .assign (.const (.string ⟨⟨[110, 97, 110]⟩⟩))⟩]
theorem r54_2_w {E : Env} {fr : Fr} {h : Heap} {Q : Fr → Heap → Prop} : opsW E r54_2 fr h Q = opsW E [⟨none, some 2, .assign (.const (.string ⟨⟨[110, 97, 110]⟩⟩))⟩] fr h Q := Eq.trans rfl rfl
def s54_3 : GC := .seq (.ops r54_2) .ret
theorem s54_3_w {E : Env} {nt : Nat} {rd : Option Nat} {fr : Fr} {h : Heap} {Q : Ex → Fr → Heap → Prop} : s54_3.wp E nt rd fr h Q = (GC.seq (.ops r54_2) .ret).wp E nt rd fr h Q := Eq.trans rfl rfl
def r54_4 : List GO := [⟨none, some 2, .assign (.const (.string ⟨⟨[105, 110, 102]⟩⟩))⟩]
theorem r54_4_w {E : Env} {fr : Fr} {h : Heap} {Q : Fr → Heap → Prop} : opsW E r54_4 fr h Q = opsW E [⟨none, some 2, .assign (.const (.string ⟨⟨[105, 110, 102]⟩⟩))⟩] fr h Q := Eq.trans rfl rfl
def s54_5 : GC := .seq (.ops r54_4) .ret
theorem s54_5_w {E : Env} {nt : Nat} {rd : Option Nat} {fr : Fr} {h : Heap} {Q : Ex → Fr → Heap → Prop} : s54_5.wp E nt rd fr h Q = (GC.seq (.ops r54_4) .ret).wp E nt rd fr h Q := Eq.trans rfl rfl
def r54_6 : List GO := [⟨none, some 2, .assign (.const (.string ⟨⟨[45, 105, 110, 102]⟩⟩))⟩]
theorem r54_6_w {E : Env} {fr : Fr} {h : Heap} {Q : Fr → Heap → Prop} : opsW E r54_6 fr h Q = opsW E [⟨none, some 2, .assign (.const (.string ⟨⟨[45, 105, 110, 102]⟩⟩))⟩] fr h Q := Eq.trans rfl rfl
def s54_7 : GC := .seq (.ops r54_6) .ret
theorem s54_7_w {E : Env} {nt : Nat} {rd : Option Nat} {fr : Fr} {h : Heap} {Q : Ex → Fr → Heap → Prop} : s54_7.wp E nt rd fr h Q = (GC.seq (.ops r54_6) .ret).wp E nt rd fr h Q := Eq.trans rfl rfl
def r54_8 : List GO := [⟨none, some 2, .assign (.const (.string ⟨⟨[45, 48]⟩⟩))⟩]
theorem r54_8_w {E : Env} {fr : Fr} {h : Heap} {Q : Fr → Heap → Prop} : opsW E r54_8 fr h Q = opsW E [⟨none, some 2, .assign (.const (.string ⟨⟨[45, 48]⟩⟩))⟩] fr h Q := Eq.trans rfl rfl
def s54_9 : GC := .seq (.ops r54_8) .ret
theorem s54_9_w {E : Env} {nt : Nat} {rd : Option Nat} {fr : Fr} {h : Heap} {Q : Ex → Fr → Heap → Prop} : s54_9.wp E nt rd fr h Q = (GC.seq (.ops r54_8) .ret).wp E nt rd fr h Q := Eq.trans rfl rfl
def r54_10 : List GO := [⟨none, some 2, .assign (.const (.string ⟨⟨[48]⟩⟩))⟩]
theorem r54_10_w {E : Env} {fr : Fr} {h : Heap} {Q : Fr → Heap → Prop} : opsW E r54_10 fr h Q = opsW E [⟨none, some 2, .assign (.const (.string ⟨⟨[48]⟩⟩))⟩] fr h Q := Eq.trans rfl rfl
def s54_11 : GC := .seq (.ops r54_10) .ret
theorem s54_11_w {E : Env} {nt : Nat} {rd : Option Nat} {fr : Fr} {h : Heap} {Q : Ex → Fr → Heap → Prop} : s54_11.wp E nt rd fr h Q = (GC.seq (.ops r54_10) .ret).wp E nt rd fr h Q := Eq.trans rfl rfl
def s54_12 : GC := .cond (.tmp 19) s54_11 .skip
theorem s54_12_w {E : Env} {nt : Nat} {rd : Option Nat} {fr : Fr} {h : Heap} {Q : Ex → Fr → Heap → Prop} : s54_12.wp E nt rd fr h Q = (GC.cond (.tmp 19) s54_11 .skip).wp E nt rd fr h Q := Eq.trans rfl rfl
def r54_13 : List GO := [⟨none, some 20, .move (.tmp 0)⟩,
  ⟨none, some 21, .binOp .eql 27 (.tmp 20) (.const (.float .f64 0)) 27⟩,
  ⟨none, some 19, .assign (.tmp 21)⟩]
theorem r54_13_w {E : Env} {fr : Fr} {h : Heap} {Q : Fr → Heap → Prop} : opsW E r54_13 fr h Q = opsW E [⟨none, some 20, .move (.tmp 0)⟩,
  ⟨none, some 21, .binOp .eql 27 (.tmp 20) (.const (.float .f64 0)) 27⟩,
  ⟨none, some 19, .assign (.tmp 21)⟩] fr h Q := Eq.trans rfl rfl
def s54_14 : GC := .seq (.ops r54_13) s54_12
theorem s54_14_w {E : Env} {nt : Nat} {rd : Option Nat} {fr : Fr} {h : Heap} {Q : Ex → Fr → Heap → Prop} : s54_14.wp E nt rd fr h Q = (GC.seq (.ops r54_13) s54_12).wp E nt rd fr h Q := Eq.trans rfl rfl
def s54_15 : GC := .cond (.tmp 12) s54_9 s54_14
theorem s54_15_w {E : Env} {nt : Nat} {rd : Option Nat} {fr : Fr} {h : Heap} {Q : Ex → Fr → Heap → Prop} : s54_15.wp E nt rd fr h Q = (GC.cond (.tmp 12) s54_9 s54_14).wp E nt rd fr h Q := Eq.trans rfl rfl
def r54_16 : List GO := [⟨none, some 13, .move (.tmp 0)⟩,
  ⟨none, some 14, .binOp .eql 27 (.tmp 13) (.const (.float .f64 0)) 27⟩,
  ⟨none, some 15, .move (.tmp 14)⟩,
  ⟨some (15, true), some 16, .move (.tmp 0)⟩,
  ⟨some (15, true), some 17, .call ⟨.value (.func 72), ⟨[.tmp 16]⟩, ⟨[27]⟩⟩⟩,
  ⟨none, some 18, .pick (.tmp 15) (.tmp 17) (.const (.bool false))⟩,
  ⟨none, some 12, .assign (.tmp 18)⟩]
theorem r54_16_w {E : Env} {fr : Fr} {h : Heap} {Q : Fr → Heap → Prop} : opsW E r54_16 fr h Q = opsW E [⟨none, some 13, .move (.tmp 0)⟩,
  ⟨none, some 14, .binOp .eql 27 (.tmp 13) (.const (.float .f64 0)) 27⟩,
  ⟨none, some 15, .move (.tmp 14)⟩,
  ⟨some (15, true), some 16, .move (.tmp 0)⟩,
  ⟨some (15, true), some 17, .call ⟨.value (.func 72), ⟨[.tmp 16]⟩, ⟨[27]⟩⟩⟩,
  ⟨none, some 18, .pick (.tmp 15) (.tmp 17) (.const (.bool false))⟩,
  ⟨none, some 12, .assign (.tmp 18)⟩] fr h Q := Eq.trans rfl rfl
def s54_17 : GC := .seq (.ops r54_16) s54_15
theorem s54_17_w {E : Env} {nt : Nat} {rd : Option Nat} {fr : Fr} {h : Heap} {Q : Ex → Fr → Heap → Prop} : s54_17.wp E nt rd fr h Q = (GC.seq (.ops r54_16) s54_15).wp E nt rd fr h Q := Eq.trans rfl rfl
def s54_18 : GC := .cond (.tmp 9) s54_7 s54_17
theorem s54_18_w {E : Env} {nt : Nat} {rd : Option Nat} {fr : Fr} {h : Heap} {Q : Ex → Fr → Heap → Prop} : s54_18.wp E nt rd fr h Q = (GC.cond (.tmp 9) s54_7 s54_17).wp E nt rd fr h Q := Eq.trans rfl rfl
def r54_19 : List GO := [⟨none, some 10, .move (.tmp 0)⟩,
  ⟨none, some 11, .call ⟨.value (.func 71), ⟨[.tmp 10, .const (.int .i64 (-1))]⟩, ⟨[27, 3]⟩⟩⟩,
  ⟨none, some 9, .assign (.tmp 11)⟩]
theorem r54_19_w {E : Env} {fr : Fr} {h : Heap} {Q : Fr → Heap → Prop} : opsW E r54_19 fr h Q = opsW E [⟨none, some 10, .move (.tmp 0)⟩,
  ⟨none, some 11, .call ⟨.value (.func 71), ⟨[.tmp 10, .const (.int .i64 (-1))]⟩, ⟨[27, 3]⟩⟩⟩,
  ⟨none, some 9, .assign (.tmp 11)⟩] fr h Q := Eq.trans rfl rfl
def s54_20 : GC := .seq (.ops r54_19) s54_18
theorem s54_20_w {E : Env} {nt : Nat} {rd : Option Nat} {fr : Fr} {h : Heap} {Q : Ex → Fr → Heap → Prop} : s54_20.wp E nt rd fr h Q = (GC.seq (.ops r54_19) s54_18).wp E nt rd fr h Q := Eq.trans rfl rfl
def s54_21 : GC := .cond (.tmp 6) s54_5 s54_20
theorem s54_21_w {E : Env} {nt : Nat} {rd : Option Nat} {fr : Fr} {h : Heap} {Q : Ex → Fr → Heap → Prop} : s54_21.wp E nt rd fr h Q = (GC.cond (.tmp 6) s54_5 s54_20).wp E nt rd fr h Q := Eq.trans rfl rfl
def r54_22 : List GO := [⟨none, some 7, .move (.tmp 0)⟩,
  ⟨none, some 8, .call ⟨.value (.func 71), ⟨[.tmp 7, .const (.int .i64 1)]⟩, ⟨[27, 3]⟩⟩⟩,
  ⟨none, some 6, .assign (.tmp 8)⟩]
theorem r54_22_w {E : Env} {fr : Fr} {h : Heap} {Q : Fr → Heap → Prop} : opsW E r54_22 fr h Q = opsW E [⟨none, some 7, .move (.tmp 0)⟩,
  ⟨none, some 8, .call ⟨.value (.func 71), ⟨[.tmp 7, .const (.int .i64 1)]⟩, ⟨[27, 3]⟩⟩⟩,
  ⟨none, some 6, .assign (.tmp 8)⟩] fr h Q := Eq.trans rfl rfl
def s54_23 : GC := .seq (.ops r54_22) s54_21
theorem s54_23_w {E : Env} {nt : Nat} {rd : Option Nat} {fr : Fr} {h : Heap} {Q : Ex → Fr → Heap → Prop} : s54_23.wp E nt rd fr h Q = (GC.seq (.ops r54_22) s54_21).wp E nt rd fr h Q := Eq.trans rfl rfl
def s54_24 : GC := .cond (.tmp 3) s54_3 s54_23
theorem s54_24_w {E : Env} {nt : Nat} {rd : Option Nat} {fr : Fr} {h : Heap} {Q : Ex → Fr → Heap → Prop} : s54_24.wp E nt rd fr h Q = (GC.cond (.tmp 3) s54_3 s54_23).wp E nt rd fr h Q := Eq.trans rfl rfl
def r54_25 : List GO := [⟨none, some 4, .move (.tmp 0)⟩,
  ⟨none, some 5, .call ⟨.value (.func 63), ⟨[.tmp 4]⟩, ⟨[27]⟩⟩⟩,
  ⟨none, some 3, .assign (.tmp 5)⟩]
theorem r54_25_w {E : Env} {fr : Fr} {h : Heap} {Q : Fr → Heap → Prop} : opsW E r54_25 fr h Q = opsW E [⟨none, some 4, .move (.tmp 0)⟩,
  ⟨none, some 5, .call ⟨.value (.func 63), ⟨[.tmp 4]⟩, ⟨[27]⟩⟩⟩,
  ⟨none, some 3, .assign (.tmp 5)⟩] fr h Q := Eq.trans rfl rfl
def s54_26 : GC := .seq (.ops r54_25) s54_24
theorem s54_26_w {E : Env} {nt : Nat} {rd : Option Nat} {fr : Fr} {h : Heap} {Q : Ex → Fr → Heap → Prop} : s54_26.wp E nt rd fr h Q = (GC.seq (.ops r54_25) s54_24).wp E nt rd fr h Q := Eq.trans rfl rfl
def s54_27 : GC := .seq (.block 0 s54_26) s54_1
theorem s54_27_w {E : Env} {nt : Nat} {rd : Option Nat} {fr : Fr} {h : Heap} {Q : Ex → Fr → Heap → Prop} : s54_27.wp E nt rd fr h Q = (GC.seq (.block 0 s54_26) s54_1).wp E nt rd fr h Q := Eq.trans rfl rfl
def r54_28 : List GO := [⟨none, some 2, .assign (.const (.string ⟨⟨[]⟩⟩))⟩]
theorem r54_28_w {E : Env} {fr : Fr} {h : Heap} {Q : Fr → Heap → Prop} : opsW E r54_28 fr h Q = opsW E [⟨none, some 2, .assign (.const (.string ⟨⟨[]⟩⟩))⟩] fr h Q := Eq.trans rfl rfl
def s54_29 : GC := .seq (.ops r54_28) s54_27
theorem s54_29_w {E : Env} {nt : Nat} {rd : Option Nat} {fr : Fr} {h : Heap} {Q : Ex → Fr → Heap → Prop} : s54_29.wp E nt rd fr h Q = (GC.seq (.ops r54_28) s54_27).wp E nt rd fr h Q := Eq.trans rfl rfl
theorem c54 : Tryd.f54.body.bind (clean env 22) = some s54_29 := by kernel_rfl
theorem e54 : env.funs.get 54 = some Tryd.f54 := by kernel_rfl
theorem F54 {args : List Value} {h : Heap} {K : Value → Heap → Prop} (hl : args.length = 1) (w : s54_29.wp env 22 none (setAll args 0 .leaf) h (resK env [.tmp 2] K)) : Ret env (.func 54) args h K :=
  Ret.of_body' rfl e54 c54 rfl rfl (by rw [hl]; decide) w
/-! strconv.ParseUint -/
def r59_0 : List GO := [⟨none, some 25, .move (.tmp 8)⟩,
  ⟨none, some 6, .assign (.tmp 25)⟩,
  ⟨none, some 7, .assign (.const (.nilIface))⟩]
theorem r59_0_w {E : Env} {fr : Fr} {h : Heap} {Q : Fr → Heap → Prop} : opsW E r59_0 fr h Q = opsW E [⟨none, some 25, .move (.tmp 8)⟩,
  ⟨none, some 6, .assign (.tmp 25)⟩,
  ⟨none, some 7, .assign (.const (.nilIface))⟩] fr h Q := Eq.trans rfl rfl
def s59_1 : GC := .seq (.ops r59_0) .ret
theorem s59_1_w {E : Env} {nt : Nat} {rd : Option Nat} {fr : Fr} {h : Heap} {Q : Ex → Fr → Heap → Prop} : s59_1.wp E nt rd fr h Q = (GC.seq (.ops r59_0) .ret).wp E nt rd fr h Q := Eq.trans rfl rfl
def r59_2 : List GO := [⟨none, some 19, .move (.tmp 8)⟩,
  ⟨none, some 20, .move (.tmp 0)⟩,
  ⟨none, some 21, .move (.tmp 1)⟩,
  ⟨none, some 22, .move (.tmp 2)⟩,
  ⟨none, some 23, .move (.tmp 9)⟩,
  ⟨none, some 24, .call ⟨.value (.func 76), ⟨[.const (.string ⟨⟨[80, 97, 114, 115, 101, 85, 105, 110, 116]⟩⟩), .tmp 20, .tmp 21, .tmp 22, .tmp 23]⟩, ⟨[9, 9, 3, 3, 76]⟩⟩⟩,
  ⟨none, some 6, .assign (.tmp 19)⟩,
  ⟨none, some 7, .assign (.tmp 24)⟩]
theorem r59_2_w {E : Env} {fr : Fr} {h : Heap} {Q : Fr → Heap → Prop} : opsW E r59_2 fr h Q = opsW E [⟨none, some 19, .move (.tmp 8)⟩,
  ⟨none, some 20, .move (.tmp 0)⟩,
  ⟨none, some 21, .move (.tmp 1)⟩,
  ⟨none, some 22, .move (.tmp 2)⟩,
  ⟨none, some 23, .move (.tmp 9)⟩,
  ⟨none, some 24, .call ⟨.value (.func 76), ⟨[.const (.string ⟨⟨[80, 97, 114, 115, 101, 85, 105, 110, 116]⟩⟩), .tmp 20, .tmp 21, .tmp 22, .tmp 23]⟩, ⟨[9, 9, 3, 3, 76]⟩⟩⟩,
  ⟨none, some 6, .assign (.tmp 19)⟩,
  ⟨none, some 7, .assign (.tmp 24)⟩] fr h Q := Eq.trans rfl rfl
def s59_3 : GC := .seq (.ops r59_2) .ret
theorem s59_3_w {E : Env} {nt : Nat} {rd : Option Nat} {fr : Fr} {h : Heap} {Q : Ex → Fr → Heap → Prop} : s59_3.wp E nt rd fr h Q = (GC.seq (.ops r59_2) .ret).wp E nt rd fr h Q := Eq.trans rfl rfl
def s59_4 : GC := .cond (.tmp 18) s59_3 .skip
theorem s59_4_w {E : Env} {nt : Nat} {rd : Option Nat} {fr : Fr} {h : Heap} {Q : Ex → Fr → Heap → Prop} : s59_4.wp E nt rd fr h Q = (GC.cond (.tmp 18) s59_3 .skip).wp E nt rd fr h Q := Eq.trans rfl rfl
def r59_5 : List GO := [⟨none, some 17, .move (.tmp 9)⟩,
  ⟨none, some 18, .binOp .neq 76 (.tmp 17) (.const (.nilIface)) 76⟩]
theorem r59_5_w {E : Env} {fr : Fr} {h : Heap} {Q : Fr → Heap → Prop} : opsW E r59_5 fr h Q = opsW E [⟨none, some 17, .move (.tmp 9)⟩,
  ⟨none, some 18, .binOp .neq 76 (.tmp 17) (.const (.nilIface)) 76⟩] fr h Q := Eq.trans rfl rfl
def s59_6 : GC := .seq (.ops r59_5) s59_4
theorem s59_6_w {E : Env} {nt : Nat} {rd : Option Nat} {fr : Fr} {h : Heap} {Q : Ex → Fr → Heap → Prop} : s59_6.wp E nt rd fr h Q = (GC.seq (.ops r59_5) s59_4).wp E nt rd fr h Q := Eq.trans rfl rfl
def s59_7 : GC := .seq (s59_6) s59_1
theorem s59_7_w {E : Env} {nt : Nat} {rd : Option Nat} {fr : Fr} {h : Heap} {Q : Ex → Fr → Heap → Prop} : s59_7.wp E nt rd fr h Q = (GC.seq (s59_6) s59_1).wp E nt rd fr h Q := Eq.trans rfl rfl
def r59_8 : List GO := [⟨none, some 11, .move (.tmp 0)⟩,
  ⟨none, some 12, .move (.tmp 1)⟩,
  ⟨none, some 13, .move (.tmp 2)⟩,
  ⟨none, some 14, .call ⟨.value (.func 77), ⟨[.tmp 11, .tmp 12, .tmp 13]⟩, ⟨[9, 3, 3]⟩⟩⟩,
  ⟨none, some 10, .move (.tmp 14)⟩,
  ⟨none, some 15, .extract (.tmp 10) 0⟩,
  ⟨none, some 16, .extract (.tmp 10) 1⟩,
  ⟨none, some 8, .assign (.tmp 15)⟩,
  ⟨none, some 9, .assign (.tmp 16)⟩]
theorem r59_8_w {E : Env} {fr : Fr} {h : Heap} {Q : Fr → Heap → Prop} : opsW E r59_8 fr h Q = opsW E [⟨none, some 11, .move (.tmp 0)⟩,
  ⟨none, some 12, .move (.tmp 1)⟩,
  ⟨none, some 13, .move (.tmp 2)⟩,
  ⟨none, some 14, .call ⟨.value (.func 77), ⟨[.tmp 11, .tmp 12, .tmp 13]⟩, ⟨[9, 3, 3]⟩⟩⟩,
  ⟨none, some 10, .move (.tmp 14)⟩,
  ⟨none, some 15, .extract (.tmp 10) 0⟩,
  ⟨none, some 16, .extract (.tmp 10) 1⟩,
  ⟨none, some 8, .assign (.tmp 15)⟩,
  ⟨none, some 9, .assign (.tmp 16)⟩] fr h Q := Eq.trans rfl rfl
def s59_9 : GC := .seq (.ops r59_8) s59_7
theorem s59_9_w {E : Env} {nt : Nat} {rd : Option Nat} {fr : Fr} {h : Heap} {Q : Ex → Fr → Heap → Prop} : s59_9.wp E nt rd fr h Q = (GC.seq (.ops r59_8) s59_7).wp E nt rd fr h Q := Eq.trans rfl rfl
def r59_10 : List GO := [⟨none, some 6, .assign (.const (.int .u64 0))⟩,
  ⟨none, some 7, .assign (.const (.nilIface))⟩]
theorem r59_10_w {E : Env} {fr : Fr} {h : Heap} {Q : Fr → Heap → Prop} : opsW E r59_10 fr h Q = opsW E [⟨none, some 6, .assign (.const (.int .u64 0))⟩,
  ⟨none, some 7, .assign (.const (.nilIface))⟩] fr h Q := Eq.trans rfl rfl
def s59_11 : GC := .seq (.ops r59_10) s59_9
theorem s59_11_w {E : Env} {nt : Nat} {rd : Option Nat} {fr : Fr} {h : Heap} {Q : Ex → Fr → Heap → Prop} : s59_11.wp E nt rd fr h Q = (GC.seq (.ops r59_10) s59_9).wp E nt rd fr h Q := Eq.trans rfl rfl
theorem c59 : Tryd.f59.body.bind (clean env 26) = some s59_11 := by kernel_rfl
theorem e59 : env.funs.get 59 = some Tryd.f59 := by kernel_rfl
theorem F59 {args : List Value} {h : Heap} {K : Value → Heap → Prop} (hl : args.length = 3) (w : s59_11.wp env 26 none (setAll args 0 .leaf) h (resK env [.tmp 6, .tmp 7] K)) : Ret env (.func 59) args h K :=
  Ret.of_body' rfl e59 c59 rfl rfl (by rw [hl]; decide) w
/-! math.Ldexp -/
def r60_0 : List GO := [⟨none, some 8, .move (.tmp 0)⟩,
  ⟨none, some 9, .move (.tmp 1)⟩,
  ⟨none, some 10, .call ⟨.value (.func 79), ⟨[.tmp 8, .tmp 9]⟩, ⟨[27, 3]⟩⟩⟩,
  ⟨none, some 4, .assign (.tmp 10)⟩]
theorem r60_0_w {E : Env} {fr : Fr} {h : Heap} {Q : Fr → Heap → Prop} : opsW E r60_0 fr h Q = opsW E [⟨none, some 8, .move (.tmp 0)⟩,
  ⟨none, some 9, .move (.tmp 1)⟩,
  ⟨none, some 10, .call ⟨.value (.func 79), ⟨[.tmp 8, .tmp 9]⟩, ⟨[27, 3]⟩⟩⟩,
  ⟨none, some 4, .assign (.tmp 10)⟩] fr h Q := Eq.trans rfl rfl
def s60_1 : GC := .seq (.ops r60_0) .ret
theorem s60_1_w {E : Env} {nt : Nat} {rd : Option Nat} {fr : Fr} {h : Heap} {Q : Ex → Fr → Heap → Prop} : s60_1.wp E nt rd fr h Q = (GC.seq (.ops r60_0) .ret).wp E nt rd fr h Q := Eq.trans rfl rfl
def r60_2 : List GO := [⟨none, some 5, .move (.tmp 0)⟩,
  ⟨none, some 6, .move (.tmp 1)⟩,
  ⟨none, some 7, .call ⟨.value (.func 78), ⟨[.tmp 5, .tmp 6]⟩, ⟨[27, 3]⟩⟩⟩,
  ⟨none, some 4, .assign (.tmp 7)⟩]
theorem r60_2_w {E : Env} {fr : Fr} {h : Heap} {Q : Fr → Heap → Prop} : opsW E r60_2 fr h Q = opsW E [⟨none, some 5, .move (.tmp 0)⟩,
  ⟨none, some 6, .move (.tmp 1)⟩,
  ⟨none, some 7, .call ⟨.value (.func 78), ⟨[.tmp 5, .tmp 6]⟩, ⟨[27, 3]⟩⟩⟩,
  ⟨none, some 4, .assign (.tmp 7)⟩] fr h Q := Eq.trans rfl rfl
def s60_3 : GC := .seq (.ops r60_2) .ret
theorem s60_3_w {E : Env} {nt : Nat} {rd : Option Nat} {fr : Fr} {h : Heap} {Q : Ex → Fr → Heap → Prop} : s60_3.wp E nt rd fr h Q = (GC.seq (.ops r60_2) .ret).wp E nt rd fr h Q := Eq.trans rfl rfl
def s60_4 : GC := .cond (.const (.bool false)) s60_3 .skip
theorem s60_4_w {E : Env} {nt : Nat} {rd : Option Nat} {fr : Fr} {h : Heap} {Q : Ex → Fr → Heap → Prop} : s60_4.wp E nt rd fr h Q = (GC.cond (.const (.bool false)) s60_3 .skip).wp E nt rd fr h Q := Eq.trans rfl rfl
def s60_5 : GC := .seq (s60_4) s60_1
theorem s60_5_w {E : Env} {nt : Nat} {rd : Option Nat} {fr : Fr} {h : Heap} {Q : Ex → Fr → Heap → Prop} : s60_5.wp E nt rd fr h Q = (GC.seq (s60_4) s60_1).wp E nt rd fr h Q := Eq.trans rfl rfl
def r60_6 : List GO := [⟨none, some 4, .assign (.const (.float .f64 0))⟩]
theorem r60_6_w {E : Env} {fr : Fr} {h : Heap} {Q : Fr → Heap → Prop} : opsW E r60_6 fr h Q = opsW E [⟨none, some 4, .assign (.const (.float .f64 0))⟩] fr h Q := Eq.trans rfl rfl
def s60_7 : GC := .seq (.ops r60_6) s60_5
theorem s60_7_w {E : Env} {nt : Nat} {rd : Option Nat} {fr : Fr} {h : Heap} {Q : Ex → Fr → Heap → Prop} : s60_7.wp E nt rd fr h Q = (GC.seq (.ops r60_6) s60_5).wp E nt rd fr h Q := Eq.trans rfl rfl
theorem c60 : Tryd.f60.body.bind (clean env 11) = some s60_7 := by kernel_rfl
theorem e60 : env.funs.get 60 = some Tryd.f60 := by kernel_rfl
theorem F60 {args : List Value} {h : Heap} {K : Value → Heap → Prop} (hl : args.length = 2) (w : s60_7.wp env 11 none (setAll args 0 .leaf) h (resK env [.tmp 4] K)) : Ret env (.func 60) args h K :=
  Ret.of_body' rfl e60 c60 rfl rfl (by rw [hl]; decide) w
/-! math.IsNaN -/
def r63_0 : List GO := [⟨none, some 3, .move (.tmp 0)⟩,
  ⟨none, some 4, .move (.tmp 0)⟩,
  ⟨none, some 5, .binOp .neq 27 (.tmp 3) (.tmp 4) 27⟩,
  ⟨none, some 2, .assign (.tmp 5)⟩]
theorem r63_0_w {E : Env} {fr : Fr} {h : Heap} {Q : Fr → Heap → Prop} : opsW E r63_0 fr h Q = opsW E [⟨none, some 3, .move (.tmp 0)⟩,
  ⟨none, some 4, .move (.tmp 0)⟩,
  ⟨none, some 5, .binOp .neq 27 (.tmp 3) (.tmp 4) 27⟩,
  ⟨none, some 2, .assign (.tmp 5)⟩] fr h Q := Eq.trans rfl rfl
def s63_1 : GC := .seq (.ops r63_0) .ret
theorem s63_1_w {E : Env} {nt : Nat} {rd : Option Nat} {fr : Fr} {h : Heap} {Q : Ex → Fr → Heap → Prop} : s63_1.wp E nt rd fr h Q = (GC.seq (.ops r63_0) .ret).wp E nt rd fr h Q := Eq.trans rfl rfl
def r63_2 : List GO := [⟨none, some 2, .assign (.const (.bool false))⟩]
theorem r63_2_w {E : Env} {fr : Fr} {h : Heap} {Q : Fr → Heap → Prop} : opsW E r63_2 fr h Q = opsW E [⟨none, some 2, .assign (.const (.bool false))⟩] fr h Q := Eq.trans rfl rfl
def s63_3 : GC := .seq (.ops r63_2) s63_1
theorem s63_3_w {E : Env} {nt : Nat} {rd : Option Nat} {fr : Fr} {h : Heap} {Q : Ex → Fr → Heap → Prop} : s63_3.wp E nt rd fr h Q = (GC.seq (.ops r63_2) s63_1).wp E nt rd fr h Q := Eq.trans rfl rfl
theorem c63 : Tryd.f63.body.bind (clean env 6) = some s63_3 := by kernel_rfl
theorem e63 : env.funs.get 63 = some Tryd.f63 := by kernel_rfl
theorem F63 {args : List Value} {h : Heap} {K : Value → Heap → Prop} (hl : args.length = 1) (w : s63_3.wp env 6 none (setAll args 0 .leaf) h (resK env [.tmp 2] K)) : Ret env (.func 63) args h K :=
  Ret.of_body' rfl e63 c63 rfl rfl (by rw [hl]; decide) w
/-! internal/strconv.Itoa -/
def r66_0 : List GO := [⟨none, some 3, .move (.tmp 0)⟩,
  ⟨none, some 4, .call ⟨.value (.func 83), ⟨[.tmp 3, .const (.int .i64 10)]⟩, ⟨[2, 3]⟩⟩⟩,
  ⟨none, some 2, .assign (.tmp 4)⟩]
theorem r66_0_w {E : Env} {fr : Fr} {h : Heap} {Q : Fr → Heap → Prop} : opsW E r66_0 fr h Q = opsW E [⟨none, some 3, .move (.tmp 0)⟩,
  ⟨none, some 4, .call ⟨.value (.func 83), ⟨[.tmp 3, .const (.int .i64 10)]⟩, ⟨[2, 3]⟩⟩⟩,
  ⟨none, some 2, .assign (.tmp 4)⟩] fr h Q := Eq.trans rfl rfl
def s66_1 : GC := .seq (.ops r66_0) .ret
theorem s66_1_w {E : Env} {nt : Nat} {rd : Option Nat} {fr : Fr} {h : Heap} {Q : Ex → Fr → Heap → Prop} : s66_1.wp E nt rd fr h Q = (GC.seq (.ops r66_0) .ret).wp E nt rd fr h Q := Eq.trans rfl rfl
def r66_2 : List GO := [⟨none, some 2, .assign (.const (.string ⟨⟨[]⟩⟩))⟩]
theorem r66_2_w {E : Env} {fr : Fr} {h : Heap} {Q : Fr → Heap → Prop} : opsW E r66_2 fr h Q = opsW E [⟨none, some 2, .assign (.const (.string ⟨⟨[]⟩⟩))⟩] fr h Q := Eq.trans rfl rfl
def s66_3 : GC := .seq (.ops r66_2) s66_1
theorem s66_3_w {E : Env} {nt : Nat} {rd : Option Nat} {fr : Fr} {h : Heap} {Q : Ex → Fr → Heap → Prop} : s66_3.wp E nt rd fr h Q = (GC.seq (.ops r66_2) s66_1).wp E nt rd fr h Q := Eq.trans rfl rfl
theorem c66 : Tryd.f66.body.bind (clean env 5) = some s66_3 := by kernel_rfl
theorem e66 : env.funs.get 66 = some Tryd.f66 := by kernel_rfl
theorem F66 {args : List Value} {h : Heap} {K : Value → Heap → Prop} (hl : args.length = 1) (w : s66_3.wp env 5 none (setAll args 0 .leaf) h (resK env [.tmp 2] K)) : Ret env (.func 66) args h K :=
  Ret.of_body' rfl e66 c66 rfl rfl (by rw [hl]; decide) w
/-! strconv.Itoa -/
def r49_0 : List GO := [⟨none, some 3, .move (.tmp 0)⟩,
  ⟨none, some 4, .call ⟨.value (.func 66), ⟨[.tmp 3]⟩, ⟨[3]⟩⟩⟩,
  ⟨none, some 2, .assign (.tmp 4)⟩]
theorem r49_0_w {E : Env} {fr : Fr} {h : Heap} {Q : Fr → Heap → Prop} : opsW E r49_0 fr h Q = opsW E [⟨none, some 3, .move (.tmp 0)⟩,
  ⟨none, some 4, .call ⟨.value (.func 66), ⟨[.tmp 3]⟩, ⟨[3]⟩⟩⟩,
  ⟨none, some 2, .assign (.tmp 4)⟩] fr h Q := Eq.trans rfl rfl
def s49_1 : GC := .seq (.ops r49_0) .ret
theorem s49_1_w {E : Env} {nt : Nat} {rd : Option Nat} {fr : Fr} {h : Heap} {Q : Ex → Fr → Heap → Prop} : s49_1.wp E nt rd fr h Q = (GC.seq (.ops r49_0) .ret).wp E nt rd fr h Q := Eq.trans rfl rfl
def r49_2 : List GO := [⟨none, some 2, .assign (.const (.string ⟨⟨[]⟩⟩))⟩]
theorem r49_2_w {E : Env} {fr : Fr} {h : Heap} {Q : Fr → Heap → Prop} : opsW E r49_2 fr h Q = opsW E [⟨none, some 2, .assign (.const (.string ⟨⟨[]⟩⟩))⟩] fr h Q := Eq.trans rfl rfl
def s49_3 : GC := .seq (.ops r49_2) s49_1
theorem s49_3_w {E : Env} {nt : Nat} {rd : Option Nat} {fr : Fr} {h : Heap} {Q : Ex → Fr → Heap → Prop} : s49_3.wp E nt rd fr h Q = (GC.seq (.ops r49_2) s49_1).wp E nt rd fr h Q := Eq.trans rfl rfl
theorem c49 : Tryd.f49.body.bind (clean env 5) = some s49_3 := by kernel_rfl
theorem e49 : env.funs.get 49 = some Tryd.f49 := by kernel_rfl
theorem F49 {args : List Value} {h : Heap} {K : Value → Heap → Prop} (hl : args.length = 1) (w : s49_3.wp env 5 none (setAll args 0 .leaf) h (resK env [.tmp 2] K)) : Ret env (.func 49) args h K :=
  Ret.of_body' rfl e49 c49 rfl rfl (by rw [hl]; decide) w
/-! internal/strconv.FormatUint -/
def r67_0 : List GO := [⟨none, some 31, .move (.tmp 8)⟩,
  ⟨none, some 4, .assign (.tmp 31)⟩]
theorem r67_0_w {E : Env} {fr : Fr} {h : Heap} {Q : Fr → Heap → Prop} : opsW E r67_0 fr h Q = opsW E [⟨none, some 31, .move (.tmp 8)⟩,
  ⟨none, some 4, .assign (.tmp 31)⟩] fr h Q := Eq.trans rfl rfl
def s67_1 : GC := .seq (.ops r67_0) .ret
theorem s67_1_w {E : Env} {nt : Nat} {rd : Option Nat} {fr : Fr} {h : Heap} {Q : Ex → Fr → Heap → Prop} : s67_1.wp E nt rd fr h Q = (GC.seq (.ops r67_0) .ret).wp E nt rd fr h Q := Eq.trans rfl rfl
def r67_2 : List GO := [⟨none, some 26, .move (.tmp 0)⟩,
  ⟨none, some 27, .move (.tmp 1)⟩,
  ⟨none, some 28, .call ⟨.value (.func 87), ⟨[.const (.slice none 0 0), .tmp 26, .tmp 27, .const (.bool false), .const (.bool false)]⟩, ⟨[87, 23, 3, 4, 4]⟩⟩⟩,
  ⟨none, some 25, .move (.tmp 28)⟩,
  ⟨none, some 29, .extract (.tmp 25) 0⟩,
  ⟨none, some 30, .extract (.tmp 25) 1⟩,
  ⟨none, some 7, .assign (.tmp 29)⟩,
  ⟨none, some 8, .assign (.tmp 30)⟩]
theorem r67_2_w {E : Env} {fr : Fr} {h : Heap} {Q : Fr → Heap → Prop} : opsW E r67_2 fr h Q = opsW E [⟨none, some 26, .move (.tmp 0)⟩,
  ⟨none, some 27, .move (.tmp 1)⟩,
  ⟨none, some 28, .call ⟨.value (.func 87), ⟨[.const (.slice none 0 0), .tmp 26, .tmp 27, .const (.bool false), .const (.bool false)]⟩, ⟨[87, 23, 3, 4, 4]⟩⟩⟩,
  ⟨none, some 25, .move (.tmp 28)⟩,
  ⟨none, some 29, .extract (.tmp 25) 0⟩,
  ⟨none, some 30, .extract (.tmp 25) 1⟩,
  ⟨none, some 7, .assign (.tmp 29)⟩,
  ⟨none, some 8, .assign (.tmp 30)⟩] fr h Q := Eq.trans rfl rfl
def s67_3 : GC := .seq (.ops r67_2) s67_1
theorem s67_3_w {E : Env} {nt : Nat} {rd : Option Nat} {fr : Fr} {h : Heap} {Q : Ex → Fr → Heap → Prop} : s67_3.wp E nt rd fr h Q = (GC.seq (.ops r67_2) s67_1).wp E nt rd fr h Q := Eq.trans rfl rfl
def r67_4 : List GO := [⟨none, some 22, .move (.tmp 6)⟩,
  ⟨none, some 23, .slice 99 (.tmp 5) none (some (.tmp 22)) none⟩,
  ⟨none, some 24, .convert 87 9 (.tmp 23)⟩,
  ⟨none, some 4, .assign (.tmp 24)⟩]
theorem r67_4_w {E : Env} {fr : Fr} {h : Heap} {Q : Fr → Heap → Prop} : opsW E r67_4 fr h Q = opsW E [⟨none, some 22, .move (.tmp 6)⟩,
  ⟨none, some 23, .slice 99 (.tmp 5) none (some (.tmp 22)) none⟩,
  ⟨none, some 24, .convert 87 9 (.tmp 23)⟩,
  ⟨none, some 4, .assign (.tmp 24)⟩] fr h Q := Eq.trans rfl rfl
def s67_5 : GC := .seq (.ops r67_4) .ret
theorem s67_5_w {E : Env} {nt : Nat} {rd : Option Nat} {fr : Fr} {h : Heap} {Q : Ex → Fr → Heap → Prop} : s67_5.wp E nt rd fr h Q = (GC.seq (.ops r67_4) .ret).wp E nt rd fr h Q := Eq.trans rfl rfl
def r67_6 : List GO := [⟨none, some 18, .move (.tmp 6)⟩,
  ⟨none, some 19, .slice 99 (.tmp 5) none (some (.tmp 18)) none⟩,
  ⟨none, some 20, .move (.tmp 0)⟩,
  ⟨none, some 21, .call ⟨.value (.func 86), ⟨[.tmp 19, .tmp 20]⟩, ⟨[87, 23]⟩⟩⟩]
theorem r67_6_w {E : Env} {fr : Fr} {h : Heap} {Q : Fr → Heap → Prop} : opsW E r67_6 fr h Q = opsW E [⟨none, some 18, .move (.tmp 6)⟩,
  ⟨none, some 19, .slice 99 (.tmp 5) none (some (.tmp 18)) none⟩,
  ⟨none, some 20, .move (.tmp 0)⟩,
  ⟨none, some 21, .call ⟨.value (.func 86), ⟨[.tmp 19, .tmp 20]⟩, ⟨[87, 23]⟩⟩⟩] fr h Q := Eq.trans rfl rfl
def s67_7 : GC := .seq (.ops r67_6) s67_5
theorem s67_7_w {E : Env} {nt : Nat} {rd : Option Nat} {fr : Fr} {h : Heap} {Q : Ex → Fr → Heap → Prop} : s67_7.wp E nt rd fr h Q = (GC.seq (.ops r67_6) s67_5).wp E nt rd fr h Q := Eq.trans rfl rfl
def r67_8 : List GO := [⟨none, some 16, .move (.tmp 0)⟩,
  ⟨none, some 17, .call ⟨.value (.func 85), ⟨[.tmp 16]⟩, ⟨[23]⟩⟩⟩,
  ⟨none, some 6, .assign (.tmp 17)⟩]
theorem r67_8_w {E : Env} {fr : Fr} {h : Heap} {Q : Fr → Heap → Prop} : opsW E r67_8 fr h Q = opsW E [⟨none, some 16, .move (.tmp 0)⟩,
  ⟨none, some 17, .call ⟨.value (.func 85), ⟨[.tmp 16]⟩, ⟨[23]⟩⟩⟩,
  ⟨none, some 6, .assign (.tmp 17)⟩] fr h Q := Eq.trans rfl rfl
def s67_9 : GC := .seq (.ops r67_8) s67_7
theorem s67_9_w {E : Env} {nt : Nat} {rd : Option Nat} {fr : Fr} {h : Heap} {Q : Ex → Fr → Heap → Prop} : s67_9.wp E nt rd fr h Q = (GC.seq (.ops r67_8) s67_7).wp E nt rd fr h Q := Eq.trans rfl rfl
def r67_10 : List GO := [⟨none, some 5, .alloc 99⟩]
theorem r67_10_w {E : Env} {fr : Fr} {h : Heap} {Q : Fr → Heap → Prop} : opsW E r67_10 fr h Q = opsW E [⟨none, some 5, .alloc 99⟩] fr h Q := Eq.trans rfl rfl
def s67_11 : GC := .seq (.ops r67_10) s67_9
theorem s67_11_w {E : Env} {nt : Nat} {rd : Option Nat} {fr : Fr} {h : Heap} {Q : Ex → Fr → Heap → Prop} : s67_11.wp E nt rd fr h Q = (GC.seq (.ops r67_10) s67_9).wp E nt rd fr h Q := Eq.trans rfl rfl
def r67_12 : List GO := [⟨none, some 13, .move (.tmp 0)⟩,
  ⟨none, some 14, .convert 23 3 (.tmp 13)⟩,
  ⟨none, some 15, .call ⟨.value (.func 84), ⟨[.tmp 14]⟩, ⟨[3]⟩⟩⟩,
  ⟨none, some 4, .assign (.tmp 15)⟩]
theorem r67_12_w {E : Env} {fr : Fr} {h : Heap} {Q : Fr → Heap → Prop} : opsW E r67_12 fr h Q = opsW E [⟨none, some 13, .move (.tmp 0)⟩,
  ⟨none, some 14, .convert 23 3 (.tmp 13)⟩,
  ⟨none, some 15, .call ⟨.value (.func 84), ⟨[.tmp 14]⟩, ⟨[3]⟩⟩⟩,
  ⟨none, some 4, .assign (.tmp 15)⟩] fr h Q := Eq.trans rfl rfl
def s67_13 : GC := .seq (.ops r67_12) .ret
theorem s67_13_w {E : Env} {nt : Nat} {rd : Option Nat} {fr : Fr} {h : Heap} {Q : Ex → Fr → Heap → Prop} : s67_13.wp E nt rd fr h Q = (GC.seq (.ops r67_12) .ret).wp E nt rd fr h Q := Eq.trans rfl rfl
def s67_14 : GC := .cond (.tmp 12) s67_13 .skip
theorem s67_14_w {E : Env} {nt : Nat} {rd : Option Nat} {fr : Fr} {h : Heap} {Q : Ex → Fr → Heap → Prop} : s67_14.wp E nt rd fr h Q = (GC.cond (.tmp 12) s67_13 .skip).wp E nt rd fr h Q := Eq.trans rfl rfl
def r67_15 : List GO := [⟨none, some 11, .move (.tmp 0)⟩,
  ⟨none, some 12, .binOp .lss 23 (.tmp 11) (.const (.int .u64 100)) 23⟩]
theorem r67_15_w {E : Env} {fr : Fr} {h : Heap} {Q : Fr → Heap → Prop} : opsW E r67_15 fr h Q = opsW E [⟨none, some 11, .move (.tmp 0)⟩,
  ⟨none, some 12, .binOp .lss 23 (.tmp 11) (.const (.int .u64 100)) 23⟩] fr h Q := Eq.trans rfl rfl
def s67_16 : GC := .seq (.ops r67_15) s67_14
theorem s67_16_w {E : Env} {nt : Nat} {rd : Option Nat} {fr : Fr} {h : Heap} {Q : Ex → Fr → Heap → Prop} : s67_16.wp E nt rd fr h Q = (GC.seq (.ops r67_15) s67_14).wp E nt rd fr h Q := Eq.trans rfl rfl
def s67_17 : GC := .seq (s67_16) s67_11
theorem s67_17_w {E : Env} {nt : Nat} {rd : Option Nat} {fr : Fr} {h : Heap} {Q : Ex → Fr → Heap → Prop} : s67_17.wp E nt rd fr h Q = (GC.seq (s67_16) s67_11).wp E nt rd fr h Q := Eq.trans rfl rfl
def s67_18 : GC := .cond (.tmp 10) s67_17 .skip
theorem s67_18_w {E : Env} {nt : Nat} {rd : Option Nat} {fr : Fr} {h : Heap} {Q : Ex → Fr → Heap → Prop} : s67_18.wp E nt rd fr h Q = (GC.cond (.tmp 10) s67_17 .skip).wp E nt rd fr h Q := Eq.trans rfl rfl
def r67_19 : List GO := [⟨none, some 9, .move (.tmp 1)⟩,
  ⟨none, some 10, .binOp .eql 3 (.tmp 9) (.const (.int .i64 10)) 3⟩]
theorem r67_19_w {E : Env} {fr : Fr} {h : Heap} {Q : Fr → Heap → Prop} : opsW E r67_19 fr h Q = opsW E [⟨none, some 9, .move (.tmp 1)⟩,
  ⟨none, some 10, .binOp .eql 3 (.tmp 9) (.const (.int .i64 10)) 3⟩] fr h Q := Eq.trans rfl rfl
def s67_20 : GC := .seq (.ops r67_19) s67_18
theorem s67_20_w {E : Env} {nt : Nat} {rd : Option Nat} {fr : Fr} {h : Heap} {Q : Ex → Fr → Heap → Prop} : s67_20.wp E nt rd fr h Q = (GC.seq (.ops r67_19) s67_18).wp E nt rd fr h Q := Eq.trans rfl rfl
def s67_21 : GC := .seq (s67_20) s67_3
theorem s67_21_w {E : Env} {nt : Nat} {rd : Option Nat} {fr : Fr} {h : Heap} {Q : Ex → Fr → Heap → Prop} : s67_21.wp E nt rd fr h Q = (GC.seq (s67_20) s67_3).wp E nt rd fr h Q := Eq.trans rfl rfl
def r67_22 : List GO := [⟨none, some 4, .assign (.const (.string ⟨⟨[]⟩⟩))⟩]
theorem r67_22_w {E : Env} {fr : Fr} {h : Heap} {Q : Fr → Heap → Prop} : opsW E r67_22 fr h Q = opsW E [⟨none, some 4, .assign (.const (.string ⟨⟨[]⟩⟩))⟩] fr h Q := Eq.trans rfl rfl
def s67_23 : GC := .seq (.ops r67_22) s67_21
theorem s67_23_w {E : Env} {nt : Nat} {rd : Option Nat} {fr : Fr} {h : Heap} {Q : Ex → Fr → Heap → Prop} : s67_23.wp E nt rd fr h Q = (GC.seq (.ops r67_22) s67_21).wp E nt rd fr h Q := Eq.trans rfl rfl
theorem c67 : Tryd.f67.body.bind (clean env 32) = some s67_23 := by kernel_rfl
theorem e67 : env.funs.get 67 = some Tryd.f67 := by kernel_rfl
theorem F67 {args : List Value} {h : Heap} {K : Value → Heap → Prop} (hl : args.length = 2) (w : s67_23.wp env 32 none (setAll args 0 .leaf) h (resK env [.tmp 4] K)) : Ret env (.func 67) args h K :=
  Ret.of_body' rfl e67 c67 rfl rfl (by rw [hl]; decide) w
/-! math.IsInf -/
def r71_0 : List GO := [⟨none, some 13, .move (.tmp 0)⟩,
  ⟨none, some 14, .binOp .gtr 27 (.tmp 13) (.const (.float .f64 9218868437227405311)) 27⟩,
  ⟨none, some 4, .assign (.tmp 14)⟩]
theorem r71_0_w {E : Env} {fr : Fr} {h : Heap} {Q : Fr → Heap → Prop} : opsW E r71_0 fr h Q = opsW E [⟨none, some 13, .move (.tmp 0)⟩,
  ⟨none, some 14, .binOp .gtr 27 (.tmp 13) (.const (.float .f64 9218868437227405311)) 27⟩,
  ⟨none, some 4, .assign (.tmp 14)⟩] fr h Q := Eq.trans rfl rfl
def s71_1 : GC := .seq (.ops r71_0) .ret
theorem s71_1_w {E : Env} {nt : Nat} {rd : Option Nat} {fr : Fr} {h : Heap} {Q : Ex → Fr → Heap → Prop} : s71_1.wp E nt rd fr h Q = (GC.seq (.ops r71_0) .ret).wp E nt rd fr h Q := Eq.trans rfl rfl
def r71_2 : List GO := [⟨none, some 7, .move (.tmp 0)⟩,
  ⟨none, some 8, .call ⟨.value (.func 90), ⟨[.tmp 7]⟩, ⟨[27]⟩⟩⟩,
  ⟨none, some 0, .assign (.tmp 8)⟩]
theorem r71_2_w {E : Env} {fr : Fr} {h : Heap} {Q : Fr → Heap → Prop} : opsW E r71_2 fr h Q = opsW E [⟨none, some 7, .move (.tmp 0)⟩,
  ⟨none, some 8, .call ⟨.value (.func 90), ⟨[.tmp 7]⟩, ⟨[27]⟩⟩⟩,
  ⟨none, some 0, .assign (.tmp 8)⟩] fr h Q := Eq.trans rfl rfl
def s71_3 : GC := .ops r71_2
theorem s71_3_w {E : Env} {nt : Nat} {rd : Option Nat} {fr : Fr} {h : Heap} {Q : Ex → Fr → Heap → Prop} : s71_3.wp E nt rd fr h Q = (GC.ops r71_2).wp E nt rd fr h Q := Eq.trans rfl rfl
def r71_4 : List GO := [⟨none, some 11, .move (.tmp 0)⟩,
  ⟨none, some 12, .unOp .neg 27 (.tmp 11)⟩,
  ⟨none, some 0, .assign (.tmp 12)⟩]
theorem r71_4_w {E : Env} {fr : Fr} {h : Heap} {Q : Fr → Heap → Prop} : opsW E r71_4 fr h Q = opsW E [⟨none, some 11, .move (.tmp 0)⟩,
  ⟨none, some 12, .unOp .neg 27 (.tmp 11)⟩,
  ⟨none, some 0, .assign (.tmp 12)⟩] fr h Q := Eq.trans rfl rfl
def s71_5 : GC := .ops r71_4
theorem s71_5_w {E : Env} {nt : Nat} {rd : Option Nat} {fr : Fr} {h : Heap} {Q : Ex → Fr → Heap → Prop} : s71_5.wp E nt rd fr h Q = (GC.ops r71_4).wp E nt rd fr h Q := Eq.trans rfl rfl
def s71_6 : GC := .cond (.tmp 10) s71_5 .skip
theorem s71_6_w {E : Env} {nt : Nat} {rd : Option Nat} {fr : Fr} {h : Heap} {Q : Ex → Fr → Heap → Prop} : s71_6.wp E nt rd fr h Q = (GC.cond (.tmp 10) s71_5 .skip).wp E nt rd fr h Q := Eq.trans rfl rfl
def r71_7 : List GO := [⟨none, some 9, .move (.tmp 1)⟩,
  ⟨none, some 10, .binOp .lss 3 (.tmp 9) (.const (.int .i64 0)) 3⟩]
theorem r71_7_w {E : Env} {fr : Fr} {h : Heap} {Q : Fr → Heap → Prop} : opsW E r71_7 fr h Q = opsW E [⟨none, some 9, .move (.tmp 1)⟩,
  ⟨none, some 10, .binOp .lss 3 (.tmp 9) (.const (.int .i64 0)) 3⟩] fr h Q := Eq.trans rfl rfl
def s71_8 : GC := .seq (.ops r71_7) s71_6
theorem s71_8_w {E : Env} {nt : Nat} {rd : Option Nat} {fr : Fr} {h : Heap} {Q : Ex → Fr → Heap → Prop} : s71_8.wp E nt rd fr h Q = (GC.seq (.ops r71_7) s71_6).wp E nt rd fr h Q := Eq.trans rfl rfl
def s71_9 : GC := .cond (.tmp 6) s71_3 s71_8
theorem s71_9_w {E : Env} {nt : Nat} {rd : Option Nat} {fr : Fr} {h : Heap} {Q : Ex → Fr → Heap → Prop} : s71_9.wp E nt rd fr h Q = (GC.cond (.tmp 6) s71_3 s71_8).wp E nt rd fr h Q := Eq.trans rfl rfl
def r71_10 : List GO := [⟨none, some 5, .move (.tmp 1)⟩,
  ⟨none, some 6, .binOp .eql 3 (.tmp 5) (.const (.int .i64 0)) 3⟩]
theorem r71_10_w {E : Env} {fr : Fr} {h : Heap} {Q : Fr → Heap → Prop} : opsW E r71_10 fr h Q = opsW E [⟨none, some 5, .move (.tmp 1)⟩,
  ⟨none, some 6, .binOp .eql 3 (.tmp 5) (.const (.int .i64 0)) 3⟩] fr h Q := Eq.trans rfl rfl
def s71_11 : GC := .seq (.ops r71_10) s71_9
theorem s71_11_w {E : Env} {nt : Nat} {rd : Option Nat} {fr : Fr} {h : Heap} {Q : Ex → Fr → Heap → Prop} : s71_11.wp E nt rd fr h Q = (GC.seq (.ops r71_10) s71_9).wp E nt rd fr h Q := Eq.trans rfl rfl
def s71_12 : GC := .seq (s71_11) s71_1
theorem s71_12_w {E : Env} {nt : Nat} {rd : Option Nat} {fr : Fr} {h : Heap} {Q : Ex → Fr → Heap → Prop} : s71_12.wp E nt rd fr h Q = (GC.seq (s71_11) s71_1).wp E nt rd fr h Q := Eq.trans rfl rfl
def r71_13 : List GO := [⟨none, some 4, .assign (.const (.bool false))⟩]
theorem r71_13_w {E : Env} {fr : Fr} {h : Heap} {Q : Fr → Heap → Prop} : opsW E r71_13 fr h Q = opsW E [⟨none, some 4, .assign (.const (.bool false))⟩] fr h Q := Eq.trans rfl rfl
def s71_14 : GC := .seq (.ops r71_13) s71_12
theorem s71_14_w {E : Env} {nt : Nat} {rd : Option Nat} {fr : Fr} {h : Heap} {Q : Ex → Fr → Heap → Prop} : s71_14.wp E nt rd fr h Q = (GC.seq (.ops r71_13) s71_12).wp E nt rd fr h Q := Eq.trans rfl rfl
theorem c71 : Tryd.f71.body.bind (clean env 15) = some s71_14 := by kernel_rfl
theorem e71 : env.funs.get 71 = some Tryd.f71 := by kernel_rfl
theorem F71 {args : List Value} {h : Heap} {K : Value → Heap → Prop} (hl : args.length = 2) (w : s71_14.wp env 15 none (setAll args 0 .leaf) h (resK env [.tmp 4] K)) : Ret env (.func 71) args h K :=
  Ret.of_body' rfl e71 c71 rfl rfl (by rw [hl]; decide) w
/-! math.Signbit -/
def r72_0 : List GO := [⟨none, some 3, .move (.tmp 0)⟩,
  ⟨none, some 4, .call ⟨.value (.func 18), ⟨[.tmp 3]⟩, ⟨[27]⟩⟩⟩,
  ⟨none, some 5, .convert 23 2 (.tmp 4)⟩,
  ⟨none, some 6, .binOp .lss 2 (.tmp 5) (.const (.int .i64 0)) 2⟩,
  ⟨none, some 2, .assign (.tmp 6)⟩]
theorem r72_0_w {E : Env} {fr : Fr} {h : Heap} {Q : Fr → Heap → Prop} : opsW E r72_0 fr h Q = opsW E [⟨none, some 3, .move (.tmp 0)⟩,
  ⟨none, some 4, .call ⟨.value (.func 18), ⟨[.tmp 3]⟩, ⟨[27]⟩⟩⟩,
  ⟨none, some 5, .convert 23 2 (.tmp 4)⟩,
  ⟨none, some 6, .binOp .lss 2 (.tmp 5) (.const (.int .i64 0)) 2⟩,
  ⟨none, some 2, .assign (.tmp 6)⟩] fr h Q := Eq.trans rfl rfl
def s72_1 : GC := .seq (.ops r72_0) .ret
theorem s72_1_w {E : Env} {nt : Nat} {rd : Option Nat} {fr : Fr} {h : Heap} {Q : Ex → Fr → Heap → Prop} : s72_1.wp E nt rd fr h Q = (GC.seq (.ops r72_0) .ret).wp E nt rd fr h Q := Eq.trans rfl rfl
def r72_2 : List GO := [⟨none, some 2, .assign (.const (.bool false))⟩]
theorem r72_2_w {E : Env} {fr : Fr} {h : Heap} {Q : Fr → Heap → Prop} : opsW E r72_2 fr h Q = opsW E [⟨none, some 2, .assign (.const (.bool false))⟩] fr h Q := Eq.trans rfl rfl
def s72_3 : GC := .seq (.ops r72_2) s72_1
theorem s72_3_w {E : Env} {nt : Nat} {rd : Option Nat} {fr : Fr} {h : Heap} {Q : Ex → Fr → Heap → Prop} : s72_3.wp E nt rd fr h Q = (GC.seq (.ops r72_2) s72_1).wp E nt rd fr h Q := Eq.trans rfl rfl
theorem c72 : Tryd.f72.body.bind (clean env 7) = some s72_3 := by kernel_rfl
theorem e72 : env.funs.get 72 = some Tryd.f72 := by kernel_rfl
theorem F72 {args : List Value} {h : Heap} {K : Value → Heap → Prop} (hl : args.length = 1) (w : s72_3.wp env 7 none (setAll args 0 .leaf) h (resK env [.tmp 2] K)) : Ret env (.func 72) args h K :=
  Ret.of_body' rfl e72 c72 rfl rfl (by rw [hl]; decide) w
/-! internal/strconv.ParseUint -/
def r77_0 : List GO := [⟨none, some 171, .move (.tmp 13)⟩,
  ⟨none, some 6, .assign (.tmp 171)⟩,
  ⟨none, some 7, .assign (.const (.nilIface))⟩]
theorem r77_0_w {E : Env} {fr : Fr} {h : Heap} {Q : Fr → Heap → Prop} : opsW E r77_0 fr h Q = opsW E [⟨none, some 171, .move (.tmp 13)⟩,
  ⟨none, some 6, .assign (.tmp 171)⟩,
  ⟨none, some 7, .assign (.const (.nilIface))⟩] fr h Q := Eq.trans rfl rfl
def s77_1 : GC := .seq (.ops r77_0) .ret
theorem s77_1_w {E : Env} {nt : Nat} {rd : Option Nat} {fr : Fr} {h : Heap} {Q : Ex → Fr → Heap → Prop} : s77_1.wp E nt rd fr h Q = (GC.seq (.ops r77_0) .ret).wp E nt rd fr h Q := Eq.trans rfl rfl
def r77_2 : List GO := [⟨none, some 170, .makeInterface 107 (.const (.int .i64 2))⟩,
  ⟨none, some 6, .assign (.const (.int .u64 0))⟩,
  ⟨none, some 7, .assign (.tmp 170)⟩]
theorem r77_2_w {E : Env} {fr : Fr} {h : Heap} {Q : Fr → Heap → Prop} : opsW E r77_2 fr h Q = opsW E [⟨none, some 170, .makeInterface 107 (.const (.int .i64 2))⟩,
  ⟨none, some 6, .assign (.const (.int .u64 0))⟩,
  ⟨none, some 7, .assign (.tmp 170)⟩] fr h Q := Eq.trans rfl rfl
def s77_3 : GC := .seq (.ops r77_2) .ret
theorem s77_3_w {E : Env} {nt : Nat} {rd : Option Nat} {fr : Fr} {h : Heap} {Q : Ex → Fr → Heap → Prop} : s77_3.wp E nt rd fr h Q = (GC.seq (.ops r77_2) .ret).wp E nt rd fr h Q := Eq.trans rfl rfl
def s77_4 : GC := .cond (.tmp 169) s77_3 .skip
theorem s77_4_w {E : Env} {nt : Nat} {rd : Option Nat} {fr : Fr} {h : Heap} {Q : Ex → Fr → Heap → Prop} : s77_4.wp E nt rd fr h Q = (GC.cond (.tmp 169) s77_3 .skip).wp E nt rd fr h Q := Eq.trans rfl rfl
def r77_5 : List GO := [⟨none, some 164, .move (.tmp 12)⟩,
  ⟨none, some 165, .move (.tmp 164)⟩,
  ⟨some (165, true), some 166, .move (.tmp 9)⟩,
  ⟨some (165, true), some 167, .call ⟨.value (.func 99), ⟨[.tmp 166]⟩, ⟨[9]⟩⟩⟩,
  ⟨some (165, true), some 168, .unOp .not 4 (.tmp 167)⟩,
  ⟨none, some 169, .pick (.tmp 165) (.tmp 168) (.const (.bool false))⟩]
theorem r77_5_w {E : Env} {fr : Fr} {h : Heap} {Q : Fr → Heap → Prop} : opsW E r77_5 fr h Q = opsW E [⟨none, some 164, .move (.tmp 12)⟩,
  ⟨none, some 165, .move (.tmp 164)⟩,
  ⟨some (165, true), some 166, .move (.tmp 9)⟩,
  ⟨some (165, true), some 167, .call ⟨.value (.func 99), ⟨[.tmp 166]⟩, ⟨[9]⟩⟩⟩,
  ⟨some (165, true), some 168, .unOp .not 4 (.tmp 167)⟩,
  ⟨none, some 169, .pick (.tmp 165) (.tmp 168) (.const (.bool false))⟩] fr h Q := Eq.trans rfl rfl
def s77_6 : GC := .seq (.ops r77_5) s77_4
theorem s77_6_w {E : Env} {nt : Nat} {rd : Option Nat} {fr : Fr} {h : Heap} {Q : Ex → Fr → Heap → Prop} : s77_6.wp E nt rd fr h Q = (GC.seq (.ops r77_5) s77_4).wp E nt rd fr h Q := Eq.trans rfl rfl
def s77_7 : GC := .seq (s77_6) s77_1
theorem s77_7_w {E : Env} {nt : Nat} {rd : Option Nat} {fr : Fr} {h : Heap} {Q : Ex → Fr → Heap → Prop} : s77_7.wp E nt rd fr h Q = (GC.seq (s77_6) s77_1).wp E nt rd fr h Q := Eq.trans rfl rfl
def r77_8 : List GO := [⟨none, some 163, .binOp .add 3 (.tmp 101) (.const (.int .i64 1)) 3⟩,
  ⟨none, some 101, .move (.tmp 163)⟩]
theorem r77_8_w {E : Env} {fr : Fr} {h : Heap} {Q : Fr → Heap → Prop} : opsW E r77_8 fr h Q = opsW E [⟨none, some 163, .binOp .add 3 (.tmp 101) (.const (.int .i64 1)) 3⟩,
  ⟨none, some 101, .move (.tmp 163)⟩] fr h Q := Eq.trans rfl rfl
def s77_9 : GC := .ops r77_8
theorem s77_9_w {E : Env} {nt : Nat} {rd : Option Nat} {fr : Fr} {h : Heap} {Q : Ex → Fr → Heap → Prop} : s77_9.wp E nt rd fr h Q = (GC.ops r77_8).wp E nt rd fr h Q := Eq.trans rfl rfl
def r77_10 : List GO := [⟨none, some 162, .move (.tmp 17)⟩,
  ⟨none, some 13, .assign (.tmp 162)⟩]
theorem r77_10_w {E : Env} {fr : Fr} {h : Heap} {Q : Fr → Heap → Prop} : opsW E r77_10 fr h Q = opsW E [⟨none, some 162, .move (.tmp 17)⟩,
  ⟨none, some 13, .assign (.tmp 162)⟩] fr h Q := Eq.trans rfl rfl
def s77_11 : GC := .ops r77_10
theorem s77_11_w {E : Env} {nt : Nat} {rd : Option Nat} {fr : Fr} {h : Heap} {Q : Ex → Fr → Heap → Prop} : s77_11.wp E nt rd fr h Q = (GC.ops r77_10).wp E nt rd fr h Q := Eq.trans rfl rfl
def r77_12 : List GO := [⟨none, some 160, .move (.tmp 11)⟩,
  ⟨none, some 161, .makeInterface 107 (.const (.int .i64 1))⟩,
  ⟨none, some 6, .assign (.tmp 160)⟩,
  ⟨none, some 7, .assign (.tmp 161)⟩]
theorem r77_12_w {E : Env} {fr : Fr} {h : Heap} {Q : Fr → Heap → Prop} : opsW E r77_12 fr h Q = opsW E [⟨none, some 160, .move (.tmp 11)⟩,
  ⟨none, some 161, .makeInterface 107 (.const (.int .i64 1))⟩,
  ⟨none, some 6, .assign (.tmp 160)⟩,
  ⟨none, some 7, .assign (.tmp 161)⟩] fr h Q := Eq.trans rfl rfl
def s77_13 : GC := .seq (.ops r77_12) .ret
theorem s77_13_w {E : Env} {nt : Nat} {rd : Option Nat} {fr : Fr} {h : Heap} {Q : Ex → Fr → Heap → Prop} : s77_13.wp E nt rd fr h Q = (GC.seq (.ops r77_12) .ret).wp E nt rd fr h Q := Eq.trans rfl rfl
def s77_14 : GC := .cond (.tmp 159) s77_13 .skip
theorem s77_14_w {E : Env} {nt : Nat} {rd : Option Nat} {fr : Fr} {h : Heap} {Q : Ex → Fr → Heap → Prop} : s77_14.wp E nt rd fr h Q = (GC.cond (.tmp 159) s77_13 .skip).wp E nt rd fr h Q := Eq.trans rfl rfl
def r77_15 : List GO := [⟨none, some 152, .move (.tmp 17)⟩,
  ⟨none, some 153, .move (.tmp 13)⟩,
  ⟨none, some 154, .binOp .lss 23 (.tmp 152) (.tmp 153) 23⟩,
  ⟨none, some 155, .move (.tmp 154)⟩,
  ⟨some (155, false), some 156, .move (.tmp 17)⟩,
  ⟨some (155, false), some 157, .move (.tmp 11)⟩,
  ⟨some (155, false), some 158, .binOp .gtr 23 (.tmp 156) (.tmp 157) 23⟩,
  ⟨none, some 159, .pick (.tmp 155) (.const (.bool true)) (.tmp 158)⟩]
theorem r77_15_w {E : Env} {fr : Fr} {h : Heap} {Q : Fr → Heap → Prop} : opsW E r77_15 fr h Q = opsW E [⟨none, some 152, .move (.tmp 17)⟩,
  ⟨none, some 153, .move (.tmp 13)⟩,
  ⟨none, some 154, .binOp .lss 23 (.tmp 152) (.tmp 153) 23⟩,
  ⟨none, some 155, .move (.tmp 154)⟩,
  ⟨some (155, false), some 156, .move (.tmp 17)⟩,
  ⟨some (155, false), some 157, .move (.tmp 11)⟩,
  ⟨some (155, false), some 158, .binOp .gtr 23 (.tmp 156) (.tmp 157) 23⟩,
  ⟨none, some 159, .pick (.tmp 155) (.const (.bool true)) (.tmp 158)⟩] fr h Q := Eq.trans rfl rfl
def s77_16 : GC := .seq (.ops r77_15) s77_14
theorem s77_16_w {E : Env} {nt : Nat} {rd : Option Nat} {fr : Fr} {h : Heap} {Q : Ex → Fr → Heap → Prop} : s77_16.wp E nt rd fr h Q = (GC.seq (.ops r77_15) s77_14).wp E nt rd fr h Q := Eq.trans rfl rfl
def s77_17 : GC := .seq (s77_16) s77_11
theorem s77_17_w {E : Env} {nt : Nat} {rd : Option Nat} {fr : Fr} {h : Heap} {Q : Ex → Fr → Heap → Prop} : s77_17.wp E nt rd fr h Q = (GC.seq (s77_16) s77_11).wp E nt rd fr h Q := Eq.trans rfl rfl
def r77_18 : List GO := [⟨none, some 148, .move (.tmp 13)⟩,
  ⟨none, some 149, .move (.tmp 16)⟩,
  ⟨none, some 150, .convert 5 23 (.tmp 149)⟩,
  ⟨none, some 151, .binOp .add 23 (.tmp 148) (.tmp 150) 23⟩,
  ⟨none, some 17, .assign (.tmp 151)⟩]
theorem r77_18_w {E : Env} {fr : Fr} {h : Heap} {Q : Fr → Heap → Prop} : opsW E r77_18 fr h Q = opsW E [⟨none, some 148, .move (.tmp 13)⟩,
  ⟨none, some 149, .move (.tmp 16)⟩,
  ⟨none, some 150, .convert 5 23 (.tmp 149)⟩,
  ⟨none, some 151, .binOp .add 23 (.tmp 148) (.tmp 150) 23⟩,
  ⟨none, some 17, .assign (.tmp 151)⟩] fr h Q := Eq.trans rfl rfl
def s77_19 : GC := .seq (.ops r77_18) s77_17
theorem s77_19_w {E : Env} {nt : Nat} {rd : Option Nat} {fr : Fr} {h : Heap} {Q : Ex → Fr → Heap → Prop} : s77_19.wp E nt rd fr h Q = (GC.seq (.ops r77_18) s77_17).wp E nt rd fr h Q := Eq.trans rfl rfl
def r77_20 : List GO := [⟨none, some 144, .move (.tmp 13)⟩,
  ⟨none, some 145, .move (.tmp 1)⟩,
  ⟨none, some 146, .convert 3 23 (.tmp 145)⟩,
  ⟨none, some 147, .binOp .mul 23 (.tmp 144) (.tmp 146) 23⟩,
  ⟨none, some 13, .assign (.tmp 147)⟩]
theorem r77_20_w {E : Env} {fr : Fr} {h : Heap} {Q : Fr → Heap → Prop} : opsW E r77_20 fr h Q = opsW E [⟨none, some 144, .move (.tmp 13)⟩,
  ⟨none, some 145, .move (.tmp 1)⟩,
  ⟨none, some 146, .convert 3 23 (.tmp 145)⟩,
  ⟨none, some 147, .binOp .mul 23 (.tmp 144) (.tmp 146) 23⟩,
  ⟨none, some 13, .assign (.tmp 147)⟩] fr h Q := Eq.trans rfl rfl
def s77_21 : GC := .seq (.ops r77_20) s77_19
theorem s77_21_w {E : Env} {nt : Nat} {rd : Option Nat} {fr : Fr} {h : Heap} {Q : Ex → Fr → Heap → Prop} : s77_21.wp E nt rd fr h Q = (GC.seq (.ops r77_20) s77_19).wp E nt rd fr h Q := Eq.trans rfl rfl
def r77_22 : List GO := [⟨none, some 142, .move (.tmp 11)⟩,
  ⟨none, some 143, .makeInterface 107 (.const (.int .i64 1))⟩,
  ⟨none, some 6, .assign (.tmp 142)⟩,
  ⟨none, some 7, .assign (.tmp 143)⟩]
theorem r77_22_w {E : Env} {fr : Fr} {h : Heap} {Q : Fr → Heap → Prop} : opsW E r77_22 fr h Q = opsW E [⟨none, some 142, .move (.tmp 11)⟩,
  ⟨none, some 143, .makeInterface 107 (.const (.int .i64 1))⟩,
  ⟨none, some 6, .assign (.tmp 142)⟩,
  ⟨none, some 7, .assign (.tmp 143)⟩] fr h Q := Eq.trans rfl rfl
def s77_23 : GC := .seq (.ops r77_22) .ret
theorem s77_23_w {E : Env} {nt : Nat} {rd : Option Nat} {fr : Fr} {h : Heap} {Q : Ex → Fr → Heap → Prop} : s77_23.wp E nt rd fr h Q = (GC.seq (.ops r77_22) .ret).wp E nt rd fr h Q := Eq.trans rfl rfl
def s77_24 : GC := .cond (.tmp 141) s77_23 .skip
theorem s77_24_w {E : Env} {nt : Nat} {rd : Option Nat} {fr : Fr} {h : Heap} {Q : Ex → Fr → Heap → Prop} : s77_24.wp E nt rd fr h Q = (GC.cond (.tmp 141) s77_23 .skip).wp E nt rd fr h Q := Eq.trans rfl rfl
def r77_25 : List GO := [⟨none, some 139, .move (.tmp 13)⟩,
  ⟨none, some 140, .move (.tmp 10)⟩,
  ⟨none, some 141, .binOp .geq 23 (.tmp 139) (.tmp 140) 23⟩]
theorem r77_25_w {E : Env} {fr : Fr} {h : Heap} {Q : Fr → Heap → Prop} : opsW E r77_25 fr h Q = opsW E [⟨none, some 139, .move (.tmp 13)⟩,
  ⟨none, some 140, .move (.tmp 10)⟩,
  ⟨none, some 141, .binOp .geq 23 (.tmp 139) (.tmp 140) 23⟩] fr h Q := Eq.trans rfl rfl
def s77_26 : GC := .seq (.ops r77_25) s77_24
theorem s77_26_w {E : Env} {nt : Nat} {rd : Option Nat} {fr : Fr} {h : Heap} {Q : Ex → Fr → Heap → Prop} : s77_26.wp E nt rd fr h Q = (GC.seq (.ops r77_25) s77_24).wp E nt rd fr h Q := Eq.trans rfl rfl
def s77_27 : GC := .seq (s77_26) s77_21
theorem s77_27_w {E : Env} {nt : Nat} {rd : Option Nat} {fr : Fr} {h : Heap} {Q : Ex → Fr → Heap → Prop} : s77_27.wp E nt rd fr h Q = (GC.seq (s77_26) s77_21).wp E nt rd fr h Q := Eq.trans rfl rfl
def r77_28 : List GO := [⟨none, some 138, .makeInterface 107 (.const (.int .i64 2))⟩,
  ⟨none, some 6, .assign (.const (.int .u64 0))⟩,
  ⟨none, some 7, .assign (.tmp 138)⟩]
theorem r77_28_w {E : Env} {fr : Fr} {h : Heap} {Q : Fr → Heap → Prop} : opsW E r77_28 fr h Q = opsW E [⟨none, some 138, .makeInterface 107 (.const (.int .i64 2))⟩,
  ⟨none, some 6, .assign (.const (.int .u64 0))⟩,
  ⟨none, some 7, .assign (.tmp 138)⟩] fr h Q := Eq.trans rfl rfl
def s77_29 : GC := .seq (.ops r77_28) .ret
theorem s77_29_w {E : Env} {nt : Nat} {rd : Option Nat} {fr : Fr} {h : Heap} {Q : Ex → Fr → Heap → Prop} : s77_29.wp E nt rd fr h Q = (GC.seq (.ops r77_28) .ret).wp E nt rd fr h Q := Eq.trans rfl rfl
def s77_30 : GC := .cond (.tmp 137) s77_29 .skip
theorem s77_30_w {E : Env} {nt : Nat} {rd : Option Nat} {fr : Fr} {h : Heap} {Q : Ex → Fr → Heap → Prop} : s77_30.wp E nt rd fr h Q = (GC.cond (.tmp 137) s77_29 .skip).wp E nt rd fr h Q := Eq.trans rfl rfl
def r77_31 : List GO := [⟨none, some 134, .move (.tmp 16)⟩,
  ⟨none, some 135, .move (.tmp 1)⟩,
  ⟨none, some 136, .convert 3 5 (.tmp 135)⟩,
  ⟨none, some 137, .binOp .geq 5 (.tmp 134) (.tmp 136) 5⟩]
theorem r77_31_w {E : Env} {fr : Fr} {h : Heap} {Q : Fr → Heap → Prop} : opsW E r77_31 fr h Q = opsW E [⟨none, some 134, .move (.tmp 16)⟩,
  ⟨none, some 135, .move (.tmp 1)⟩,
  ⟨none, some 136, .convert 3 5 (.tmp 135)⟩,
  ⟨none, some 137, .binOp .geq 5 (.tmp 134) (.tmp 136) 5⟩] fr h Q := Eq.trans rfl rfl
def s77_32 : GC := .seq (.ops r77_31) s77_30
theorem s77_32_w {E : Env} {nt : Nat} {rd : Option Nat} {fr : Fr} {h : Heap} {Q : Ex → Fr → Heap → Prop} : s77_32.wp E nt rd fr h Q = (GC.seq (.ops r77_31) s77_30).wp E nt rd fr h Q := Eq.trans rfl rfl
def s77_33 : GC := .seq (s77_32) s77_27
theorem s77_33_w {E : Env} {nt : Nat} {rd : Option Nat} {fr : Fr} {h : Heap} {Q : Ex → Fr → Heap → Prop} : s77_33.wp E nt rd fr h Q = (GC.seq (s77_32) s77_27).wp E nt rd fr h Q := Eq.trans rfl rfl
def r77_34 : List GO := [⟨none, some 12, .assign (.const (.bool true))⟩]
theorem r77_34_w {E : Env} {fr : Fr} {h : Heap} {Q : Fr → Heap → Prop} : opsW E r77_34 fr h Q = opsW E [⟨none, some 12, .assign (.const (.bool true))⟩] fr h Q := Eq.trans rfl rfl
def s77_35 : GC := .seq (.ops r77_34) (.exit 4)
theorem s77_35_w {E : Env} {nt : Nat} {rd : Option Nat} {fr : Fr} {h : Heap} {Q : Ex → Fr → Heap → Prop} : s77_35.wp E nt rd fr h Q = (GC.seq (.ops r77_34) (.exit 4)).wp E nt rd fr h Q := Eq.trans rfl rfl
def r77_36 : List GO := [⟨none, some 119, .move (.tmp 15)⟩,
  ⟨none, some 120, .binOp .sub 5 (.tmp 119) (.const (.int .u8 48)) 5⟩,
  ⟨none, some 16, .assign (.tmp 120)⟩]
theorem r77_36_w {E : Env} {fr : Fr} {h : Heap} {Q : Fr → Heap → Prop} : opsW E r77_36 fr h Q = opsW E [⟨none, some 119, .move (.tmp 15)⟩,
  ⟨none, some 120, .binOp .sub 5 (.tmp 119) (.const (.int .u8 48)) 5⟩,
  ⟨none, some 16, .assign (.tmp 120)⟩] fr h Q := Eq.trans rfl rfl
def s77_37 : GC := .ops r77_36
theorem s77_37_w {E : Env} {nt : Nat} {rd : Option Nat} {fr : Fr} {h : Heap} {Q : Ex → Fr → Heap → Prop} : s77_37.wp E nt rd fr h Q = (GC.ops r77_36).wp E nt rd fr h Q := Eq.trans rfl rfl
def r77_38 : List GO := [⟨none, some 130, .move (.tmp 15)⟩,
  ⟨none, some 131, .call ⟨.value (.func 98), ⟨[.tmp 130]⟩, ⟨[5]⟩⟩⟩,
  ⟨none, some 132, .binOp .sub 5 (.tmp 131) (.const (.int .u8 97)) 5⟩,
  ⟨none, some 133, .binOp .add 5 (.tmp 132) (.const (.int .u8 10)) 5⟩,
  ⟨none, some 16, .assign (.tmp 133)⟩]
theorem r77_38_w {E : Env} {fr : Fr} {h : Heap} {Q : Fr → Heap → Prop} : opsW E r77_38 fr h Q = opsW E [⟨none, some 130, .move (.tmp 15)⟩,
  ⟨none, some 131, .call ⟨.value (.func 98), ⟨[.tmp 130]⟩, ⟨[5]⟩⟩⟩,
  ⟨none, some 132, .binOp .sub 5 (.tmp 131) (.const (.int .u8 97)) 5⟩,
  ⟨none, some 133, .binOp .add 5 (.tmp 132) (.const (.int .u8 10)) 5⟩,
  ⟨none, some 16, .assign (.tmp 133)⟩] fr h Q := Eq.trans rfl rfl
def s77_39 : GC := .ops r77_38
theorem s77_39_w {E : Env} {nt : Nat} {rd : Option Nat} {fr : Fr} {h : Heap} {Q : Ex → Fr → Heap → Prop} : s77_39.wp E nt rd fr h Q = (GC.ops r77_38).wp E nt rd fr h Q := Eq.trans rfl rfl
def r77_40 : List GO := [⟨none, some 105, .makeInterface 107 (.const (.int .i64 2))⟩,
  ⟨none, some 6, .assign (.const (.int .u64 0))⟩,
  ⟨none, some 7, .assign (.tmp 105)⟩]
theorem r77_40_w {E : Env} {fr : Fr} {h : Heap} {Q : Fr → Heap → Prop} : opsW E r77_40 fr h Q = opsW E [⟨none, some 105, .makeInterface 107 (.const (.int .i64 2))⟩,
  ⟨none, some 6, .assign (.const (.int .u64 0))⟩,
  ⟨none, some 7, .assign (.tmp 105)⟩] fr h Q := Eq.trans rfl rfl
def s77_41 : GC := .seq (.ops r77_40) .ret
theorem s77_41_w {E : Env} {nt : Nat} {rd : Option Nat} {fr : Fr} {h : Heap} {Q : Ex → Fr → Heap → Prop} : s77_41.wp E nt rd fr h Q = (GC.seq (.ops r77_40) .ret).wp E nt rd fr h Q := Eq.trans rfl rfl
def s77_42 : GC := .cond (.tmp 121) s77_39 s77_41
theorem s77_42_w {E : Env} {nt : Nat} {rd : Option Nat} {fr : Fr} {h : Heap} {Q : Ex → Fr → Heap → Prop} : s77_42.wp E nt rd fr h Q = (GC.cond (.tmp 121) s77_39 s77_41).wp E nt rd fr h Q := Eq.trans rfl rfl
def r77_43 : List GO := [⟨none, some 122, .move (.tmp 15)⟩,
  ⟨none, some 123, .call ⟨.value (.func 98), ⟨[.tmp 122]⟩, ⟨[5]⟩⟩⟩,
  ⟨none, some 124, .binOp .leq 5 (.const (.int .u8 97)) (.tmp 123) 5⟩,
  ⟨none, some 125, .move (.tmp 124)⟩,
  ⟨some (125, true), some 126, .move (.tmp 15)⟩,
  ⟨some (125, true), some 127, .call ⟨.value (.func 98), ⟨[.tmp 126]⟩, ⟨[5]⟩⟩⟩,
  ⟨some (125, true), some 128, .binOp .leq 5 (.tmp 127) (.const (.int .u8 122)) 5⟩,
  ⟨none, some 129, .pick (.tmp 125) (.tmp 128) (.const (.bool false))⟩,
  ⟨none, some 121, .assign (.tmp 129)⟩]
theorem r77_43_w {E : Env} {fr : Fr} {h : Heap} {Q : Fr → Heap → Prop} : opsW E r77_43 fr h Q = opsW E [⟨none, some 122, .move (.tmp 15)⟩,
  ⟨none, some 123, .call ⟨.value (.func 98), ⟨[.tmp 122]⟩, ⟨[5]⟩⟩⟩,
  ⟨none, some 124, .binOp .leq 5 (.const (.int .u8 97)) (.tmp 123) 5⟩,
  ⟨none, some 125, .move (.tmp 124)⟩,
  ⟨some (125, true), some 126, .move (.tmp 15)⟩,
  ⟨some (125, true), some 127, .call ⟨.value (.func 98), ⟨[.tmp 126]⟩, ⟨[5]⟩⟩⟩,
  ⟨some (125, true), some 128, .binOp .leq 5 (.tmp 127) (.const (.int .u8 122)) 5⟩,
  ⟨none, some 129, .pick (.tmp 125) (.tmp 128) (.const (.bool false))⟩,
  ⟨none, some 121, .assign (.tmp 129)⟩] fr h Q := Eq.trans rfl rfl
def s77_44 : GC := .seq (.ops r77_43) s77_42
theorem s77_44_w {E : Env} {nt : Nat} {rd : Option Nat} {fr : Fr} {h : Heap} {Q : Ex → Fr → Heap → Prop} : s77_44.wp E nt rd fr h Q = (GC.seq (.ops r77_43) s77_42).wp E nt rd fr h Q := Eq.trans rfl rfl
def s77_45 : GC := .cond (.tmp 112) s77_37 s77_44
theorem s77_45_w {E : Env} {nt : Nat} {rd : Option Nat} {fr : Fr} {h : Heap} {Q : Ex → Fr → Heap → Prop} : s77_45.wp E nt rd fr h Q = (GC.cond (.tmp 112) s77_37 s77_44).wp E nt rd fr h Q := Eq.trans rfl rfl
def r77_46 : List GO := [⟨none, some 113, .move (.tmp 15)⟩,
  ⟨none, some 114, .binOp .leq 5 (.const (.int .u8 48)) (.tmp 113) 5⟩,
  ⟨none, some 115, .move (.tmp 114)⟩,
  ⟨some (115, true), some 116, .move (.tmp 15)⟩,
  ⟨some (115, true), some 117, .binOp .leq 5 (.tmp 116) (.const (.int .u8 57)) 5⟩,
  ⟨none, some 118, .pick (.tmp 115) (.tmp 117) (.const (.bool false))⟩,
  ⟨none, some 112, .assign (.tmp 118)⟩]
theorem r77_46_w {E : Env} {fr : Fr} {h : Heap} {Q : Fr → Heap → Prop} : opsW E r77_46 fr h Q = opsW E [⟨none, some 113, .move (.tmp 15)⟩,
  ⟨none, some 114, .binOp .leq 5 (.const (.int .u8 48)) (.tmp 113) 5⟩,
  ⟨none, some 115, .move (.tmp 114)⟩,
  ⟨some (115, true), some 116, .move (.tmp 15)⟩,
  ⟨some (115, true), some 117, .binOp .leq 5 (.tmp 116) (.const (.int .u8 57)) 5⟩,
  ⟨none, some 118, .pick (.tmp 115) (.tmp 117) (.const (.bool false))⟩,
  ⟨none, some 112, .assign (.tmp 118)⟩] fr h Q := Eq.trans rfl rfl
def s77_47 : GC := .seq (.ops r77_46) s77_45
theorem s77_47_w {E : Env} {nt : Nat} {rd : Option Nat} {fr : Fr} {h : Heap} {Q : Ex → Fr → Heap → Prop} : s77_47.wp E nt rd fr h Q = (GC.seq (.ops r77_46) s77_45).wp E nt rd fr h Q := Eq.trans rfl rfl
def s77_48 : GC := .cond (.tmp 106) s77_35 s77_47
theorem s77_48_w {E : Env} {nt : Nat} {rd : Option Nat} {fr : Fr} {h : Heap} {Q : Ex → Fr → Heap → Prop} : s77_48.wp E nt rd fr h Q = (GC.cond (.tmp 106) s77_35 s77_47).wp E nt rd fr h Q := Eq.trans rfl rfl
def r77_49 : List GO := [⟨none, some 107, .move (.tmp 15)⟩,
  ⟨none, some 108, .binOp .eql 5 (.tmp 107) (.const (.int .u8 95)) 5⟩,
  ⟨none, some 109, .move (.tmp 108)⟩,
  ⟨some (109, true), some 110, .move (.tmp 8)⟩,
  ⟨none, some 111, .pick (.tmp 109) (.tmp 110) (.const (.bool false))⟩,
  ⟨none, some 106, .assign (.tmp 111)⟩]
theorem r77_49_w {E : Env} {fr : Fr} {h : Heap} {Q : Fr → Heap → Prop} : opsW E r77_49 fr h Q = opsW E [⟨none, some 107, .move (.tmp 15)⟩,
  ⟨none, some 108, .binOp .eql 5 (.tmp 107) (.const (.int .u8 95)) 5⟩,
  ⟨none, some 109, .move (.tmp 108)⟩,
  ⟨some (109, true), some 110, .move (.tmp 8)⟩,
  ⟨none, some 111, .pick (.tmp 109) (.tmp 110) (.const (.bool false))⟩,
  ⟨none, some 106, .assign (.tmp 111)⟩] fr h Q := Eq.trans rfl rfl
def s77_50 : GC := .seq (.ops r77_49) s77_48
theorem s77_50_w {E : Env} {nt : Nat} {rd : Option Nat} {fr : Fr} {h : Heap} {Q : Ex → Fr → Heap → Prop} : s77_50.wp E nt rd fr h Q = (GC.seq (.ops r77_49) s77_48).wp E nt rd fr h Q := Eq.trans rfl rfl
def s77_51 : GC := .seq (.block 5 s77_50) s77_33
theorem s77_51_w {E : Env} {nt : Nat} {rd : Option Nat} {fr : Fr} {h : Heap} {Q : Ex → Fr → Heap → Prop} : s77_51.wp E nt rd fr h Q = (GC.seq (.block 5 s77_50) s77_33).wp E nt rd fr h Q := Eq.trans rfl rfl
def r77_52 : List GO := [⟨none, some 16, .assign (.const (.int .u8 0))⟩]
theorem r77_52_w {E : Env} {fr : Fr} {h : Heap} {Q : Fr → Heap → Prop} : opsW E r77_52 fr h Q = opsW E [⟨none, some 16, .assign (.const (.int .u8 0))⟩] fr h Q := Eq.trans rfl rfl
def s77_53 : GC := .seq (.ops r77_52) s77_51
theorem s77_53_w {E : Env} {nt : Nat} {rd : Option Nat} {fr : Fr} {h : Heap} {Q : Ex → Fr → Heap → Prop} : s77_53.wp E nt rd fr h Q = (GC.seq (.ops r77_52) s77_51).wp E nt rd fr h Q := Eq.trans rfl rfl
def r77_54 : List GO := [⟨none, some 103, .indexAddr 87 (.tmp 99) (.tmp 101)⟩,
  ⟨none, some 104, .load 5 (.tmp 103)⟩,
  ⟨none, some 15, .assign (.tmp 104)⟩]
theorem r77_54_w {E : Env} {fr : Fr} {h : Heap} {Q : Fr → Heap → Prop} : opsW E r77_54 fr h Q = opsW E [⟨none, some 103, .indexAddr 87 (.tmp 99) (.tmp 101)⟩,
  ⟨none, some 104, .load 5 (.tmp 103)⟩,
  ⟨none, some 15, .assign (.tmp 104)⟩] fr h Q := Eq.trans rfl rfl
def s77_55 : GC := .seq (.ops r77_54) s77_53
theorem s77_55_w {E : Env} {nt : Nat} {rd : Option Nat} {fr : Fr} {h : Heap} {Q : Ex → Fr → Heap → Prop} : s77_55.wp E nt rd fr h Q = (GC.seq (.ops r77_54) s77_53).wp E nt rd fr h Q := Eq.trans rfl rfl
def s77_56 : GC := .seq (.block 4 s77_55) s77_9
theorem s77_56_w {E : Env} {nt : Nat} {rd : Option Nat} {fr : Fr} {h : Heap} {Q : Ex → Fr → Heap → Prop} : s77_56.wp E nt rd fr h Q = (GC.seq (.block 4 s77_55) s77_9).wp E nt rd fr h Q := Eq.trans rfl rfl
def s77_57 : GC := .cond (.tmp 102) .skip (.exit 3)
theorem s77_57_w {E : Env} {nt : Nat} {rd : Option Nat} {fr : Fr} {h : Heap} {Q : Ex → Fr → Heap → Prop} : s77_57.wp E nt rd fr h Q = (GC.cond (.tmp 102) .skip (.exit 3)).wp E nt rd fr h Q := Eq.trans rfl rfl
def s77_58 : GC := .seq (s77_57) s77_56
theorem s77_58_w {E : Env} {nt : Nat} {rd : Option Nat} {fr : Fr} {h : Heap} {Q : Ex → Fr → Heap → Prop} : s77_58.wp E nt rd fr h Q = (GC.seq (s77_57) s77_56).wp E nt rd fr h Q := Eq.trans rfl rfl
def r77_59 : List GO := [⟨none, some 102, .binOp .lss 3 (.tmp 101) (.tmp 100) 3⟩]
theorem r77_59_w {E : Env} {fr : Fr} {h : Heap} {Q : Fr → Heap → Prop} : opsW E r77_59 fr h Q = opsW E [⟨none, some 102, .binOp .lss 3 (.tmp 101) (.tmp 100) 3⟩] fr h Q := Eq.trans rfl rfl
def s77_60 : GC := .seq (.ops r77_59) s77_58
theorem s77_60_w {E : Env} {nt : Nat} {rd : Option Nat} {fr : Fr} {h : Heap} {Q : Ex → Fr → Heap → Prop} : s77_60.wp E nt rd fr h Q = (GC.seq (.ops r77_59) s77_58).wp E nt rd fr h Q := Eq.trans rfl rfl
def s77_61 : GC := .loop s77_60
theorem s77_61_w {E : Env} {nt : Nat} {rd : Option Nat} {fr : Fr} {h : Heap} {Q : Ex → Fr → Heap → Prop} : s77_61.wp E nt rd fr h Q = (GC.loop s77_60).wp E nt rd fr h Q := Eq.trans rfl rfl
def s77_62 : GC := .block 3 s77_61
theorem s77_62_w {E : Env} {nt : Nat} {rd : Option Nat} {fr : Fr} {h : Heap} {Q : Ex → Fr → Heap → Prop} : s77_62.wp E nt rd fr h Q = (GC.block 3 s77_61).wp E nt rd fr h Q := Eq.trans rfl rfl
def r77_63 : List GO := [⟨none, some 98, .move (.tmp 0)⟩,
  ⟨none, some 99, .convert 9 87 (.tmp 98)⟩,
  ⟨none, some 100, .call ⟨.builtin .len, ⟨[.tmp 99]⟩, ⟨[87]⟩⟩⟩,
  ⟨none, some 101, .move (.const (.int .i64 0))⟩]
theorem r77_63_w {E : Env} {fr : Fr} {h : Heap} {Q : Fr → Heap → Prop} : opsW E r77_63 fr h Q = opsW E [⟨none, some 98, .move (.tmp 0)⟩,
  ⟨none, some 99, .convert 9 87 (.tmp 98)⟩,
  ⟨none, some 100, .call ⟨.builtin .len, ⟨[.tmp 99]⟩, ⟨[87]⟩⟩⟩,
  ⟨none, some 101, .move (.const (.int .i64 0))⟩] fr h Q := Eq.trans rfl rfl
def s77_64 : GC := .seq (.ops r77_63) s77_62
theorem s77_64_w {E : Env} {nt : Nat} {rd : Option Nat} {fr : Fr} {h : Heap} {Q : Ex → Fr → Heap → Prop} : s77_64.wp E nt rd fr h Q = (GC.seq (.ops r77_63) s77_62).wp E nt rd fr h Q := Eq.trans rfl rfl
def s77_65 : GC := .seq (s77_64) s77_7
theorem s77_65_w {E : Env} {nt : Nat} {rd : Option Nat} {fr : Fr} {h : Heap} {Q : Ex → Fr → Heap → Prop} : s77_65.wp E nt rd fr h Q = (GC.seq (s77_64) s77_7).wp E nt rd fr h Q := Eq.trans rfl rfl
def r77_66 : List GO := [⟨none, some 13, .assign (.const (.int .u64 0))⟩]
theorem r77_66_w {E : Env} {fr : Fr} {h : Heap} {Q : Fr → Heap → Prop} : opsW E r77_66 fr h Q = opsW E [⟨none, some 13, .assign (.const (.int .u64 0))⟩] fr h Q := Eq.trans rfl rfl
def s77_67 : GC := .seq (.ops r77_66) s77_65
theorem s77_67_w {E : Env} {nt : Nat} {rd : Option Nat} {fr : Fr} {h : Heap} {Q : Ex → Fr → Heap → Prop} : s77_67.wp E nt rd fr h Q = (GC.seq (.ops r77_66) s77_65).wp E nt rd fr h Q := Eq.trans rfl rfl
def r77_68 : List GO := [⟨none, some 12, .assign (.const (.bool false))⟩]
theorem r77_68_w {E : Env} {fr : Fr} {h : Heap} {Q : Fr → Heap → Prop} : opsW E r77_68 fr h Q = opsW E [⟨none, some 12, .assign (.const (.bool false))⟩] fr h Q := Eq.trans rfl rfl
def s77_69 : GC := .seq (.ops r77_68) s77_67
theorem s77_69_w {E : Env} {nt : Nat} {rd : Option Nat} {fr : Fr} {h : Heap} {Q : Ex → Fr → Heap → Prop} : s77_69.wp E nt rd fr h Q = (GC.seq (.ops r77_68) s77_67).wp E nt rd fr h Q := Eq.trans rfl rfl
def r77_70 : List GO := [⟨none, some 94, .move (.tmp 2)⟩,
  ⟨none, some 95, .convert 3 69 (.tmp 94)⟩,
  ⟨none, some 96, .binOp .shl 23 (.const (.int .u64 1)) (.tmp 95) 69⟩,
  ⟨none, some 97, .binOp .sub 23 (.tmp 96) (.const (.int .u64 1)) 23⟩,
  ⟨none, some 11, .assign (.tmp 97)⟩]
theorem r77_70_w {E : Env} {fr : Fr} {h : Heap} {Q : Fr → Heap → Prop} : opsW E r77_70 fr h Q = opsW E [⟨none, some 94, .move (.tmp 2)⟩,
  ⟨none, some 95, .convert 3 69 (.tmp 94)⟩,
  ⟨none, some 96, .binOp .shl 23 (.const (.int .u64 1)) (.tmp 95) 69⟩,
  ⟨none, some 97, .binOp .sub 23 (.tmp 96) (.const (.int .u64 1)) 23⟩,
  ⟨none, some 11, .assign (.tmp 97)⟩] fr h Q := Eq.trans rfl rfl
def s77_71 : GC := .seq (.ops r77_70) s77_69
theorem s77_71_w {E : Env} {nt : Nat} {rd : Option Nat} {fr : Fr} {h : Heap} {Q : Ex → Fr → Heap → Prop} : s77_71.wp E nt rd fr h Q = (GC.seq (.ops r77_70) s77_69).wp E nt rd fr h Q := Eq.trans rfl rfl
def r77_72 : List GO := [⟨none, some 10, .assign (.const (.int .u64 1844674407370955162))⟩]
theorem r77_72_w {E : Env} {fr : Fr} {h : Heap} {Q : Fr → Heap → Prop} : opsW E r77_72 fr h Q = opsW E [⟨none, some 10, .assign (.const (.int .u64 1844674407370955162))⟩] fr h Q := Eq.trans rfl rfl
def s77_73 : GC := .ops r77_72
theorem s77_73_w {E : Env} {nt : Nat} {rd : Option Nat} {fr : Fr} {h : Heap} {Q : Ex → Fr → Heap → Prop} : s77_73.wp E nt rd fr h Q = (GC.ops r77_72).wp E nt rd fr h Q := Eq.trans rfl rfl
def r77_74 : List GO := [⟨none, some 10, .assign (.const (.int .u64 1152921504606846976))⟩]
theorem r77_74_w {E : Env} {fr : Fr} {h : Heap} {Q : Fr → Heap → Prop} : opsW E r77_74 fr h Q = opsW E [⟨none, some 10, .assign (.const (.int .u64 1152921504606846976))⟩] fr h Q := Eq.trans rfl rfl
def s77_75 : GC := .ops r77_74
theorem s77_75_w {E : Env} {nt : Nat} {rd : Option Nat} {fr : Fr} {h : Heap} {Q : Ex → Fr → Heap → Prop} : s77_75.wp E nt rd fr h Q = (GC.ops r77_74).wp E nt rd fr h Q := Eq.trans rfl rfl
def r77_76 : List GO := [⟨none, some 86, .move (.tmp 1)⟩,
  ⟨none, some 87, .convert 3 23 (.tmp 86)⟩,
  ⟨none, some 88, .binOp .quo 23 (.const (.int .u64 18446744073709551615)) (.tmp 87) 23⟩,
  ⟨none, some 89, .binOp .add 23 (.tmp 88) (.const (.int .u64 1)) 23⟩,
  ⟨none, some 10, .assign (.tmp 89)⟩]
theorem r77_76_w {E : Env} {fr : Fr} {h : Heap} {Q : Fr → Heap → Prop} : opsW E r77_76 fr h Q = opsW E [⟨none, some 86, .move (.tmp 1)⟩,
  ⟨none, some 87, .convert 3 23 (.tmp 86)⟩,
  ⟨none, some 88, .binOp .quo 23 (.const (.int .u64 18446744073709551615)) (.tmp 87) 23⟩,
  ⟨none, some 89, .binOp .add 23 (.tmp 88) (.const (.int .u64 1)) 23⟩,
  ⟨none, some 10, .assign (.tmp 89)⟩] fr h Q := Eq.trans rfl rfl
def s77_77 : GC := .ops r77_76
theorem s77_77_w {E : Env} {nt : Nat} {rd : Option Nat} {fr : Fr} {h : Heap} {Q : Ex → Fr → Heap → Prop} : s77_77.wp E nt rd fr h Q = (GC.ops r77_76).wp E nt rd fr h Q := Eq.trans rfl rfl
def s77_78 : GC := .cond (.tmp 92) s77_75 s77_77
theorem s77_78_w {E : Env} {nt : Nat} {rd : Option Nat} {fr : Fr} {h : Heap} {Q : Ex → Fr → Heap → Prop} : s77_78.wp E nt rd fr h Q = (GC.cond (.tmp 92) s77_75 s77_77).wp E nt rd fr h Q := Eq.trans rfl rfl
def r77_79 : List GO := [⟨none, some 93, .binOp .eql 3 (.tmp 85) (.const (.int .i64 16)) 3⟩,
  ⟨none, some 92, .assign (.tmp 93)⟩]
theorem r77_79_w {E : Env} {fr : Fr} {h : Heap} {Q : Fr → Heap → Prop} : opsW E r77_79 fr h Q = opsW E [⟨none, some 93, .binOp .eql 3 (.tmp 85) (.const (.int .i64 16)) 3⟩,
  ⟨none, some 92, .assign (.tmp 93)⟩] fr h Q := Eq.trans rfl rfl
def s77_80 : GC := .seq (.ops r77_79) s77_78
theorem s77_80_w {E : Env} {nt : Nat} {rd : Option Nat} {fr : Fr} {h : Heap} {Q : Ex → Fr → Heap → Prop} : s77_80.wp E nt rd fr h Q = (GC.seq (.ops r77_79) s77_78).wp E nt rd fr h Q := Eq.trans rfl rfl
def s77_81 : GC := .cond (.tmp 90) s77_73 s77_80
theorem s77_81_w {E : Env} {nt : Nat} {rd : Option Nat} {fr : Fr} {h : Heap} {Q : Ex → Fr → Heap → Prop} : s77_81.wp E nt rd fr h Q = (GC.cond (.tmp 90) s77_73 s77_80).wp E nt rd fr h Q := Eq.trans rfl rfl
def r77_82 : List GO := [⟨none, some 91, .binOp .eql 3 (.tmp 85) (.const (.int .i64 10)) 3⟩,
  ⟨none, some 90, .assign (.tmp 91)⟩]
theorem r77_82_w {E : Env} {fr : Fr} {h : Heap} {Q : Fr → Heap → Prop} : opsW E r77_82 fr h Q = opsW E [⟨none, some 91, .binOp .eql 3 (.tmp 85) (.const (.int .i64 10)) 3⟩,
  ⟨none, some 90, .assign (.tmp 91)⟩] fr h Q := Eq.trans rfl rfl
def s77_83 : GC := .seq (.ops r77_82) s77_81
theorem s77_83_w {E : Env} {nt : Nat} {rd : Option Nat} {fr : Fr} {h : Heap} {Q : Ex → Fr → Heap → Prop} : s77_83.wp E nt rd fr h Q = (GC.seq (.ops r77_82) s77_81).wp E nt rd fr h Q := Eq.trans rfl rfl
def s77_84 : GC := .block 2 s77_83
theorem s77_84_w {E : Env} {nt : Nat} {rd : Option Nat} {fr : Fr} {h : Heap} {Q : Ex → Fr → Heap → Prop} : s77_84.wp E nt rd fr h Q = (GC.block 2 s77_83).wp E nt rd fr h Q := Eq.trans rfl rfl
def r77_85 : List GO := [⟨none, some 85, .move (.tmp 1)⟩]
theorem r77_85_w {E : Env} {fr : Fr} {h : Heap} {Q : Fr → Heap → Prop} : opsW E r77_85 fr h Q = opsW E [⟨none, some 85, .move (.tmp 1)⟩] fr h Q := Eq.trans rfl rfl
def s77_86 : GC := .seq (.ops r77_85) s77_84
theorem s77_86_w {E : Env} {nt : Nat} {rd : Option Nat} {fr : Fr} {h : Heap} {Q : Ex → Fr → Heap → Prop} : s77_86.wp E nt rd fr h Q = (GC.seq (.ops r77_85) s77_84).wp E nt rd fr h Q := Eq.trans rfl rfl
def s77_87 : GC := .seq (s77_86) s77_71
theorem s77_87_w {E : Env} {nt : Nat} {rd : Option Nat} {fr : Fr} {h : Heap} {Q : Ex → Fr → Heap → Prop} : s77_87.wp E nt rd fr h Q = (GC.seq (s77_86) s77_71).wp E nt rd fr h Q := Eq.trans rfl rfl
def r77_88 : List GO := [⟨none, some 10, .assign (.const (.int .u64 0))⟩]
theorem r77_88_w {E : Env} {fr : Fr} {h : Heap} {Q : Fr → Heap → Prop} : opsW E r77_88 fr h Q = opsW E [⟨none, some 10, .assign (.const (.int .u64 0))⟩] fr h Q := Eq.trans rfl rfl
def s77_89 : GC := .seq (.ops r77_88) s77_87
theorem s77_89_w {E : Env} {nt : Nat} {rd : Option Nat} {fr : Fr} {h : Heap} {Q : Ex → Fr → Heap → Prop} : s77_89.wp E nt rd fr h Q = (GC.seq (.ops r77_88) s77_87).wp E nt rd fr h Q := Eq.trans rfl rfl
def r77_90 : List GO := [⟨none, some 2, .assign (.const (.int .i64 64))⟩]
theorem r77_90_w {E : Env} {fr : Fr} {h : Heap} {Q : Fr → Heap → Prop} : opsW E r77_90 fr h Q = opsW E [⟨none, some 2, .assign (.const (.int .i64 64))⟩] fr h Q := Eq.trans rfl rfl
def s77_91 : GC := .ops r77_90
theorem s77_91_w {E : Env} {nt : Nat} {rd : Option Nat} {fr : Fr} {h : Heap} {Q : Ex → Fr → Heap → Prop} : s77_91.wp E nt rd fr h Q = (GC.ops r77_90).wp E nt rd fr h Q := Eq.trans rfl rfl
def r77_92 : List GO := [⟨none, some 84, .makeInterface 107 (.const (.int .i64 4))⟩,
  ⟨none, some 6, .assign (.const (.int .u64 0))⟩,
  ⟨none, some 7, .assign (.tmp 84)⟩]
theorem r77_92_w {E : Env} {fr : Fr} {h : Heap} {Q : Fr → Heap → Prop} : opsW E r77_92 fr h Q = opsW E [⟨none, some 84, .makeInterface 107 (.const (.int .i64 4))⟩,
  ⟨none, some 6, .assign (.const (.int .u64 0))⟩,
  ⟨none, some 7, .assign (.tmp 84)⟩] fr h Q := Eq.trans rfl rfl
def s77_93 : GC := .seq (.ops r77_92) .ret
theorem s77_93_w {E : Env} {nt : Nat} {rd : Option Nat} {fr : Fr} {h : Heap} {Q : Ex → Fr → Heap → Prop} : s77_93.wp E nt rd fr h Q = (GC.seq (.ops r77_92) .ret).wp E nt rd fr h Q := Eq.trans rfl rfl
def s77_94 : GC := .cond (.tmp 83) s77_93 .skip
theorem s77_94_w {E : Env} {nt : Nat} {rd : Option Nat} {fr : Fr} {h : Heap} {Q : Ex → Fr → Heap → Prop} : s77_94.wp E nt rd fr h Q = (GC.cond (.tmp 83) s77_93 .skip).wp E nt rd fr h Q := Eq.trans rfl rfl
def r77_95 : List GO := [⟨none, some 78, .move (.tmp 2)⟩,
  ⟨none, some 79, .binOp .lss 3 (.tmp 78) (.const (.int .i64 0)) 3⟩,
  ⟨none, some 80, .move (.tmp 79)⟩,
  ⟨some (80, false), some 81, .move (.tmp 2)⟩,
  ⟨some (80, false), some 82, .binOp .gtr 3 (.tmp 81) (.const (.int .i64 64)) 3⟩,
  ⟨none, some 83, .pick (.tmp 80) (.const (.bool true)) (.tmp 82)⟩]
theorem r77_95_w {E : Env} {fr : Fr} {h : Heap} {Q : Fr → Heap → Prop} : opsW E r77_95 fr h Q = opsW E [⟨none, some 78, .move (.tmp 2)⟩,
  ⟨none, some 79, .binOp .lss 3 (.tmp 78) (.const (.int .i64 0)) 3⟩,
  ⟨none, some 80, .move (.tmp 79)⟩,
  ⟨some (80, false), some 81, .move (.tmp 2)⟩,
  ⟨some (80, false), some 82, .binOp .gtr 3 (.tmp 81) (.const (.int .i64 64)) 3⟩,
  ⟨none, some 83, .pick (.tmp 80) (.const (.bool true)) (.tmp 82)⟩] fr h Q := Eq.trans rfl rfl
def s77_96 : GC := .seq (.ops r77_95) s77_94
theorem s77_96_w {E : Env} {nt : Nat} {rd : Option Nat} {fr : Fr} {h : Heap} {Q : Ex → Fr → Heap → Prop} : s77_96.wp E nt rd fr h Q = (GC.seq (.ops r77_95) s77_94).wp E nt rd fr h Q := Eq.trans rfl rfl
def s77_97 : GC := .cond (.tmp 77) s77_91 s77_96
theorem s77_97_w {E : Env} {nt : Nat} {rd : Option Nat} {fr : Fr} {h : Heap} {Q : Ex → Fr → Heap → Prop} : s77_97.wp E nt rd fr h Q = (GC.cond (.tmp 77) s77_91 s77_96).wp E nt rd fr h Q := Eq.trans rfl rfl
def r77_98 : List GO := [⟨none, some 76, .move (.tmp 2)⟩,
  ⟨none, some 77, .binOp .eql 3 (.tmp 76) (.const (.int .i64 0)) 3⟩]
theorem r77_98_w {E : Env} {fr : Fr} {h : Heap} {Q : Fr → Heap → Prop} : opsW E r77_98 fr h Q = opsW E [⟨none, some 76, .move (.tmp 2)⟩,
  ⟨none, some 77, .binOp .eql 3 (.tmp 76) (.const (.int .i64 0)) 3⟩] fr h Q := Eq.trans rfl rfl
def s77_99 : GC := .seq (.ops r77_98) s77_97
theorem s77_99_w {E : Env} {nt : Nat} {rd : Option Nat} {fr : Fr} {h : Heap} {Q : Ex → Fr → Heap → Prop} : s77_99.wp E nt rd fr h Q = (GC.seq (.ops r77_98) s77_97).wp E nt rd fr h Q := Eq.trans rfl rfl
def s77_100 : GC := .seq (s77_99) s77_89
theorem s77_100_w {E : Env} {nt : Nat} {rd : Option Nat} {fr : Fr} {h : Heap} {Q : Ex → Fr → Heap → Prop} : s77_100.wp E nt rd fr h Q = (GC.seq (s77_99) s77_89).wp E nt rd fr h Q := Eq.trans rfl rfl
def r77_101 : List GO := [⟨none, some 50, .move (.tmp 0)⟩,
  ⟨none, some 51, .slice 9 (.tmp 50) (some (.const (.int .i64 2))) none none⟩,
  ⟨none, some 0, .assign (.tmp 51)⟩]
theorem r77_101_w {E : Env} {fr : Fr} {h : Heap} {Q : Fr → Heap → Prop} : opsW E r77_101 fr h Q = opsW E [⟨none, some 50, .move (.tmp 0)⟩,
  ⟨none, some 51, .slice 9 (.tmp 50) (some (.const (.int .i64 2))) none none⟩,
  ⟨none, some 0, .assign (.tmp 51)⟩] fr h Q := Eq.trans rfl rfl
def s77_102 : GC := .ops r77_101
theorem s77_102_w {E : Env} {nt : Nat} {rd : Option Nat} {fr : Fr} {h : Heap} {Q : Ex → Fr → Heap → Prop} : s77_102.wp E nt rd fr h Q = (GC.ops r77_101).wp E nt rd fr h Q := Eq.trans rfl rfl
def r77_103 : List GO := [⟨none, some 1, .assign (.const (.int .i64 2))⟩]
theorem r77_103_w {E : Env} {fr : Fr} {h : Heap} {Q : Fr → Heap → Prop} : opsW E r77_103 fr h Q = opsW E [⟨none, some 1, .assign (.const (.int .i64 2))⟩] fr h Q := Eq.trans rfl rfl
def s77_104 : GC := .seq (.ops r77_103) s77_102
theorem s77_104_w {E : Env} {nt : Nat} {rd : Option Nat} {fr : Fr} {h : Heap} {Q : Ex → Fr → Heap → Prop} : s77_104.wp E nt rd fr h Q = (GC.seq (.ops r77_103) s77_102).wp E nt rd fr h Q := Eq.trans rfl rfl
def r77_105 : List GO := [⟨none, some 62, .move (.tmp 0)⟩,
  ⟨none, some 63, .slice 9 (.tmp 62) (some (.const (.int .i64 2))) none none⟩,
  ⟨none, some 0, .assign (.tmp 63)⟩]
theorem r77_105_w {E : Env} {fr : Fr} {h : Heap} {Q : Fr → Heap → Prop} : opsW E r77_105 fr h Q = opsW E [⟨none, some 62, .move (.tmp 0)⟩,
  ⟨none, some 63, .slice 9 (.tmp 62) (some (.const (.int .i64 2))) none none⟩,
  ⟨none, some 0, .assign (.tmp 63)⟩] fr h Q := Eq.trans rfl rfl
def s77_106 : GC := .ops r77_105
theorem s77_106_w {E : Env} {nt : Nat} {rd : Option Nat} {fr : Fr} {h : Heap} {Q : Ex → Fr → Heap → Prop} : s77_106.wp E nt rd fr h Q = (GC.ops r77_105).wp E nt rd fr h Q := Eq.trans rfl rfl
def r77_107 : List GO := [⟨none, some 1, .assign (.const (.int .i64 8))⟩]
theorem r77_107_w {E : Env} {fr : Fr} {h : Heap} {Q : Fr → Heap → Prop} : opsW E r77_107 fr h Q = opsW E [⟨none, some 1, .assign (.const (.int .i64 8))⟩] fr h Q := Eq.trans rfl rfl
def s77_108 : GC := .seq (.ops r77_107) s77_106
theorem s77_108_w {E : Env} {nt : Nat} {rd : Option Nat} {fr : Fr} {h : Heap} {Q : Ex → Fr → Heap → Prop} : s77_108.wp E nt rd fr h Q = (GC.seq (.ops r77_107) s77_106).wp E nt rd fr h Q := Eq.trans rfl rfl
def r77_109 : List GO := [⟨none, some 74, .move (.tmp 0)⟩,
  ⟨none, some 75, .slice 9 (.tmp 74) (some (.const (.int .i64 2))) none none⟩,
  ⟨none, some 0, .assign (.tmp 75)⟩]
theorem r77_109_w {E : Env} {fr : Fr} {h : Heap} {Q : Fr → Heap → Prop} : opsW E r77_109 fr h Q = opsW E [⟨none, some 74, .move (.tmp 0)⟩,
  ⟨none, some 75, .slice 9 (.tmp 74) (some (.const (.int .i64 2))) none none⟩,
  ⟨none, some 0, .assign (.tmp 75)⟩] fr h Q := Eq.trans rfl rfl
def s77_110 : GC := .ops r77_109
theorem s77_110_w {E : Env} {nt : Nat} {rd : Option Nat} {fr : Fr} {h : Heap} {Q : Ex → Fr → Heap → Prop} : s77_110.wp E nt rd fr h Q = (GC.ops r77_109).wp E nt rd fr h Q := Eq.trans rfl rfl
def r77_111 : List GO := [⟨none, some 1, .assign (.const (.int .i64 16))⟩]
theorem r77_111_w {E : Env} {fr : Fr} {h : Heap} {Q : Fr → Heap → Prop} : opsW E r77_111 fr h Q = opsW E [⟨none, some 1, .assign (.const (.int .i64 16))⟩] fr h Q := Eq.trans rfl rfl
def s77_112 : GC := .seq (.ops r77_111) s77_110
theorem s77_112_w {E : Env} {nt : Nat} {rd : Option Nat} {fr : Fr} {h : Heap} {Q : Ex → Fr → Heap → Prop} : s77_112.wp E nt rd fr h Q = (GC.seq (.ops r77_111) s77_110).wp E nt rd fr h Q := Eq.trans rfl rfl
def r77_113 : List GO := [⟨none, some 38, .move (.tmp 0)⟩,
  ⟨none, some 39, .slice 9 (.tmp 38) (some (.const (.int .i64 1))) none none⟩,
  ⟨none, some 0, .assign (.tmp 39)⟩]
theorem r77_113_w {E : Env} {fr : Fr} {h : Heap} {Q : Fr → Heap → Prop} : opsW E r77_113 fr h Q = opsW E [⟨none, some 38, .move (.tmp 0)⟩,
  ⟨none, some 39, .slice 9 (.tmp 38) (some (.const (.int .i64 1))) none none⟩,
  ⟨none, some 0, .assign (.tmp 39)⟩] fr h Q := Eq.trans rfl rfl
def s77_114 : GC := .ops r77_113
theorem s77_114_w {E : Env} {nt : Nat} {rd : Option Nat} {fr : Fr} {h : Heap} {Q : Ex → Fr → Heap → Prop} : s77_114.wp E nt rd fr h Q = (GC.ops r77_113).wp E nt rd fr h Q := Eq.trans rfl rfl
def r77_115 : List GO := [⟨none, some 1, .assign (.const (.int .i64 8))⟩]
theorem r77_115_w {E : Env} {fr : Fr} {h : Heap} {Q : Fr → Heap → Prop} : opsW E r77_115 fr h Q = opsW E [⟨none, some 1, .assign (.const (.int .i64 8))⟩] fr h Q := Eq.trans rfl rfl
def s77_116 : GC := .seq (.ops r77_115) s77_114
theorem s77_116_w {E : Env} {nt : Nat} {rd : Option Nat} {fr : Fr} {h : Heap} {Q : Ex → Fr → Heap → Prop} : s77_116.wp E nt rd fr h Q = (GC.seq (.ops r77_115) s77_114).wp E nt rd fr h Q := Eq.trans rfl rfl
def s77_117 : GC := .cond (.tmp 64) s77_112 s77_116
theorem s77_117_w {E : Env} {nt : Nat} {rd : Option Nat} {fr : Fr} {h : Heap} {Q : Ex → Fr → Heap → Prop} : s77_117.wp E nt rd fr h Q = (GC.cond (.tmp 64) s77_112 s77_116).wp E nt rd fr h Q := Eq.trans rfl rfl
def r77_118 : List GO := [⟨none, some 65, .move (.tmp 0)⟩,
  ⟨none, some 66, .call ⟨.builtin .len, ⟨[.tmp 65]⟩, ⟨[9]⟩⟩⟩,
  ⟨none, some 67, .binOp .geq 3 (.tmp 66) (.const (.int .i64 3)) 3⟩,
  ⟨none, some 68, .move (.tmp 67)⟩,
  ⟨some (68, true), some 69, .move (.tmp 0)⟩,
  ⟨some (68, true), some 70, .index 9 (.tmp 69) (.const (.int .i64 1))⟩,
  ⟨some (68, true), some 71, .call ⟨.value (.func 98), ⟨[.tmp 70]⟩, ⟨[5]⟩⟩⟩,
  ⟨some (68, true), some 72, .binOp .eql 5 (.tmp 71) (.const (.int .u8 120)) 5⟩,
  ⟨none, some 73, .pick (.tmp 68) (.tmp 72) (.const (.bool false))⟩,
  ⟨none, some 64, .assign (.tmp 73)⟩]
theorem r77_118_w {E : Env} {fr : Fr} {h : Heap} {Q : Fr → Heap → Prop} : opsW E r77_118 fr h Q = opsW E [⟨none, some 65, .move (.tmp 0)⟩,
  ⟨none, some 66, .call ⟨.builtin .len, ⟨[.tmp 65]⟩, ⟨[9]⟩⟩⟩,
  ⟨none, some 67, .binOp .geq 3 (.tmp 66) (.const (.int .i64 3)) 3⟩,
  ⟨none, some 68, .move (.tmp 67)⟩,
  ⟨some (68, true), some 69, .move (.tmp 0)⟩,
  ⟨some (68, true), some 70, .index 9 (.tmp 69) (.const (.int .i64 1))⟩,
  ⟨some (68, true), some 71, .call ⟨.value (.func 98), ⟨[.tmp 70]⟩, ⟨[5]⟩⟩⟩,
  ⟨some (68, true), some 72, .binOp .eql 5 (.tmp 71) (.const (.int .u8 120)) 5⟩,
  ⟨none, some 73, .pick (.tmp 68) (.tmp 72) (.const (.bool false))⟩,
  ⟨none, some 64, .assign (.tmp 73)⟩] fr h Q := Eq.trans rfl rfl
def s77_119 : GC := .seq (.ops r77_118) s77_117
theorem s77_119_w {E : Env} {nt : Nat} {rd : Option Nat} {fr : Fr} {h : Heap} {Q : Ex → Fr → Heap → Prop} : s77_119.wp E nt rd fr h Q = (GC.seq (.ops r77_118) s77_117).wp E nt rd fr h Q := Eq.trans rfl rfl
def s77_120 : GC := .cond (.tmp 52) s77_108 s77_119
theorem s77_120_w {E : Env} {nt : Nat} {rd : Option Nat} {fr : Fr} {h : Heap} {Q : Ex → Fr → Heap → Prop} : s77_120.wp E nt rd fr h Q = (GC.cond (.tmp 52) s77_108 s77_119).wp E nt rd fr h Q := Eq.trans rfl rfl
def r77_121 : List GO := [⟨none, some 53, .move (.tmp 0)⟩,
  ⟨none, some 54, .call ⟨.builtin .len, ⟨[.tmp 53]⟩, ⟨[9]⟩⟩⟩,
  ⟨none, some 55, .binOp .geq 3 (.tmp 54) (.const (.int .i64 3)) 3⟩,
  ⟨none, some 56, .move (.tmp 55)⟩,
  ⟨some (56, true), some 57, .move (.tmp 0)⟩,
  ⟨some (56, true), some 58, .index 9 (.tmp 57) (.const (.int .i64 1))⟩,
  ⟨some (56, true), some 59, .call ⟨.value (.func 98), ⟨[.tmp 58]⟩, ⟨[5]⟩⟩⟩,
  ⟨some (56, true), some 60, .binOp .eql 5 (.tmp 59) (.const (.int .u8 111)) 5⟩,
  ⟨none, some 61, .pick (.tmp 56) (.tmp 60) (.const (.bool false))⟩,
  ⟨none, some 52, .assign (.tmp 61)⟩]
theorem r77_121_w {E : Env} {fr : Fr} {h : Heap} {Q : Fr → Heap → Prop} : opsW E r77_121 fr h Q = opsW E [⟨none, some 53, .move (.tmp 0)⟩,
  ⟨none, some 54, .call ⟨.builtin .len, ⟨[.tmp 53]⟩, ⟨[9]⟩⟩⟩,
  ⟨none, some 55, .binOp .geq 3 (.tmp 54) (.const (.int .i64 3)) 3⟩,
  ⟨none, some 56, .move (.tmp 55)⟩,
  ⟨some (56, true), some 57, .move (.tmp 0)⟩,
  ⟨some (56, true), some 58, .index 9 (.tmp 57) (.const (.int .i64 1))⟩,
  ⟨some (56, true), some 59, .call ⟨.value (.func 98), ⟨[.tmp 58]⟩, ⟨[5]⟩⟩⟩,
  ⟨some (56, true), some 60, .binOp .eql 5 (.tmp 59) (.const (.int .u8 111)) 5⟩,
  ⟨none, some 61, .pick (.tmp 56) (.tmp 60) (.const (.bool false))⟩,
  ⟨none, some 52, .assign (.tmp 61)⟩] fr h Q := Eq.trans rfl rfl
def s77_122 : GC := .seq (.ops r77_121) s77_120
theorem s77_122_w {E : Env} {nt : Nat} {rd : Option Nat} {fr : Fr} {h : Heap} {Q : Ex → Fr → Heap → Prop} : s77_122.wp E nt rd fr h Q = (GC.seq (.ops r77_121) s77_120).wp E nt rd fr h Q := Eq.trans rfl rfl
def s77_123 : GC := .cond (.tmp 40) s77_104 s77_122
theorem s77_123_w {E : Env} {nt : Nat} {rd : Option Nat} {fr : Fr} {h : Heap} {Q : Ex → Fr → Heap → Prop} : s77_123.wp E nt rd fr h Q = (GC.cond (.tmp 40) s77_104 s77_122).wp E nt rd fr h Q := Eq.trans rfl rfl
def r77_124 : List GO := [⟨none, some 41, .move (.tmp 0)⟩,
  ⟨none, some 42, .call ⟨.builtin .len, ⟨[.tmp 41]⟩, ⟨[9]⟩⟩⟩,
  ⟨none, some 43, .binOp .geq 3 (.tmp 42) (.const (.int .i64 3)) 3⟩,
  ⟨none, some 44, .move (.tmp 43)⟩,
  ⟨some (44, true), some 45, .move (.tmp 0)⟩,
  ⟨some (44, true), some 46, .index 9 (.tmp 45) (.const (.int .i64 1))⟩,
  ⟨some (44, true), some 47, .call ⟨.value (.func 98), ⟨[.tmp 46]⟩, ⟨[5]⟩⟩⟩,
  ⟨some (44, true), some 48, .binOp .eql 5 (.tmp 47) (.const (.int .u8 98)) 5⟩,
  ⟨none, some 49, .pick (.tmp 44) (.tmp 48) (.const (.bool false))⟩,
  ⟨none, some 40, .assign (.tmp 49)⟩]
theorem r77_124_w {E : Env} {fr : Fr} {h : Heap} {Q : Fr → Heap → Prop} : opsW E r77_124 fr h Q = opsW E [⟨none, some 41, .move (.tmp 0)⟩,
  ⟨none, some 42, .call ⟨.builtin .len, ⟨[.tmp 41]⟩, ⟨[9]⟩⟩⟩,
  ⟨none, some 43, .binOp .geq 3 (.tmp 42) (.const (.int .i64 3)) 3⟩,
  ⟨none, some 44, .move (.tmp 43)⟩,
  ⟨some (44, true), some 45, .move (.tmp 0)⟩,
  ⟨some (44, true), some 46, .index 9 (.tmp 45) (.const (.int .i64 1))⟩,
  ⟨some (44, true), some 47, .call ⟨.value (.func 98), ⟨[.tmp 46]⟩, ⟨[5]⟩⟩⟩,
  ⟨some (44, true), some 48, .binOp .eql 5 (.tmp 47) (.const (.int .u8 98)) 5⟩,
  ⟨none, some 49, .pick (.tmp 44) (.tmp 48) (.const (.bool false))⟩,
  ⟨none, some 40, .assign (.tmp 49)⟩] fr h Q := Eq.trans rfl rfl
def s77_125 : GC := .seq (.ops r77_124) s77_123
theorem s77_125_w {E : Env} {nt : Nat} {rd : Option Nat} {fr : Fr} {h : Heap} {Q : Ex → Fr → Heap → Prop} : s77_125.wp E nt rd fr h Q = (GC.seq (.ops r77_124) s77_123).wp E nt rd fr h Q := Eq.trans rfl rfl
def s77_126 : GC := .block 1 s77_125
theorem s77_126_w {E : Env} {nt : Nat} {rd : Option Nat} {fr : Fr} {h : Heap} {Q : Ex → Fr → Heap → Prop} : s77_126.wp E nt rd fr h Q = (GC.block 1 s77_125).wp E nt rd fr h Q := Eq.trans rfl rfl
def s77_127 : GC := .cond (.tmp 37) s77_126 .skip
theorem s77_127_w {E : Env} {nt : Nat} {rd : Option Nat} {fr : Fr} {h : Heap} {Q : Ex → Fr → Heap → Prop} : s77_127.wp E nt rd fr h Q = (GC.cond (.tmp 37) s77_126 .skip).wp E nt rd fr h Q := Eq.trans rfl rfl
def r77_128 : List GO := [⟨none, some 35, .move (.tmp 0)⟩,
  ⟨none, some 36, .index 9 (.tmp 35) (.const (.int .i64 0))⟩,
  ⟨none, some 37, .binOp .eql 5 (.tmp 36) (.const (.int .u8 48)) 5⟩]
theorem r77_128_w {E : Env} {fr : Fr} {h : Heap} {Q : Fr → Heap → Prop} : opsW E r77_128 fr h Q = opsW E [⟨none, some 35, .move (.tmp 0)⟩,
  ⟨none, some 36, .index 9 (.tmp 35) (.const (.int .i64 0))⟩,
  ⟨none, some 37, .binOp .eql 5 (.tmp 36) (.const (.int .u8 48)) 5⟩] fr h Q := Eq.trans rfl rfl
def s77_129 : GC := .seq (.ops r77_128) s77_127
theorem s77_129_w {E : Env} {nt : Nat} {rd : Option Nat} {fr : Fr} {h : Heap} {Q : Ex → Fr → Heap → Prop} : s77_129.wp E nt rd fr h Q = (GC.seq (.ops r77_128) s77_127).wp E nt rd fr h Q := Eq.trans rfl rfl
def r77_130 : List GO := [⟨none, some 1, .assign (.const (.int .i64 10))⟩]
theorem r77_130_w {E : Env} {fr : Fr} {h : Heap} {Q : Fr → Heap → Prop} : opsW E r77_130 fr h Q = opsW E [⟨none, some 1, .assign (.const (.int .i64 10))⟩] fr h Q := Eq.trans rfl rfl
def s77_131 : GC := .seq (.ops r77_130) s77_129
theorem s77_131_w {E : Env} {nt : Nat} {rd : Option Nat} {fr : Fr} {h : Heap} {Q : Ex → Fr → Heap → Prop} : s77_131.wp E nt rd fr h Q = (GC.seq (.ops r77_130) s77_129).wp E nt rd fr h Q := Eq.trans rfl rfl
def r77_132 : List GO := [⟨none, some 24, .makeInterface 107 (.const (.int .i64 3))⟩,
  ⟨none, some 6, .assign (.const (.int .u64 0))⟩,
  ⟨none, some 7, .assign (.tmp 24)⟩]
theorem r77_132_w {E : Env} {fr : Fr} {h : Heap} {Q : Fr → Heap → Prop} : opsW E r77_132 fr h Q = opsW E [⟨none, some 24, .makeInterface 107 (.const (.int .i64 3))⟩,
  ⟨none, some 6, .assign (.const (.int .u64 0))⟩,
  ⟨none, some 7, .assign (.tmp 24)⟩] fr h Q := Eq.trans rfl rfl
def s77_133 : GC := .seq (.ops r77_132) .ret
theorem s77_133_w {E : Env} {nt : Nat} {rd : Option Nat} {fr : Fr} {h : Heap} {Q : Ex → Fr → Heap → Prop} : s77_133.wp E nt rd fr h Q = (GC.seq (.ops r77_132) .ret).wp E nt rd fr h Q := Eq.trans rfl rfl
def s77_134 : GC := .cond (.tmp 32) s77_131 s77_133
theorem s77_134_w {E : Env} {nt : Nat} {rd : Option Nat} {fr : Fr} {h : Heap} {Q : Ex → Fr → Heap → Prop} : s77_134.wp E nt rd fr h Q = (GC.cond (.tmp 32) s77_131 s77_133).wp E nt rd fr h Q := Eq.trans rfl rfl
def r77_135 : List GO := [⟨none, some 33, .move (.tmp 1)⟩,
  ⟨none, some 34, .binOp .eql 3 (.tmp 33) (.const (.int .i64 0)) 3⟩,
  ⟨none, some 32, .assign (.tmp 34)⟩]
theorem r77_135_w {E : Env} {fr : Fr} {h : Heap} {Q : Fr → Heap → Prop} : opsW E r77_135 fr h Q = opsW E [⟨none, some 33, .move (.tmp 1)⟩,
  ⟨none, some 34, .binOp .eql 3 (.tmp 33) (.const (.int .i64 0)) 3⟩,
  ⟨none, some 32, .assign (.tmp 34)⟩] fr h Q := Eq.trans rfl rfl
def s77_136 : GC := .seq (.ops r77_135) s77_134
theorem s77_136_w {E : Env} {nt : Nat} {rd : Option Nat} {fr : Fr} {h : Heap} {Q : Ex → Fr → Heap → Prop} : s77_136.wp E nt rd fr h Q = (GC.seq (.ops r77_135) s77_134).wp E nt rd fr h Q := Eq.trans rfl rfl
def s77_137 : GC := .cond (.tmp 25) .skip s77_136
theorem s77_137_w {E : Env} {nt : Nat} {rd : Option Nat} {fr : Fr} {h : Heap} {Q : Ex → Fr → Heap → Prop} : s77_137.wp E nt rd fr h Q = (GC.cond (.tmp 25) .skip s77_136).wp E nt rd fr h Q := Eq.trans rfl rfl
def r77_138 : List GO := [⟨none, some 26, .move (.tmp 1)⟩,
  ⟨none, some 27, .binOp .leq 3 (.const (.int .i64 2)) (.tmp 26) 3⟩,
  ⟨none, some 28, .move (.tmp 27)⟩,
  ⟨some (28, true), some 29, .move (.tmp 1)⟩,
  ⟨some (28, true), some 30, .binOp .leq 3 (.tmp 29) (.const (.int .i64 36)) 3⟩,
  ⟨none, some 31, .pick (.tmp 28) (.tmp 30) (.const (.bool false))⟩,
  ⟨none, some 25, .assign (.tmp 31)⟩]
theorem r77_138_w {E : Env} {fr : Fr} {h : Heap} {Q : Fr → Heap → Prop} : opsW E r77_138 fr h Q = opsW E [⟨none, some 26, .move (.tmp 1)⟩,
  ⟨none, some 27, .binOp .leq 3 (.const (.int .i64 2)) (.tmp 26) 3⟩,
  ⟨none, some 28, .move (.tmp 27)⟩,
  ⟨some (28, true), some 29, .move (.tmp 1)⟩,
  ⟨some (28, true), some 30, .binOp .leq 3 (.tmp 29) (.const (.int .i64 36)) 3⟩,
  ⟨none, some 31, .pick (.tmp 28) (.tmp 30) (.const (.bool false))⟩,
  ⟨none, some 25, .assign (.tmp 31)⟩] fr h Q := Eq.trans rfl rfl
def s77_139 : GC := .seq (.ops r77_138) s77_137
theorem s77_139_w {E : Env} {nt : Nat} {rd : Option Nat} {fr : Fr} {h : Heap} {Q : Ex → Fr → Heap → Prop} : s77_139.wp E nt rd fr h Q = (GC.seq (.ops r77_138) s77_137).wp E nt rd fr h Q := Eq.trans rfl rfl
def s77_140 : GC := .seq (.block 0 s77_139) s77_100
theorem s77_140_w {E : Env} {nt : Nat} {rd : Option Nat} {fr : Fr} {h : Heap} {Q : Ex → Fr → Heap → Prop} : s77_140.wp E nt rd fr h Q = (GC.seq (.block 0 s77_139) s77_100).wp E nt rd fr h Q := Eq.trans rfl rfl
def r77_141 : List GO := [⟨none, some 23, .move (.tmp 0)⟩,
  ⟨none, some 9, .assign (.tmp 23)⟩]
theorem r77_141_w {E : Env} {fr : Fr} {h : Heap} {Q : Fr → Heap → Prop} : opsW E r77_141 fr h Q = opsW E [⟨none, some 23, .move (.tmp 0)⟩,
  ⟨none, some 9, .assign (.tmp 23)⟩] fr h Q := Eq.trans rfl rfl
def s77_142 : GC := .seq (.ops r77_141) s77_140
theorem s77_142_w {E : Env} {nt : Nat} {rd : Option Nat} {fr : Fr} {h : Heap} {Q : Ex → Fr → Heap → Prop} : s77_142.wp E nt rd fr h Q = (GC.seq (.ops r77_141) s77_140).wp E nt rd fr h Q := Eq.trans rfl rfl
def r77_143 : List GO := [⟨none, some 21, .move (.tmp 1)⟩,
  ⟨none, some 22, .binOp .eql 3 (.tmp 21) (.const (.int .i64 0)) 3⟩,
  ⟨none, some 8, .assign (.tmp 22)⟩]
theorem r77_143_w {E : Env} {fr : Fr} {h : Heap} {Q : Fr → Heap → Prop} : opsW E r77_143 fr h Q = opsW E [⟨none, some 21, .move (.tmp 1)⟩,
  ⟨none, some 22, .binOp .eql 3 (.tmp 21) (.const (.int .i64 0)) 3⟩,
  ⟨none, some 8, .assign (.tmp 22)⟩] fr h Q := Eq.trans rfl rfl
def s77_144 : GC := .seq (.ops r77_143) s77_142
theorem s77_144_w {E : Env} {nt : Nat} {rd : Option Nat} {fr : Fr} {h : Heap} {Q : Ex → Fr → Heap → Prop} : s77_144.wp E nt rd fr h Q = (GC.seq (.ops r77_143) s77_142).wp E nt rd fr h Q := Eq.trans rfl rfl
def r77_145 : List GO := [⟨none, some 20, .makeInterface 107 (.const (.int .i64 2))⟩,
  ⟨none, some 6, .assign (.const (.int .u64 0))⟩,
  ⟨none, some 7, .assign (.tmp 20)⟩]
theorem r77_145_w {E : Env} {fr : Fr} {h : Heap} {Q : Fr → Heap → Prop} : opsW E r77_145 fr h Q = opsW E [⟨none, some 20, .makeInterface 107 (.const (.int .i64 2))⟩,
  ⟨none, some 6, .assign (.const (.int .u64 0))⟩,
  ⟨none, some 7, .assign (.tmp 20)⟩] fr h Q := Eq.trans rfl rfl
def s77_146 : GC := .seq (.ops r77_145) .ret
theorem s77_146_w {E : Env} {nt : Nat} {rd : Option Nat} {fr : Fr} {h : Heap} {Q : Ex → Fr → Heap → Prop} : s77_146.wp E nt rd fr h Q = (GC.seq (.ops r77_145) .ret).wp E nt rd fr h Q := Eq.trans rfl rfl
def s77_147 : GC := .cond (.tmp 19) s77_146 .skip
theorem s77_147_w {E : Env} {nt : Nat} {rd : Option Nat} {fr : Fr} {h : Heap} {Q : Ex → Fr → Heap → Prop} : s77_147.wp E nt rd fr h Q = (GC.cond (.tmp 19) s77_146 .skip).wp E nt rd fr h Q := Eq.trans rfl rfl
def r77_148 : List GO := [⟨none, some 18, .move (.tmp 0)⟩,
  ⟨none, some 19, .binOp .eql 9 (.tmp 18) (.const (.string ⟨⟨[]⟩⟩)) 9⟩]
theorem r77_148_w {E : Env} {fr : Fr} {h : Heap} {Q : Fr → Heap → Prop} : opsW E r77_148 fr h Q = opsW E [⟨none, some 18, .move (.tmp 0)⟩,
  ⟨none, some 19, .binOp .eql 9 (.tmp 18) (.const (.string ⟨⟨[]⟩⟩)) 9⟩] fr h Q := Eq.trans rfl rfl
def s77_149 : GC := .seq (.ops r77_148) s77_147
theorem s77_149_w {E : Env} {nt : Nat} {rd : Option Nat} {fr : Fr} {h : Heap} {Q : Ex → Fr → Heap → Prop} : s77_149.wp E nt rd fr h Q = (GC.seq (.ops r77_148) s77_147).wp E nt rd fr h Q := Eq.trans rfl rfl
def s77_150 : GC := .seq (s77_149) s77_144
theorem s77_150_w {E : Env} {nt : Nat} {rd : Option Nat} {fr : Fr} {h : Heap} {Q : Ex → Fr → Heap → Prop} : s77_150.wp E nt rd fr h Q = (GC.seq (s77_149) s77_144).wp E nt rd fr h Q := Eq.trans rfl rfl
def r77_151 : List GO := [⟨none, some 6, .assign (.const (.int .u64 0))⟩,
  ⟨none, some 7, .assign (.const (.nilIface))⟩]
theorem r77_151_w {E : Env} {fr : Fr} {h : Heap} {Q : Fr → Heap → Prop} : opsW E r77_151 fr h Q = opsW E [⟨none, some 6, .assign (.const (.int .u64 0))⟩,
  ⟨none, some 7, .assign (.const (.nilIface))⟩] fr h Q := Eq.trans rfl rfl
def s77_152 : GC := .seq (.ops r77_151) s77_150
theorem s77_152_w {E : Env} {nt : Nat} {rd : Option Nat} {fr : Fr} {h : Heap} {Q : Ex → Fr → Heap → Prop} : s77_152.wp E nt rd fr h Q = (GC.seq (.ops r77_151) s77_150).wp E nt rd fr h Q := Eq.trans rfl rfl
theorem c77 : Tryd.f77.body.bind (clean env 172) = some s77_152 := by kernel_rfl
theorem e77 : env.funs.get 77 = some Tryd.f77 := by kernel_rfl
theorem F77 {args : List Value} {h : Heap} {K : Value → Heap → Prop} (hl : args.length = 3) (w : s77_152.wp env 172 none (setAll args 0 .leaf) h (resK env [.tmp 6, .tmp 7] K)) : Ret env (.func 77) args h K :=
  Ret.of_body' rfl e77 c77 rfl rfl (by rw [hl]; decide) w
/-! math.ldexp -/
def r79_0 : List GO := [⟨none, some 59, .move (.tmp 7)⟩,
  ⟨none, some 60, .move (.tmp 6)⟩,
  ⟨none, some 61, .call ⟨.value (.func 10), ⟨[.tmp 60]⟩, ⟨[23]⟩⟩⟩,
  ⟨none, some 62, .binOp .mul 27 (.tmp 59) (.tmp 61) 27⟩,
  ⟨none, some 4, .assign (.tmp 62)⟩]
theorem r79_0_w {E : Env} {fr : Fr} {h : Heap} {Q : Fr → Heap → Prop} : opsW E r79_0 fr h Q = opsW E [⟨none, some 59, .move (.tmp 7)⟩,
  ⟨none, some 60, .move (.tmp 6)⟩,
  ⟨none, some 61, .call ⟨.value (.func 10), ⟨[.tmp 60]⟩, ⟨[23]⟩⟩⟩,
  ⟨none, some 62, .binOp .mul 27 (.tmp 59) (.tmp 61) 27⟩,
  ⟨none, some 4, .assign (.tmp 62)⟩] fr h Q := Eq.trans rfl rfl
def s79_1 : GC := .seq (.ops r79_0) .ret
theorem s79_1_w {E : Env} {nt : Nat} {rd : Option Nat} {fr : Fr} {h : Heap} {Q : Ex → Fr → Heap → Prop} : s79_1.wp E nt rd fr h Q = (GC.seq (.ops r79_0) .ret).wp E nt rd fr h Q := Eq.trans rfl rfl
def r79_2 : List GO := [⟨none, some 53, .move (.tmp 6)⟩,
  ⟨none, some 54, .move (.tmp 1)⟩,
  ⟨none, some 55, .binOp .add 3 (.tmp 54) (.const (.int .i64 1023)) 3⟩,
  ⟨none, some 56, .convert 3 23 (.tmp 55)⟩,
  ⟨none, some 57, .binOp .shl 23 (.tmp 56) (.const (.int .u64 52)) 69⟩,
  ⟨none, some 58, .binOp .or 23 (.tmp 53) (.tmp 57) 23⟩,
  ⟨none, some 6, .assign (.tmp 58)⟩]
theorem r79_2_w {E : Env} {fr : Fr} {h : Heap} {Q : Fr → Heap → Prop} : opsW E r79_2 fr h Q = opsW E [⟨none, some 53, .move (.tmp 6)⟩,
  ⟨none, some 54, .move (.tmp 1)⟩,
  ⟨none, some 55, .binOp .add 3 (.tmp 54) (.const (.int .i64 1023)) 3⟩,
  ⟨none, some 56, .convert 3 23 (.tmp 55)⟩,
  ⟨none, some 57, .binOp .shl 23 (.tmp 56) (.const (.int .u64 52)) 69⟩,
  ⟨none, some 58, .binOp .or 23 (.tmp 53) (.tmp 57) 23⟩,
  ⟨none, some 6, .assign (.tmp 58)⟩] fr h Q := Eq.trans rfl rfl
def s79_3 : GC := .seq (.ops r79_2) s79_1
theorem s79_3_w {E : Env} {nt : Nat} {rd : Option Nat} {fr : Fr} {h : Heap} {Q : Ex → Fr → Heap → Prop} : s79_3.wp E nt rd fr h Q = (GC.seq (.ops r79_2) s79_1).wp E nt rd fr h Q := Eq.trans rfl rfl
def r79_4 : List GO := [⟨none, some 51, .move (.tmp 6)⟩,
  ⟨none, some 52, .binOp .andNot 23 (.tmp 51) (.const (.int .u64 9218868437227405312)) 23⟩,
  ⟨none, some 6, .assign (.tmp 52)⟩]
theorem r79_4_w {E : Env} {fr : Fr} {h : Heap} {Q : Fr → Heap → Prop} : opsW E r79_4 fr h Q = opsW E [⟨none, some 51, .move (.tmp 6)⟩,
  ⟨none, some 52, .binOp .andNot 23 (.tmp 51) (.const (.int .u64 9218868437227405312)) 23⟩,
  ⟨none, some 6, .assign (.tmp 52)⟩] fr h Q := Eq.trans rfl rfl
def s79_5 : GC := .seq (.ops r79_4) s79_3
theorem s79_5_w {E : Env} {nt : Nat} {rd : Option Nat} {fr : Fr} {h : Heap} {Q : Ex → Fr → Heap → Prop} : s79_5.wp E nt rd fr h Q = (GC.seq (.ops r79_4) s79_3).wp E nt rd fr h Q := Eq.trans rfl rfl
def r79_6 : List GO := [⟨none, some 7, .assign (.const (.float .f64 4368491638549381120))⟩]
theorem r79_6_w {E : Env} {fr : Fr} {h : Heap} {Q : Fr → Heap → Prop} : opsW E r79_6 fr h Q = opsW E [⟨none, some 7, .assign (.const (.float .f64 4368491638549381120))⟩] fr h Q := Eq.trans rfl rfl
def s79_7 : GC := .ops r79_6
theorem s79_7_w {E : Env} {nt : Nat} {rd : Option Nat} {fr : Fr} {h : Heap} {Q : Ex → Fr → Heap → Prop} : s79_7.wp E nt rd fr h Q = (GC.ops r79_6).wp E nt rd fr h Q := Eq.trans rfl rfl
def r79_8 : List GO := [⟨none, some 49, .move (.tmp 1)⟩,
  ⟨none, some 50, .binOp .add 3 (.tmp 49) (.const (.int .i64 53)) 3⟩,
  ⟨none, some 1, .assign (.tmp 50)⟩]
theorem r79_8_w {E : Env} {fr : Fr} {h : Heap} {Q : Fr → Heap → Prop} : opsW E r79_8 fr h Q = opsW E [⟨none, some 49, .move (.tmp 1)⟩,
  ⟨none, some 50, .binOp .add 3 (.tmp 49) (.const (.int .i64 53)) 3⟩,
  ⟨none, some 1, .assign (.tmp 50)⟩] fr h Q := Eq.trans rfl rfl
def s79_9 : GC := .seq (.ops r79_8) s79_7
theorem s79_9_w {E : Env} {nt : Nat} {rd : Option Nat} {fr : Fr} {h : Heap} {Q : Ex → Fr → Heap → Prop} : s79_9.wp E nt rd fr h Q = (GC.seq (.ops r79_8) s79_7).wp E nt rd fr h Q := Eq.trans rfl rfl
def s79_10 : GC := .cond (.tmp 48) s79_9 .skip
theorem s79_10_w {E : Env} {nt : Nat} {rd : Option Nat} {fr : Fr} {h : Heap} {Q : Ex → Fr → Heap → Prop} : s79_10.wp E nt rd fr h Q = (GC.cond (.tmp 48) s79_9 .skip).wp E nt rd fr h Q := Eq.trans rfl rfl
def r79_11 : List GO := [⟨none, some 47, .move (.tmp 1)⟩,
  ⟨none, some 48, .binOp .lss 3 (.tmp 47) (.const (.int .i64 (-1022))) 3⟩]
theorem r79_11_w {E : Env} {fr : Fr} {h : Heap} {Q : Fr → Heap → Prop} : opsW E r79_11 fr h Q = opsW E [⟨none, some 47, .move (.tmp 1)⟩,
  ⟨none, some 48, .binOp .lss 3 (.tmp 47) (.const (.int .i64 (-1022))) 3⟩] fr h Q := Eq.trans rfl rfl
def s79_12 : GC := .seq (.ops r79_11) s79_10
theorem s79_12_w {E : Env} {nt : Nat} {rd : Option Nat} {fr : Fr} {h : Heap} {Q : Ex → Fr → Heap → Prop} : s79_12.wp E nt rd fr h Q = (GC.seq (.ops r79_11) s79_10).wp E nt rd fr h Q := Eq.trans rfl rfl
def s79_13 : GC := .seq (s79_12) s79_5
theorem s79_13_w {E : Env} {nt : Nat} {rd : Option Nat} {fr : Fr} {h : Heap} {Q : Ex → Fr → Heap → Prop} : s79_13.wp E nt rd fr h Q = (GC.seq (s79_12) s79_5).wp E nt rd fr h Q := Eq.trans rfl rfl
def r79_14 : List GO := [⟨none, some 7, .assign (.const (.float .f64 4607182418800017408))⟩]
theorem r79_14_w {E : Env} {fr : Fr} {h : Heap} {Q : Fr → Heap → Prop} : opsW E r79_14 fr h Q = opsW E [⟨none, some 7, .assign (.const (.float .f64 4607182418800017408))⟩] fr h Q := Eq.trans rfl rfl
def s79_15 : GC := .seq (.ops r79_14) s79_13
theorem s79_15_w {E : Env} {nt : Nat} {rd : Option Nat} {fr : Fr} {h : Heap} {Q : Ex → Fr → Heap → Prop} : s79_15.wp E nt rd fr h Q = (GC.seq (.ops r79_14) s79_13).wp E nt rd fr h Q := Eq.trans rfl rfl
def r79_16 : List GO := [⟨none, some 46, .call ⟨.value (.func 38), ⟨[.const (.int .i64 1)]⟩, ⟨[3]⟩⟩⟩,
  ⟨none, some 4, .assign (.tmp 46)⟩]
theorem r79_16_w {E : Env} {fr : Fr} {h : Heap} {Q : Fr → Heap → Prop} : opsW E r79_16 fr h Q = opsW E [⟨none, some 46, .call ⟨.value (.func 38), ⟨[.const (.int .i64 1)]⟩, ⟨[3]⟩⟩⟩,
  ⟨none, some 4, .assign (.tmp 46)⟩] fr h Q := Eq.trans rfl rfl
def s79_17 : GC := .seq (.ops r79_16) .ret
theorem s79_17_w {E : Env} {nt : Nat} {rd : Option Nat} {fr : Fr} {h : Heap} {Q : Ex → Fr → Heap → Prop} : s79_17.wp E nt rd fr h Q = (GC.seq (.ops r79_16) .ret).wp E nt rd fr h Q := Eq.trans rfl rfl
def r79_18 : List GO := [⟨none, some 45, .call ⟨.value (.func 38), ⟨[.const (.int .i64 (-1))]⟩, ⟨[3]⟩⟩⟩,
  ⟨none, some 4, .assign (.tmp 45)⟩]
theorem r79_18_w {E : Env} {fr : Fr} {h : Heap} {Q : Fr → Heap → Prop} : opsW E r79_18 fr h Q = opsW E [⟨none, some 45, .call ⟨.value (.func 38), ⟨[.const (.int .i64 (-1))]⟩, ⟨[3]⟩⟩⟩,
  ⟨none, some 4, .assign (.tmp 45)⟩] fr h Q := Eq.trans rfl rfl
def s79_19 : GC := .seq (.ops r79_18) .ret
theorem s79_19_w {E : Env} {nt : Nat} {rd : Option Nat} {fr : Fr} {h : Heap} {Q : Ex → Fr → Heap → Prop} : s79_19.wp E nt rd fr h Q = (GC.seq (.ops r79_18) .ret).wp E nt rd fr h Q := Eq.trans rfl rfl
def s79_20 : GC := .cond (.tmp 44) s79_19 .skip
theorem s79_20_w {E : Env} {nt : Nat} {rd : Option Nat} {fr : Fr} {h : Heap} {Q : Ex → Fr → Heap → Prop} : s79_20.wp E nt rd fr h Q = (GC.cond (.tmp 44) s79_19 .skip).wp E nt rd fr h Q := Eq.trans rfl rfl
def r79_21 : List GO := [⟨none, some 43, .move (.tmp 0)⟩,
  ⟨none, some 44, .binOp .lss 27 (.tmp 43) (.const (.float .f64 0)) 27⟩]
theorem r79_21_w {E : Env} {fr : Fr} {h : Heap} {Q : Fr → Heap → Prop} : opsW E r79_21 fr h Q = opsW E [⟨none, some 43, .move (.tmp 0)⟩,
  ⟨none, some 44, .binOp .lss 27 (.tmp 43) (.const (.float .f64 0)) 27⟩] fr h Q := Eq.trans rfl rfl
def s79_22 : GC := .seq (.ops r79_21) s79_20
theorem s79_22_w {E : Env} {nt : Nat} {rd : Option Nat} {fr : Fr} {h : Heap} {Q : Ex → Fr → Heap → Prop} : s79_22.wp E nt rd fr h Q = (GC.seq (.ops r79_21) s79_20).wp E nt rd fr h Q := Eq.trans rfl rfl
def s79_23 : GC := .seq (s79_22) s79_17
theorem s79_23_w {E : Env} {nt : Nat} {rd : Option Nat} {fr : Fr} {h : Heap} {Q : Ex → Fr → Heap → Prop} : s79_23.wp E nt rd fr h Q = (GC.seq (s79_22) s79_17).wp E nt rd fr h Q := Eq.trans rfl rfl
def s79_24 : GC := .cond (.tmp 42) s79_23 .skip
theorem s79_24_w {E : Env} {nt : Nat} {rd : Option Nat} {fr : Fr} {h : Heap} {Q : Ex → Fr → Heap → Prop} : s79_24.wp E nt rd fr h Q = (GC.cond (.tmp 42) s79_23 .skip).wp E nt rd fr h Q := Eq.trans rfl rfl
def r79_25 : List GO := [⟨none, some 41, .move (.tmp 1)⟩,
  ⟨none, some 42, .binOp .gtr 3 (.tmp 41) (.const (.int .i64 1023)) 3⟩]
theorem r79_25_w {E : Env} {fr : Fr} {h : Heap} {Q : Fr → Heap → Prop} : opsW E r79_25 fr h Q = opsW E [⟨none, some 41, .move (.tmp 1)⟩,
  ⟨none, some 42, .binOp .gtr 3 (.tmp 41) (.const (.int .i64 1023)) 3⟩] fr h Q := Eq.trans rfl rfl
def s79_26 : GC := .seq (.ops r79_25) s79_24
theorem s79_26_w {E : Env} {nt : Nat} {rd : Option Nat} {fr : Fr} {h : Heap} {Q : Ex → Fr → Heap → Prop} : s79_26.wp E nt rd fr h Q = (GC.seq (.ops r79_25) s79_24).wp E nt rd fr h Q := Eq.trans rfl rfl
def s79_27 : GC := .seq (s79_26) s79_15
theorem s79_27_w {E : Env} {nt : Nat} {rd : Option Nat} {fr : Fr} {h : Heap} {Q : Ex → Fr → Heap → Prop} : s79_27.wp E nt rd fr h Q = (GC.seq (s79_26) s79_15).wp E nt rd fr h Q := Eq.trans rfl rfl
def r79_28 : List GO := [⟨none, some 39, .move (.tmp 0)⟩,
  ⟨none, some 40, .call ⟨.value (.func 39), ⟨[.const (.float .f64 0), .tmp 39]⟩, ⟨[27, 27]⟩⟩⟩,
  ⟨none, some 4, .assign (.tmp 40)⟩]
theorem r79_28_w {E : Env} {fr : Fr} {h : Heap} {Q : Fr → Heap → Prop} : opsW E r79_28 fr h Q = opsW E [⟨none, some 39, .move (.tmp 0)⟩,
  ⟨none, some 40, .call ⟨.value (.func 39), ⟨[.const (.float .f64 0), .tmp 39]⟩, ⟨[27, 27]⟩⟩⟩,
  ⟨none, some 4, .assign (.tmp 40)⟩] fr h Q := Eq.trans rfl rfl
def s79_29 : GC := .seq (.ops r79_28) .ret
theorem s79_29_w {E : Env} {nt : Nat} {rd : Option Nat} {fr : Fr} {h : Heap} {Q : Ex → Fr → Heap → Prop} : s79_29.wp E nt rd fr h Q = (GC.seq (.ops r79_28) .ret).wp E nt rd fr h Q := Eq.trans rfl rfl
def s79_30 : GC := .cond (.tmp 38) s79_29 .skip
theorem s79_30_w {E : Env} {nt : Nat} {rd : Option Nat} {fr : Fr} {h : Heap} {Q : Ex → Fr → Heap → Prop} : s79_30.wp E nt rd fr h Q = (GC.cond (.tmp 38) s79_29 .skip).wp E nt rd fr h Q := Eq.trans rfl rfl
def r79_31 : List GO := [⟨none, some 37, .move (.tmp 1)⟩,
  ⟨none, some 38, .binOp .lss 3 (.tmp 37) (.const (.int .i64 (-1075))) 3⟩]
theorem r79_31_w {E : Env} {fr : Fr} {h : Heap} {Q : Fr → Heap → Prop} : opsW E r79_31 fr h Q = opsW E [⟨none, some 37, .move (.tmp 1)⟩,
  ⟨none, some 38, .binOp .lss 3 (.tmp 37) (.const (.int .i64 (-1075))) 3⟩] fr h Q := Eq.trans rfl rfl
def s79_32 : GC := .seq (.ops r79_31) s79_30
theorem s79_32_w {E : Env} {nt : Nat} {rd : Option Nat} {fr : Fr} {h : Heap} {Q : Ex → Fr → Heap → Prop} : s79_32.wp E nt rd fr h Q = (GC.seq (.ops r79_31) s79_30).wp E nt rd fr h Q := Eq.trans rfl rfl
def s79_33 : GC := .seq (s79_32) s79_27
theorem s79_33_w {E : Env} {nt : Nat} {rd : Option Nat} {fr : Fr} {h : Heap} {Q : Ex → Fr → Heap → Prop} : s79_33.wp E nt rd fr h Q = (GC.seq (s79_32) s79_27).wp E nt rd fr h Q := Eq.trans rfl rfl
def r79_34 : List GO := [⟨none, some 30, .move (.tmp 1)⟩,
  ⟨none, some 31, .move (.tmp 6)⟩,
  ⟨none, some 32, .binOp .shr 23 (.tmp 31) (.const (.int .u64 52)) 69⟩,
  ⟨none, some 33, .convert 23 3 (.tmp 32)⟩,
  ⟨none, some 34, .binOp .and 3 (.tmp 33) (.const (.int .i64 2047)) 3⟩,
  ⟨none, some 35, .binOp .sub 3 (.tmp 34) (.const (.int .i64 1023)) 3⟩,
  ⟨none, some 36, .binOp .add 3 (.tmp 30) (.tmp 35) 3⟩,
  ⟨none, some 1, .assign (.tmp 36)⟩]
theorem r79_34_w {E : Env} {fr : Fr} {h : Heap} {Q : Fr → Heap → Prop} : opsW E r79_34 fr h Q = opsW E [⟨none, some 30, .move (.tmp 1)⟩,
  ⟨none, some 31, .move (.tmp 6)⟩,
  ⟨none, some 32, .binOp .shr 23 (.tmp 31) (.const (.int .u64 52)) 69⟩,
  ⟨none, some 33, .convert 23 3 (.tmp 32)⟩,
  ⟨none, some 34, .binOp .and 3 (.tmp 33) (.const (.int .i64 2047)) 3⟩,
  ⟨none, some 35, .binOp .sub 3 (.tmp 34) (.const (.int .i64 1023)) 3⟩,
  ⟨none, some 36, .binOp .add 3 (.tmp 30) (.tmp 35) 3⟩,
  ⟨none, some 1, .assign (.tmp 36)⟩] fr h Q := Eq.trans rfl rfl
def s79_35 : GC := .seq (.ops r79_34) s79_33
theorem s79_35_w {E : Env} {nt : Nat} {rd : Option Nat} {fr : Fr} {h : Heap} {Q : Ex → Fr → Heap → Prop} : s79_35.wp E nt rd fr h Q = (GC.seq (.ops r79_34) s79_33).wp E nt rd fr h Q := Eq.trans rfl rfl
def r79_36 : List GO := [⟨none, some 28, .move (.tmp 0)⟩,
  ⟨none, some 29, .call ⟨.value (.func 18), ⟨[.tmp 28]⟩, ⟨[27]⟩⟩⟩,
  ⟨none, some 6, .assign (.tmp 29)⟩]
theorem r79_36_w {E : Env} {fr : Fr} {h : Heap} {Q : Fr → Heap → Prop} : opsW E r79_36 fr h Q = opsW E [⟨none, some 28, .move (.tmp 0)⟩,
  ⟨none, some 29, .call ⟨.value (.func 18), ⟨[.tmp 28]⟩, ⟨[27]⟩⟩⟩,
  ⟨none, some 6, .assign (.tmp 29)⟩] fr h Q := Eq.trans rfl rfl
def s79_37 : GC := .seq (.ops r79_36) s79_35
theorem s79_37_w {E : Env} {nt : Nat} {rd : Option Nat} {fr : Fr} {h : Heap} {Q : Ex → Fr → Heap → Prop} : s79_37.wp E nt rd fr h Q = (GC.seq (.ops r79_36) s79_35).wp E nt rd fr h Q := Eq.trans rfl rfl
def r79_38 : List GO := [⟨none, some 25, .move (.tmp 1)⟩,
  ⟨none, some 26, .move (.tmp 5)⟩,
  ⟨none, some 27, .binOp .add 3 (.tmp 25) (.tmp 26) 3⟩,
  ⟨none, some 1, .assign (.tmp 27)⟩]
theorem r79_38_w {E : Env} {fr : Fr} {h : Heap} {Q : Fr → Heap → Prop} : opsW E r79_38 fr h Q = opsW E [⟨none, some 25, .move (.tmp 1)⟩,
  ⟨none, some 26, .move (.tmp 5)⟩,
  ⟨none, some 27, .binOp .add 3 (.tmp 25) (.tmp 26) 3⟩,
  ⟨none, some 1, .assign (.tmp 27)⟩] fr h Q := Eq.trans rfl rfl
def s79_39 : GC := .seq (.ops r79_38) s79_37
theorem s79_39_w {E : Env} {nt : Nat} {rd : Option Nat} {fr : Fr} {h : Heap} {Q : Ex → Fr → Heap → Prop} : s79_39.wp E nt rd fr h Q = (GC.seq (.ops r79_38) s79_37).wp E nt rd fr h Q := Eq.trans rfl rfl
def r79_40 : List GO := [⟨none, some 21, .move (.tmp 0)⟩,
  ⟨none, some 22, .call ⟨.value (.func 100), ⟨[.tmp 21]⟩, ⟨[27]⟩⟩⟩,
  ⟨none, some 20, .move (.tmp 22)⟩,
  ⟨none, some 23, .extract (.tmp 20) 0⟩,
  ⟨none, some 24, .extract (.tmp 20) 1⟩,
  ⟨none, some 0, .assign (.tmp 23)⟩,
  ⟨none, some 5, .assign (.tmp 24)⟩]
theorem r79_40_w {E : Env} {fr : Fr} {h : Heap} {Q : Fr → Heap → Prop} : opsW E r79_40 fr h Q = opsW E [⟨none, some 21, .move (.tmp 0)⟩,
  ⟨none, some 22, .call ⟨.value (.func 100), ⟨[.tmp 21]⟩, ⟨[27]⟩⟩⟩,
  ⟨none, some 20, .move (.tmp 22)⟩,
  ⟨none, some 23, .extract (.tmp 20) 0⟩,
  ⟨none, some 24, .extract (.tmp 20) 1⟩,
  ⟨none, some 0, .assign (.tmp 23)⟩,
  ⟨none, some 5, .assign (.tmp 24)⟩] fr h Q := Eq.trans rfl rfl
def s79_41 : GC := .seq (.ops r79_40) s79_39
theorem s79_41_w {E : Env} {nt : Nat} {rd : Option Nat} {fr : Fr} {h : Heap} {Q : Ex → Fr → Heap → Prop} : s79_41.wp E nt rd fr h Q = (GC.seq (.ops r79_40) s79_39).wp E nt rd fr h Q := Eq.trans rfl rfl
def r79_42 : List GO := [⟨none, some 11, .move (.tmp 0)⟩,
  ⟨none, some 4, .assign (.tmp 11)⟩]
theorem r79_42_w {E : Env} {fr : Fr} {h : Heap} {Q : Fr → Heap → Prop} : opsW E r79_42 fr h Q = opsW E [⟨none, some 11, .move (.tmp 0)⟩,
  ⟨none, some 4, .assign (.tmp 11)⟩] fr h Q := Eq.trans rfl rfl
def s79_43 : GC := .seq (.ops r79_42) .ret
theorem s79_43_w {E : Env} {nt : Nat} {rd : Option Nat} {fr : Fr} {h : Heap} {Q : Ex → Fr → Heap → Prop} : s79_43.wp E nt rd fr h Q = (GC.seq (.ops r79_42) .ret).wp E nt rd fr h Q := Eq.trans rfl rfl
def r79_44 : List GO := [⟨none, some 19, .move (.tmp 0)⟩,
  ⟨none, some 4, .assign (.tmp 19)⟩]
theorem r79_44_w {E : Env} {fr : Fr} {h : Heap} {Q : Fr → Heap → Prop} : opsW E r79_44 fr h Q = opsW E [⟨none, some 19, .move (.tmp 0)⟩,
  ⟨none, some 4, .assign (.tmp 19)⟩] fr h Q := Eq.trans rfl rfl
def s79_45 : GC := .seq (.ops r79_44) .ret
theorem s79_45_w {E : Env} {nt : Nat} {rd : Option Nat} {fr : Fr} {h : Heap} {Q : Ex → Fr → Heap → Prop} : s79_45.wp E nt rd fr h Q = (GC.seq (.ops r79_44) .ret).wp E nt rd fr h Q := Eq.trans rfl rfl
def s79_46 : GC := .cond (.tmp 12) s79_45 .skip
theorem s79_46_w {E : Env} {nt : Nat} {rd : Option Nat} {fr : Fr} {h : Heap} {Q : Ex → Fr → Heap → Prop} : s79_46.wp E nt rd fr h Q = (GC.cond (.tmp 12) s79_45 .skip).wp E nt rd fr h Q := Eq.trans rfl rfl
def r79_47 : List GO := [⟨none, some 13, .move (.tmp 0)⟩,
  ⟨none, some 14, .call ⟨.value (.func 71), ⟨[.tmp 13, .const (.int .i64 0)]⟩, ⟨[27, 3]⟩⟩⟩,
  ⟨none, some 15, .move (.tmp 14)⟩,
  ⟨some (15, false), some 16, .move (.tmp 0)⟩,
  ⟨some (15, false), some 17, .call ⟨.value (.func 63), ⟨[.tmp 16]⟩, ⟨[27]⟩⟩⟩,
  ⟨none, some 18, .pick (.tmp 15) (.const (.bool true)) (.tmp 17)⟩,
  ⟨none, some 12, .assign (.tmp 18)⟩]
theorem r79_47_w {E : Env} {fr : Fr} {h : Heap} {Q : Fr → Heap → Prop} : opsW E r79_47 fr h Q = opsW E [⟨none, some 13, .move (.tmp 0)⟩,
  ⟨none, some 14, .call ⟨.value (.func 71), ⟨[.tmp 13, .const (.int .i64 0)]⟩, ⟨[27, 3]⟩⟩⟩,
  ⟨none, some 15, .move (.tmp 14)⟩,
  ⟨some (15, false), some 16, .move (.tmp 0)⟩,
  ⟨some (15, false), some 17, .call ⟨.value (.func 63), ⟨[.tmp 16]⟩, ⟨[27]⟩⟩⟩,
  ⟨none, some 18, .pick (.tmp 15) (.const (.bool true)) (.tmp 17)⟩,
  ⟨none, some 12, .assign (.tmp 18)⟩] fr h Q := Eq.trans rfl rfl
def s79_48 : GC := .seq (.ops r79_47) s79_46
theorem s79_48_w {E : Env} {nt : Nat} {rd : Option Nat} {fr : Fr} {h : Heap} {Q : Ex → Fr → Heap → Prop} : s79_48.wp E nt rd fr h Q = (GC.seq (.ops r79_47) s79_46).wp E nt rd fr h Q := Eq.trans rfl rfl
def s79_49 : GC := .cond (.tmp 8) s79_43 s79_48
theorem s79_49_w {E : Env} {nt : Nat} {rd : Option Nat} {fr : Fr} {h : Heap} {Q : Ex → Fr → Heap → Prop} : s79_49.wp E nt rd fr h Q = (GC.cond (.tmp 8) s79_43 s79_48).wp E nt rd fr h Q := Eq.trans rfl rfl
def r79_50 : List GO := [⟨none, some 9, .move (.tmp 0)⟩,
  ⟨none, some 10, .binOp .eql 27 (.tmp 9) (.const (.float .f64 0)) 27⟩,
  ⟨none, some 8, .assign (.tmp 10)⟩]
theorem r79_50_w {E : Env} {fr : Fr} {h : Heap} {Q : Fr → Heap → Prop} : opsW E r79_50 fr h Q = opsW E [⟨none, some 9, .move (.tmp 0)⟩,
  ⟨none, some 10, .binOp .eql 27 (.tmp 9) (.const (.float .f64 0)) 27⟩,
  ⟨none, some 8, .assign (.tmp 10)⟩] fr h Q := Eq.trans rfl rfl
def s79_51 : GC := .seq (.ops r79_50) s79_49
theorem s79_51_w {E : Env} {nt : Nat} {rd : Option Nat} {fr : Fr} {h : Heap} {Q : Ex → Fr → Heap → Prop} : s79_51.wp E nt rd fr h Q = (GC.seq (.ops r79_50) s79_49).wp E nt rd fr h Q := Eq.trans rfl rfl
def s79_52 : GC := .seq (.block 0 s79_51) s79_41
theorem s79_52_w {E : Env} {nt : Nat} {rd : Option Nat} {fr : Fr} {h : Heap} {Q : Ex → Fr → Heap → Prop} : s79_52.wp E nt rd fr h Q = (GC.seq (.block 0 s79_51) s79_41).wp E nt rd fr h Q := Eq.trans rfl rfl
def r79_53 : List GO := [⟨none, some 4, .assign (.const (.float .f64 0))⟩]
theorem r79_53_w {E : Env} {fr : Fr} {h : Heap} {Q : Fr → Heap → Prop} : opsW E r79_53 fr h Q = opsW E [⟨none, some 4, .assign (.const (.float .f64 0))⟩] fr h Q := Eq.trans rfl rfl
def s79_54 : GC := .seq (.ops r79_53) s79_52
theorem s79_54_w {E : Env} {nt : Nat} {rd : Option Nat} {fr : Fr} {h : Heap} {Q : Ex → Fr → Heap → Prop} : s79_54.wp E nt rd fr h Q = (GC.seq (.ops r79_53) s79_52).wp E nt rd fr h Q := Eq.trans rfl rfl
theorem c79 : Tryd.f79.body.bind (clean env 63) = some s79_54 := by kernel_rfl
theorem e79 : env.funs.get 79 = some Tryd.f79 := by kernel_rfl
theorem F79 {args : List Value} {h : Heap} {K : Value → Heap → Prop} (hl : args.length = 2) (w : s79_54.wp env 63 none (setAll args 0 .leaf) h (resK env [.tmp 4] K)) : Ret env (.func 79) args h K :=
  Ret.of_body' rfl e79 c79 rfl rfl (by rw [hl]; decide) w
/-! internal/strconv.FormatInt -/
def r83_0 : List GO := [⟨none, some 53, .move (.tmp 9)⟩,
  ⟨none, some 4, .assign (.tmp 53)⟩]
theorem r83_0_w {E : Env} {fr : Fr} {h : Heap} {Q : Fr → Heap → Prop} : opsW E r83_0 fr h Q = opsW E [⟨none, some 53, .move (.tmp 9)⟩,
  ⟨none, some 4, .assign (.tmp 53)⟩] fr h Q := Eq.trans rfl rfl
def s83_1 : GC := .seq (.ops r83_0) .ret
theorem s83_1_w {E : Env} {nt : Nat} {rd : Option Nat} {fr : Fr} {h : Heap} {Q : Ex → Fr → Heap → Prop} : s83_1.wp E nt rd fr h Q = (GC.seq (.ops r83_0) .ret).wp E nt rd fr h Q := Eq.trans rfl rfl
def r83_2 : List GO := [⟨none, some 45, .move (.tmp 0)⟩,
  ⟨none, some 46, .convert 2 23 (.tmp 45)⟩,
  ⟨none, some 47, .move (.tmp 1)⟩,
  ⟨none, some 48, .move (.tmp 0)⟩,
  ⟨none, some 49, .binOp .lss 2 (.tmp 48) (.const (.int .i64 0)) 2⟩,
  ⟨none, some 50, .call ⟨.value (.func 87), ⟨[.const (.slice none 0 0), .tmp 46, .tmp 47, .tmp 49, .const (.bool false)]⟩, ⟨[87, 23, 3, 4, 4]⟩⟩⟩,
  ⟨none, some 44, .move (.tmp 50)⟩,
  ⟨none, some 51, .extract (.tmp 44) 0⟩,
  ⟨none, some 52, .extract (.tmp 44) 1⟩,
  ⟨none, some 8, .assign (.tmp 51)⟩,
  ⟨none, some 9, .assign (.tmp 52)⟩]
theorem r83_2_w {E : Env} {fr : Fr} {h : Heap} {Q : Fr → Heap → Prop} : opsW E r83_2 fr h Q = opsW E [⟨none, some 45, .move (.tmp 0)⟩,
  ⟨none, some 46, .convert 2 23 (.tmp 45)⟩,
  ⟨none, some 47, .move (.tmp 1)⟩,
  ⟨none, some 48, .move (.tmp 0)⟩,
  ⟨none, some 49, .binOp .lss 2 (.tmp 48) (.const (.int .i64 0)) 2⟩,
  ⟨none, some 50, .call ⟨.value (.func 87), ⟨[.const (.slice none 0 0), .tmp 46, .tmp 47, .tmp 49, .const (.bool false)]⟩, ⟨[87, 23, 3, 4, 4]⟩⟩⟩,
  ⟨none, some 44, .move (.tmp 50)⟩,
  ⟨none, some 51, .extract (.tmp 44) 0⟩,
  ⟨none, some 52, .extract (.tmp 44) 1⟩,
  ⟨none, some 8, .assign (.tmp 51)⟩,
  ⟨none, some 9, .assign (.tmp 52)⟩] fr h Q := Eq.trans rfl rfl
def s83_3 : GC := .seq (.ops r83_2) s83_1
theorem s83_3_w {E : Env} {nt : Nat} {rd : Option Nat} {fr : Fr} {h : Heap} {Q : Ex → Fr → Heap → Prop} : s83_3.wp E nt rd fr h Q = (GC.seq (.ops r83_2) s83_1).wp E nt rd fr h Q := Eq.trans rfl rfl
def r83_4 : List GO := [⟨none, some 40, .move (.tmp 7)⟩,
  ⟨none, some 41, .binOp .add 3 (.const (.int .i64 1)) (.tmp 40) 3⟩,
  ⟨none, some 42, .slice 99 (.tmp 5) (some (.const (.int .i64 1))) (some (.tmp 41)) none⟩,
  ⟨none, some 43, .convert 87 9 (.tmp 42)⟩,
  ⟨none, some 4, .assign (.tmp 43)⟩]
theorem r83_4_w {E : Env} {fr : Fr} {h : Heap} {Q : Fr → Heap → Prop} : opsW E r83_4 fr h Q = opsW E [⟨none, some 40, .move (.tmp 7)⟩,
  ⟨none, some 41, .binOp .add 3 (.const (.int .i64 1)) (.tmp 40) 3⟩,
  ⟨none, some 42, .slice 99 (.tmp 5) (some (.const (.int .i64 1))) (some (.tmp 41)) none⟩,
  ⟨none, some 43, .convert 87 9 (.tmp 42)⟩,
  ⟨none, some 4, .assign (.tmp 43)⟩] fr h Q := Eq.trans rfl rfl
def s83_5 : GC := .seq (.ops r83_4) .ret
theorem s83_5_w {E : Env} {nt : Nat} {rd : Option Nat} {fr : Fr} {h : Heap} {Q : Ex → Fr → Heap → Prop} : s83_5.wp E nt rd fr h Q = (GC.seq (.ops r83_4) .ret).wp E nt rd fr h Q := Eq.trans rfl rfl
def r83_6 : List GO := [⟨none, some 36, .move (.tmp 7)⟩,
  ⟨none, some 37, .binOp .add 3 (.const (.int .i64 1)) (.tmp 36) 3⟩,
  ⟨none, some 38, .slice 99 (.tmp 5) none (some (.tmp 37)) none⟩,
  ⟨none, some 39, .convert 87 9 (.tmp 38)⟩,
  ⟨none, some 4, .assign (.tmp 39)⟩]
theorem r83_6_w {E : Env} {fr : Fr} {h : Heap} {Q : Fr → Heap → Prop} : opsW E r83_6 fr h Q = opsW E [⟨none, some 36, .move (.tmp 7)⟩,
  ⟨none, some 37, .binOp .add 3 (.const (.int .i64 1)) (.tmp 36) 3⟩,
  ⟨none, some 38, .slice 99 (.tmp 5) none (some (.tmp 37)) none⟩,
  ⟨none, some 39, .convert 87 9 (.tmp 38)⟩,
  ⟨none, some 4, .assign (.tmp 39)⟩] fr h Q := Eq.trans rfl rfl
def s83_7 : GC := .seq (.ops r83_6) .ret
theorem s83_7_w {E : Env} {nt : Nat} {rd : Option Nat} {fr : Fr} {h : Heap} {Q : Ex → Fr → Heap → Prop} : s83_7.wp E nt rd fr h Q = (GC.seq (.ops r83_6) .ret).wp E nt rd fr h Q := Eq.trans rfl rfl
def r83_8 : List GO := [⟨none, some 35, .indexAddr 99 (.tmp 5) (.const (.int .i64 0))⟩,
  ⟨none, none, .store 5 (.tmp 35) (.const (.int .u8 45))⟩]
theorem r83_8_w {E : Env} {fr : Fr} {h : Heap} {Q : Fr → Heap → Prop} : opsW E r83_8 fr h Q = opsW E [⟨none, some 35, .indexAddr 99 (.tmp 5) (.const (.int .i64 0))⟩,
  ⟨none, none, .store 5 (.tmp 35) (.const (.int .u8 45))⟩] fr h Q := Eq.trans rfl rfl
def s83_9 : GC := .seq (.ops r83_8) s83_7
theorem s83_9_w {E : Env} {nt : Nat} {rd : Option Nat} {fr : Fr} {h : Heap} {Q : Ex → Fr → Heap → Prop} : s83_9.wp E nt rd fr h Q = (GC.seq (.ops r83_8) s83_7).wp E nt rd fr h Q := Eq.trans rfl rfl
def s83_10 : GC := .cond (.tmp 34) s83_9 .skip
theorem s83_10_w {E : Env} {nt : Nat} {rd : Option Nat} {fr : Fr} {h : Heap} {Q : Ex → Fr → Heap → Prop} : s83_10.wp E nt rd fr h Q = (GC.cond (.tmp 34) s83_9 .skip).wp E nt rd fr h Q := Eq.trans rfl rfl
def r83_11 : List GO := [⟨none, some 33, .move (.tmp 0)⟩,
  ⟨none, some 34, .binOp .lss 2 (.tmp 33) (.const (.int .i64 0)) 2⟩]
theorem r83_11_w {E : Env} {fr : Fr} {h : Heap} {Q : Fr → Heap → Prop} : opsW E r83_11 fr h Q = opsW E [⟨none, some 33, .move (.tmp 0)⟩,
  ⟨none, some 34, .binOp .lss 2 (.tmp 33) (.const (.int .i64 0)) 2⟩] fr h Q := Eq.trans rfl rfl
def s83_12 : GC := .seq (.ops r83_11) s83_10
theorem s83_12_w {E : Env} {nt : Nat} {rd : Option Nat} {fr : Fr} {h : Heap} {Q : Ex → Fr → Heap → Prop} : s83_12.wp E nt rd fr h Q = (GC.seq (.ops r83_11) s83_10).wp E nt rd fr h Q := Eq.trans rfl rfl
def s83_13 : GC := .seq (s83_12) s83_5
theorem s83_13_w {E : Env} {nt : Nat} {rd : Option Nat} {fr : Fr} {h : Heap} {Q : Ex → Fr → Heap → Prop} : s83_13.wp E nt rd fr h Q = (GC.seq (s83_12) s83_5).wp E nt rd fr h Q := Eq.trans rfl rfl
def r83_14 : List GO := [⟨none, some 28, .move (.tmp 7)⟩,
  ⟨none, some 29, .binOp .add 3 (.const (.int .i64 1)) (.tmp 28) 3⟩,
  ⟨none, some 30, .slice 99 (.tmp 5) (some (.const (.int .i64 1))) (some (.tmp 29)) none⟩,
  ⟨none, some 31, .move (.tmp 6)⟩,
  ⟨none, some 32, .call ⟨.value (.func 86), ⟨[.tmp 30, .tmp 31]⟩, ⟨[87, 23]⟩⟩⟩]
theorem r83_14_w {E : Env} {fr : Fr} {h : Heap} {Q : Fr → Heap → Prop} : opsW E r83_14 fr h Q = opsW E [⟨none, some 28, .move (.tmp 7)⟩,
  ⟨none, some 29, .binOp .add 3 (.const (.int .i64 1)) (.tmp 28) 3⟩,
  ⟨none, some 30, .slice 99 (.tmp 5) (some (.const (.int .i64 1))) (some (.tmp 29)) none⟩,
  ⟨none, some 31, .move (.tmp 6)⟩,
  ⟨none, some 32, .call ⟨.value (.func 86), ⟨[.tmp 30, .tmp 31]⟩, ⟨[87, 23]⟩⟩⟩] fr h Q := Eq.trans rfl rfl
def s83_15 : GC := .seq (.ops r83_14) s83_13
theorem s83_15_w {E : Env} {nt : Nat} {rd : Option Nat} {fr : Fr} {h : Heap} {Q : Ex → Fr → Heap → Prop} : s83_15.wp E nt rd fr h Q = (GC.seq (.ops r83_14) s83_13).wp E nt rd fr h Q := Eq.trans rfl rfl
def r83_16 : List GO := [⟨none, some 26, .move (.tmp 6)⟩,
  ⟨none, some 27, .call ⟨.value (.func 85), ⟨[.tmp 26]⟩, ⟨[23]⟩⟩⟩,
  ⟨none, some 7, .assign (.tmp 27)⟩]
theorem r83_16_w {E : Env} {fr : Fr} {h : Heap} {Q : Fr → Heap → Prop} : opsW E r83_16 fr h Q = opsW E [⟨none, some 26, .move (.tmp 6)⟩,
  ⟨none, some 27, .call ⟨.value (.func 85), ⟨[.tmp 26]⟩, ⟨[23]⟩⟩⟩,
  ⟨none, some 7, .assign (.tmp 27)⟩] fr h Q := Eq.trans rfl rfl
def s83_17 : GC := .seq (.ops r83_16) s83_15
theorem s83_17_w {E : Env} {nt : Nat} {rd : Option Nat} {fr : Fr} {h : Heap} {Q : Ex → Fr → Heap → Prop} : s83_17.wp E nt rd fr h Q = (GC.seq (.ops r83_16) s83_15).wp E nt rd fr h Q := Eq.trans rfl rfl
def r83_18 : List GO := [⟨none, some 24, .move (.tmp 6)⟩,
  ⟨none, some 25, .unOp .neg 23 (.tmp 24)⟩,
  ⟨none, some 6, .assign (.tmp 25)⟩]
theorem r83_18_w {E : Env} {fr : Fr} {h : Heap} {Q : Fr → Heap → Prop} : opsW E r83_18 fr h Q = opsW E [⟨none, some 24, .move (.tmp 6)⟩,
  ⟨none, some 25, .unOp .neg 23 (.tmp 24)⟩,
  ⟨none, some 6, .assign (.tmp 25)⟩] fr h Q := Eq.trans rfl rfl
def s83_19 : GC := .ops r83_18
theorem s83_19_w {E : Env} {nt : Nat} {rd : Option Nat} {fr : Fr} {h : Heap} {Q : Ex → Fr → Heap → Prop} : s83_19.wp E nt rd fr h Q = (GC.ops r83_18).wp E nt rd fr h Q := Eq.trans rfl rfl
def s83_20 : GC := .cond (.tmp 23) s83_19 .skip
theorem s83_20_w {E : Env} {nt : Nat} {rd : Option Nat} {fr : Fr} {h : Heap} {Q : Ex → Fr → Heap → Prop} : s83_20.wp E nt rd fr h Q = (GC.cond (.tmp 23) s83_19 .skip).wp E nt rd fr h Q := Eq.trans rfl rfl
def r83_21 : List GO := [⟨none, some 22, .move (.tmp 0)⟩,
  ⟨none, some 23, .binOp .lss 2 (.tmp 22) (.const (.int .i64 0)) 2⟩]
theorem r83_21_w {E : Env} {fr : Fr} {h : Heap} {Q : Fr → Heap → Prop} : opsW E r83_21 fr h Q = opsW E [⟨none, some 22, .move (.tmp 0)⟩,
  ⟨none, some 23, .binOp .lss 2 (.tmp 22) (.const (.int .i64 0)) 2⟩] fr h Q := Eq.trans rfl rfl
def s83_22 : GC := .seq (.ops r83_21) s83_20
theorem s83_22_w {E : Env} {nt : Nat} {rd : Option Nat} {fr : Fr} {h : Heap} {Q : Ex → Fr → Heap → Prop} : s83_22.wp E nt rd fr h Q = (GC.seq (.ops r83_21) s83_20).wp E nt rd fr h Q := Eq.trans rfl rfl
def s83_23 : GC := .seq (s83_22) s83_17
theorem s83_23_w {E : Env} {nt : Nat} {rd : Option Nat} {fr : Fr} {h : Heap} {Q : Ex → Fr → Heap → Prop} : s83_23.wp E nt rd fr h Q = (GC.seq (s83_22) s83_17).wp E nt rd fr h Q := Eq.trans rfl rfl
def r83_24 : List GO := [⟨none, some 20, .move (.tmp 0)⟩,
  ⟨none, some 21, .convert 2 23 (.tmp 20)⟩,
  ⟨none, some 6, .assign (.tmp 21)⟩]
theorem r83_24_w {E : Env} {fr : Fr} {h : Heap} {Q : Fr → Heap → Prop} : opsW E r83_24 fr h Q = opsW E [⟨none, some 20, .move (.tmp 0)⟩,
  ⟨none, some 21, .convert 2 23 (.tmp 20)⟩,
  ⟨none, some 6, .assign (.tmp 21)⟩] fr h Q := Eq.trans rfl rfl
def s83_25 : GC := .seq (.ops r83_24) s83_23
theorem s83_25_w {E : Env} {nt : Nat} {rd : Option Nat} {fr : Fr} {h : Heap} {Q : Ex → Fr → Heap → Prop} : s83_25.wp E nt rd fr h Q = (GC.seq (.ops r83_24) s83_23).wp E nt rd fr h Q := Eq.trans rfl rfl
def r83_26 : List GO := [⟨none, some 5, .alloc 99⟩]
theorem r83_26_w {E : Env} {fr : Fr} {h : Heap} {Q : Fr → Heap → Prop} : opsW E r83_26 fr h Q = opsW E [⟨none, some 5, .alloc 99⟩] fr h Q := Eq.trans rfl rfl
def s83_27 : GC := .seq (.ops r83_26) s83_25
theorem s83_27_w {E : Env} {nt : Nat} {rd : Option Nat} {fr : Fr} {h : Heap} {Q : Ex → Fr → Heap → Prop} : s83_27.wp E nt rd fr h Q = (GC.seq (.ops r83_26) s83_25).wp E nt rd fr h Q := Eq.trans rfl rfl
def r83_28 : List GO := [⟨none, some 18, .move (.tmp 0)⟩,
  ⟨none, some 19, .call ⟨.value (.func 84), ⟨[.tmp 18]⟩, ⟨[3]⟩⟩⟩,
  ⟨none, some 4, .assign (.tmp 19)⟩]
theorem r83_28_w {E : Env} {fr : Fr} {h : Heap} {Q : Fr → Heap → Prop} : opsW E r83_28 fr h Q = opsW E [⟨none, some 18, .move (.tmp 0)⟩,
  ⟨none, some 19, .call ⟨.value (.func 84), ⟨[.tmp 18]⟩, ⟨[3]⟩⟩⟩,
  ⟨none, some 4, .assign (.tmp 19)⟩] fr h Q := Eq.trans rfl rfl
def s83_29 : GC := .seq (.ops r83_28) .ret
theorem s83_29_w {E : Env} {nt : Nat} {rd : Option Nat} {fr : Fr} {h : Heap} {Q : Ex → Fr → Heap → Prop} : s83_29.wp E nt rd fr h Q = (GC.seq (.ops r83_28) .ret).wp E nt rd fr h Q := Eq.trans rfl rfl
def s83_30 : GC := .cond (.tmp 17) s83_29 .skip
theorem s83_30_w {E : Env} {nt : Nat} {rd : Option Nat} {fr : Fr} {h : Heap} {Q : Ex → Fr → Heap → Prop} : s83_30.wp E nt rd fr h Q = (GC.cond (.tmp 17) s83_29 .skip).wp E nt rd fr h Q := Eq.trans rfl rfl
def r83_31 : List GO := [⟨none, some 12, .move (.tmp 0)⟩,
  ⟨none, some 13, .binOp .leq 2 (.const (.int .i64 0)) (.tmp 12) 2⟩,
  ⟨none, some 14, .move (.tmp 13)⟩,
  ⟨some (14, true), some 15, .move (.tmp 0)⟩,
  ⟨some (14, true), some 16, .binOp .lss 2 (.tmp 15) (.const (.int .i64 100)) 2⟩,
  ⟨none, some 17, .pick (.tmp 14) (.tmp 16) (.const (.bool false))⟩]
theorem r83_31_w {E : Env} {fr : Fr} {h : Heap} {Q : Fr → Heap → Prop} : opsW E r83_31 fr h Q = opsW E [⟨none, some 12, .move (.tmp 0)⟩,
  ⟨none, some 13, .binOp .leq 2 (.const (.int .i64 0)) (.tmp 12) 2⟩,
  ⟨none, some 14, .move (.tmp 13)⟩,
  ⟨some (14, true), some 15, .move (.tmp 0)⟩,
  ⟨some (14, true), some 16, .binOp .lss 2 (.tmp 15) (.const (.int .i64 100)) 2⟩,
  ⟨none, some 17, .pick (.tmp 14) (.tmp 16) (.const (.bool false))⟩] fr h Q := Eq.trans rfl rfl
def s83_32 : GC := .seq (.ops r83_31) s83_30
theorem s83_32_w {E : Env} {nt : Nat} {rd : Option Nat} {fr : Fr} {h : Heap} {Q : Ex → Fr → Heap → Prop} : s83_32.wp E nt rd fr h Q = (GC.seq (.ops r83_31) s83_30).wp E nt rd fr h Q := Eq.trans rfl rfl
def s83_33 : GC := .seq (s83_32) s83_27
theorem s83_33_w {E : Env} {nt : Nat} {rd : Option Nat} {fr : Fr} {h : Heap} {Q : Ex → Fr → Heap → Prop} : s83_33.wp E nt rd fr h Q = (GC.seq (s83_32) s83_27).wp E nt rd fr h Q := Eq.trans rfl rfl
def s83_34 : GC := .cond (.tmp 11) s83_33 .skip
theorem s83_34_w {E : Env} {nt : Nat} {rd : Option Nat} {fr : Fr} {h : Heap} {Q : Ex → Fr → Heap → Prop} : s83_34.wp E nt rd fr h Q = (GC.cond (.tmp 11) s83_33 .skip).wp E nt rd fr h Q := Eq.trans rfl rfl
def r83_35 : List GO := [⟨none, some 10, .move (.tmp 1)⟩,
  ⟨none, some 11, .binOp .eql 3 (.tmp 10) (.const (.int .i64 10)) 3⟩]
theorem r83_35_w {E : Env} {fr : Fr} {h : Heap} {Q : Fr → Heap → Prop} : opsW E r83_35 fr h Q = opsW E [⟨none, some 10, .move (.tmp 1)⟩,
  ⟨none, some 11, .binOp .eql 3 (.tmp 10) (.const (.int .i64 10)) 3⟩] fr h Q := Eq.trans rfl rfl
def s83_36 : GC := .seq (.ops r83_35) s83_34
theorem s83_36_w {E : Env} {nt : Nat} {rd : Option Nat} {fr : Fr} {h : Heap} {Q : Ex → Fr → Heap → Prop} : s83_36.wp E nt rd fr h Q = (GC.seq (.ops r83_35) s83_34).wp E nt rd fr h Q := Eq.trans rfl rfl
def s83_37 : GC := .seq (s83_36) s83_3
theorem s83_37_w {E : Env} {nt : Nat} {rd : Option Nat} {fr : Fr} {h : Heap} {Q : Ex → Fr → Heap → Prop} : s83_37.wp E nt rd fr h Q = (GC.seq (s83_36) s83_3).wp E nt rd fr h Q := Eq.trans rfl rfl
def r83_38 : List GO := [⟨none, some 4, .assign (.const (.string ⟨⟨[]⟩⟩))⟩]
theorem r83_38_w {E : Env} {fr : Fr} {h : Heap} {Q : Fr → Heap → Prop} : opsW E r83_38 fr h Q = opsW E [⟨none, some 4, .assign (.const (.string ⟨⟨[]⟩⟩))⟩] fr h Q := Eq.trans rfl rfl
def s83_39 : GC := .seq (.ops r83_38) s83_37
theorem s83_39_w {E : Env} {nt : Nat} {rd : Option Nat} {fr : Fr} {h : Heap} {Q : Ex → Fr → Heap → Prop} : s83_39.wp E nt rd fr h Q = (GC.seq (.ops r83_38) s83_37).wp E nt rd fr h Q := Eq.trans rfl rfl
theorem c83 : Tryd.f83.body.bind (clean env 54) = some s83_39 := by kernel_rfl
theorem e83 : env.funs.get 83 = some Tryd.f83 := by kernel_rfl
theorem F83 {args : List Value} {h : Heap} {K : Value → Heap → Prop} (hl : args.length = 2) (w : s83_39.wp env 54 none (setAll args 0 .leaf) h (resK env [.tmp 4] K)) : Ret env (.func 83) args h K :=
  Ret.of_body' rfl e83 c83 rfl rfl (by rw [hl]; decide) w
/-! internal/strconv.numDigits -/
def r85_0 : List GO := [⟨none, some 7, .move (.tmp 3)⟩,
  ⟨none, some 8, .move (.tmp 0)⟩,
  ⟨none, some 9, .move (.tmp 3)⟩,
  ⟨none, some 10, .indexAddr 117 (.global 2) (.tmp 9)⟩,
  ⟨none, some 11, .load 23 (.tmp 10)⟩,
  ⟨none, some 12, .binOp .geq 23 (.tmp 8) (.tmp 11) 23⟩,
  ⟨none, some 13, .call ⟨.value (.func 104), ⟨[.tmp 12]⟩, ⟨[4]⟩⟩⟩,
  ⟨none, some 14, .binOp .add 3 (.tmp 7) (.tmp 13) 3⟩,
  ⟨none, some 2, .assign (.tmp 14)⟩]
theorem r85_0_w {E : Env} {fr : Fr} {h : Heap} {Q : Fr → Heap → Prop} : opsW E r85_0 fr h Q = opsW E [⟨none, some 7, .move (.tmp 3)⟩,
  ⟨none, some 8, .move (.tmp 0)⟩,
  ⟨none, some 9, .move (.tmp 3)⟩,
  ⟨none, some 10, .indexAddr 117 (.global 2) (.tmp 9)⟩,
  ⟨none, some 11, .load 23 (.tmp 10)⟩,
  ⟨none, some 12, .binOp .geq 23 (.tmp 8) (.tmp 11) 23⟩,
  ⟨none, some 13, .call ⟨.value (.func 104), ⟨[.tmp 12]⟩, ⟨[4]⟩⟩⟩,
  ⟨none, some 14, .binOp .add 3 (.tmp 7) (.tmp 13) 3⟩,
  ⟨none, some 2, .assign (.tmp 14)⟩] fr h Q := Eq.trans rfl rfl
def s85_1 : GC := .seq (.ops r85_0) .ret
theorem s85_1_w {E : Env} {nt : Nat} {rd : Option Nat} {fr : Fr} {h : Heap} {Q : Ex → Fr → Heap → Prop} : s85_1.wp E nt rd fr h Q = (GC.seq (.ops r85_0) .ret).wp E nt rd fr h Q := Eq.trans rfl rfl
def r85_2 : List GO := [⟨none, some 4, .move (.tmp 0)⟩,
  ⟨none, some 5, .call ⟨.value (.func 103), ⟨[.tmp 4]⟩, ⟨[23]⟩⟩⟩,
  ⟨none, some 6, .call ⟨.value (.func 102), ⟨[.tmp 5]⟩, ⟨[3]⟩⟩⟩,
  ⟨none, some 3, .assign (.tmp 6)⟩]
theorem r85_2_w {E : Env} {fr : Fr} {h : Heap} {Q : Fr → Heap → Prop} : opsW E r85_2 fr h Q = opsW E [⟨none, some 4, .move (.tmp 0)⟩,
  ⟨none, some 5, .call ⟨.value (.func 103), ⟨[.tmp 4]⟩, ⟨[23]⟩⟩⟩,
  ⟨none, some 6, .call ⟨.value (.func 102), ⟨[.tmp 5]⟩, ⟨[3]⟩⟩⟩,
  ⟨none, some 3, .assign (.tmp 6)⟩] fr h Q := Eq.trans rfl rfl
def s85_3 : GC := .seq (.ops r85_2) s85_1
theorem s85_3_w {E : Env} {nt : Nat} {rd : Option Nat} {fr : Fr} {h : Heap} {Q : Ex → Fr → Heap → Prop} : s85_3.wp E nt rd fr h Q = (GC.seq (.ops r85_2) s85_1).wp E nt rd fr h Q := Eq.trans rfl rfl
def r85_4 : List GO := [⟨none, some 2, .assign (.const (.int .i64 0))⟩]
theorem r85_4_w {E : Env} {fr : Fr} {h : Heap} {Q : Fr → Heap → Prop} : opsW E r85_4 fr h Q = opsW E [⟨none, some 2, .assign (.const (.int .i64 0))⟩] fr h Q := Eq.trans rfl rfl
def s85_5 : GC := .seq (.ops r85_4) s85_3
theorem s85_5_w {E : Env} {nt : Nat} {rd : Option Nat} {fr : Fr} {h : Heap} {Q : Ex → Fr → Heap → Prop} : s85_5.wp E nt rd fr h Q = (GC.seq (.ops r85_4) s85_3).wp E nt rd fr h Q := Eq.trans rfl rfl
theorem c85 : Tryd.f85.body.bind (clean env 15) = some s85_5 := by kernel_rfl
theorem e85 : env.funs.get 85 = some Tryd.f85 := by kernel_rfl
theorem F85 {args : List Value} {h : Heap} {K : Value → Heap → Prop} (hl : args.length = 1) (w : s85_5.wp env 15 none (setAll args 0 .leaf) h (resK env [.tmp 2] K)) : Ret env (.func 85) args h K :=
  Ret.of_body' rfl e85 c85 rfl rfl (by rw [hl]; decide) w
/-! math.Abs -/
def r90_0 : List GO := [⟨none, some 3, .move (.tmp 0)⟩,
  ⟨none, some 4, .call ⟨.value (.func 18), ⟨[.tmp 3]⟩, ⟨[27]⟩⟩⟩,
  ⟨none, some 5, .binOp .andNot 23 (.tmp 4) (.const (.int .u64 9223372036854775808)) 23⟩,
  ⟨none, some 6, .call ⟨.value (.func 10), ⟨[.tmp 5]⟩, ⟨[23]⟩⟩⟩,
  ⟨none, some 2, .assign (.tmp 6)⟩]
theorem r90_0_w {E : Env} {fr : Fr} {h : Heap} {Q : Fr → Heap → Prop} : opsW E r90_0 fr h Q = opsW E [⟨none, some 3, .move (.tmp 0)⟩,
  ⟨none, some 4, .call ⟨.value (.func 18), ⟨[.tmp 3]⟩, ⟨[27]⟩⟩⟩,
  ⟨none, some 5, .binOp .andNot 23 (.tmp 4) (.const (.int .u64 9223372036854775808)) 23⟩,
  ⟨none, some 6, .call ⟨.value (.func 10), ⟨[.tmp 5]⟩, ⟨[23]⟩⟩⟩,
  ⟨none, some 2, .assign (.tmp 6)⟩] fr h Q := Eq.trans rfl rfl
def s90_1 : GC := .seq (.ops r90_0) .ret
theorem s90_1_w {E : Env} {nt : Nat} {rd : Option Nat} {fr : Fr} {h : Heap} {Q : Ex → Fr → Heap → Prop} : s90_1.wp E nt rd fr h Q = (GC.seq (.ops r90_0) .ret).wp E nt rd fr h Q := Eq.trans rfl rfl
def r90_2 : List GO := [⟨none, some 2, .assign (.const (.float .f64 0))⟩]
theorem r90_2_w {E : Env} {fr : Fr} {h : Heap} {Q : Fr → Heap → Prop} : opsW E r90_2 fr h Q = opsW E [⟨none, some 2, .assign (.const (.float .f64 0))⟩] fr h Q := Eq.trans rfl rfl
def s90_3 : GC := .seq (.ops r90_2) s90_1
theorem s90_3_w {E : Env} {nt : Nat} {rd : Option Nat} {fr : Fr} {h : Heap} {Q : Ex → Fr → Heap → Prop} : s90_3.wp E nt rd fr h Q = (GC.seq (.ops r90_2) s90_1).wp E nt rd fr h Q := Eq.trans rfl rfl
theorem c90 : Tryd.f90.body.bind (clean env 7) = some s90_3 := by kernel_rfl
theorem e90 : env.funs.get 90 = some Tryd.f90 := by kernel_rfl
theorem F90 {args : List Value} {h : Heap} {K : Value → Heap → Prop} (hl : args.length = 1) (w : s90_3.wp env 7 none (setAll args 0 .leaf) h (resK env [.tmp 2] K)) : Ret env (.func 90) args h K :=
  Ret.of_body' rfl e90 c90 rfl rfl (by rw [hl]; decide) w
/-! math.normalize -/
def r100_0 : List GO := [⟨none, some 9, .move (.tmp 0)⟩,
  ⟨none, some 2, .assign (.tmp 9)⟩,
  ⟨none, some 3, .assign (.const (.int .i64 0))⟩]
theorem r100_0_w {E : Env} {fr : Fr} {h : Heap} {Q : Fr → Heap → Prop} : opsW E r100_0 fr h Q = opsW E [⟨none, some 9, .move (.tmp 0)⟩,
  ⟨none, some 2, .assign (.tmp 9)⟩,
  ⟨none, some 3, .assign (.const (.int .i64 0))⟩] fr h Q := Eq.trans rfl rfl
def s100_1 : GC := .seq (.ops r100_0) .ret
theorem s100_1_w {E : Env} {nt : Nat} {rd : Option Nat} {fr : Fr} {h : Heap} {Q : Ex → Fr → Heap → Prop} : s100_1.wp E nt rd fr h Q = (GC.seq (.ops r100_0) .ret).wp E nt rd fr h Q := Eq.trans rfl rfl
def r100_2 : List GO := [⟨none, some 7, .move (.tmp 0)⟩,
  ⟨none, some 8, .binOp .mul 27 (.tmp 7) (.const (.float .f64 4841369599423283200)) 27⟩,
  ⟨none, some 2, .assign (.tmp 8)⟩,
  ⟨none, some 3, .assign (.const (.int .i64 (-52)))⟩]
theorem r100_2_w {E : Env} {fr : Fr} {h : Heap} {Q : Fr → Heap → Prop} : opsW E r100_2 fr h Q = opsW E [⟨none, some 7, .move (.tmp 0)⟩,
  ⟨none, some 8, .binOp .mul 27 (.tmp 7) (.const (.float .f64 4841369599423283200)) 27⟩,
  ⟨none, some 2, .assign (.tmp 8)⟩,
  ⟨none, some 3, .assign (.const (.int .i64 (-52)))⟩] fr h Q := Eq.trans rfl rfl
def s100_3 : GC := .seq (.ops r100_2) .ret
theorem s100_3_w {E : Env} {nt : Nat} {rd : Option Nat} {fr : Fr} {h : Heap} {Q : Ex → Fr → Heap → Prop} : s100_3.wp E nt rd fr h Q = (GC.seq (.ops r100_2) .ret).wp E nt rd fr h Q := Eq.trans rfl rfl
def s100_4 : GC := .cond (.tmp 6) s100_3 .skip
theorem s100_4_w {E : Env} {nt : Nat} {rd : Option Nat} {fr : Fr} {h : Heap} {Q : Ex → Fr → Heap → Prop} : s100_4.wp E nt rd fr h Q = (GC.cond (.tmp 6) s100_3 .skip).wp E nt rd fr h Q := Eq.trans rfl rfl
def r100_5 : List GO := [⟨none, some 4, .move (.tmp 0)⟩,
  ⟨none, some 5, .call ⟨.value (.func 90), ⟨[.tmp 4]⟩, ⟨[27]⟩⟩⟩,
  ⟨none, some 6, .binOp .lss 27 (.tmp 5) (.const (.float .f64 4503599627370496)) 27⟩]
theorem r100_5_w {E : Env} {fr : Fr} {h : Heap} {Q : Fr → Heap → Prop} : opsW E r100_5 fr h Q = opsW E [⟨none, some 4, .move (.tmp 0)⟩,
  ⟨none, some 5, .call ⟨.value (.func 90), ⟨[.tmp 4]⟩, ⟨[27]⟩⟩⟩,
  ⟨none, some 6, .binOp .lss 27 (.tmp 5) (.const (.float .f64 4503599627370496)) 27⟩] fr h Q := Eq.trans rfl rfl
def s100_6 : GC := .seq (.ops r100_5) s100_4
theorem s100_6_w {E : Env} {nt : Nat} {rd : Option Nat} {fr : Fr} {h : Heap} {Q : Ex → Fr → Heap → Prop} : s100_6.wp E nt rd fr h Q = (GC.seq (.ops r100_5) s100_4).wp E nt rd fr h Q := Eq.trans rfl rfl
def s100_7 : GC := .seq (s100_6) s100_1
theorem s100_7_w {E : Env} {nt : Nat} {rd : Option Nat} {fr : Fr} {h : Heap} {Q : Ex → Fr → Heap → Prop} : s100_7.wp E nt rd fr h Q = (GC.seq (s100_6) s100_1).wp E nt rd fr h Q := Eq.trans rfl rfl
def r100_8 : List GO := [⟨none, some 2, .assign (.const (.float .f64 0))⟩,
  ⟨none, some 3, .assign (.const (.int .i64 0))⟩]
theorem r100_8_w {E : Env} {fr : Fr} {h : Heap} {Q : Fr → Heap → Prop} : opsW E r100_8 fr h Q = opsW E [⟨none, some 2, .assign (.const (.float .f64 0))⟩,
  ⟨none, some 3, .assign (.const (.int .i64 0))⟩] fr h Q := Eq.trans rfl rfl
def s100_9 : GC := .seq (.ops r100_8) s100_7
theorem s100_9_w {E : Env} {nt : Nat} {rd : Option Nat} {fr : Fr} {h : Heap} {Q : Ex → Fr → Heap → Prop} : s100_9.wp E nt rd fr h Q = (GC.seq (.ops r100_8) s100_7).wp E nt rd fr h Q := Eq.trans rfl rfl
theorem c100 : Tryd.f100.body.bind (clean env 10) = some s100_9 := by kernel_rfl
theorem e100 : env.funs.get 100 = some Tryd.f100 := by kernel_rfl
theorem F100 {args : List Value} {h : Heap} {K : Value → Heap → Prop} (hl : args.length = 1) (w : s100_9.wp env 10 none (setAll args 0 .leaf) h (resK env [.tmp 2, .tmp 3] K)) : Ret env (.func 100) args h K :=
  Ret.of_body' rfl e100 c100 rfl rfl (by rw [hl]; decide) w
/-! internal/strconv.log10Pow2 -/
def r102_0 : List GO := [⟨none, some 3, .move (.tmp 0)⟩,
  ⟨none, some 4, .binOp .mul 3 (.tmp 3) (.const (.int .i64 78913)) 3⟩,
  ⟨none, some 5, .binOp .shr 3 (.tmp 4) (.const (.int .u64 18)) 69⟩,
  ⟨none, some 2, .assign (.tmp 5)⟩]
theorem r102_0_w {E : Env} {fr : Fr} {h : Heap} {Q : Fr → Heap → Prop} : opsW E r102_0 fr h Q = opsW E [⟨none, some 3, .move (.tmp 0)⟩,
  ⟨none, some 4, .binOp .mul 3 (.tmp 3) (.const (.int .i64 78913)) 3⟩,
  ⟨none, some 5, .binOp .shr 3 (.tmp 4) (.const (.int .u64 18)) 69⟩,
  ⟨none, some 2, .assign (.tmp 5)⟩] fr h Q := Eq.trans rfl rfl
def s102_1 : GC := .seq (.ops r102_0) .ret
theorem s102_1_w {E : Env} {nt : Nat} {rd : Option Nat} {fr : Fr} {h : Heap} {Q : Ex → Fr → Heap → Prop} : s102_1.wp E nt rd fr h Q = (GC.seq (.ops r102_0) .ret).wp E nt rd fr h Q := Eq.trans rfl rfl
def r102_2 : List GO := [⟨none, some 2, .assign (.const (.int .i64 0))⟩]
theorem r102_2_w {E : Env} {fr : Fr} {h : Heap} {Q : Fr → Heap → Prop} : opsW E r102_2 fr h Q = opsW E [⟨none, some 2, .assign (.const (.int .i64 0))⟩] fr h Q := Eq.trans rfl rfl
def s102_3 : GC := .seq (.ops r102_2) s102_1
theorem s102_3_w {E : Env} {nt : Nat} {rd : Option Nat} {fr : Fr} {h : Heap} {Q : Ex → Fr → Heap → Prop} : s102_3.wp E nt rd fr h Q = (GC.seq (.ops r102_2) s102_1).wp E nt rd fr h Q := Eq.trans rfl rfl
theorem c102 : Tryd.f102.body.bind (clean env 6) = some s102_3 := by kernel_rfl
theorem e102 : env.funs.get 102 = some Tryd.f102 := by kernel_rfl
theorem F102 {args : List Value} {h : Heap} {K : Value → Heap → Prop} (hl : args.length = 1) (w : s102_3.wp env 6 none (setAll args 0 .leaf) h (resK env [.tmp 2] K)) : Ret env (.func 102) args h K :=
  Ret.of_body' rfl e102 c102 rfl rfl (by rw [hl]; decide) w
/-! internal/strconv.bool2[int] -/
def r104_0 : List GO := [⟨none, some 2, .assign (.const (.int .i64 0))⟩]
theorem r104_0_w {E : Env} {fr : Fr} {h : Heap} {Q : Fr → Heap → Prop} : opsW E r104_0 fr h Q = opsW E [⟨none, some 2, .assign (.const (.int .i64 0))⟩] fr h Q := Eq.trans rfl rfl
def s104_1 : GC := .seq (.ops r104_0) .ret
theorem s104_1_w {E : Env} {nt : Nat} {rd : Option Nat} {fr : Fr} {h : Heap} {Q : Ex → Fr → Heap → Prop} : s104_1.wp E nt rd fr h Q = (GC.seq (.ops r104_0) .ret).wp E nt rd fr h Q := Eq.trans rfl rfl
def r104_2 : List GO := [⟨none, some 2, .assign (.const (.int .i64 1))⟩]
theorem r104_2_w {E : Env} {fr : Fr} {h : Heap} {Q : Fr → Heap → Prop} : opsW E r104_2 fr h Q = opsW E [⟨none, some 2, .assign (.const (.int .i64 1))⟩] fr h Q := Eq.trans rfl rfl
def s104_3 : GC := .seq (.ops r104_2) .ret
theorem s104_3_w {E : Env} {nt : Nat} {rd : Option Nat} {fr : Fr} {h : Heap} {Q : Ex → Fr → Heap → Prop} : s104_3.wp E nt rd fr h Q = (GC.seq (.ops r104_2) .ret).wp E nt rd fr h Q := Eq.trans rfl rfl
def s104_4 : GC := .cond (.tmp 3) s104_3 .skip
theorem s104_4_w {E : Env} {nt : Nat} {rd : Option Nat} {fr : Fr} {h : Heap} {Q : Ex → Fr → Heap → Prop} : s104_4.wp E nt rd fr h Q = (GC.cond (.tmp 3) s104_3 .skip).wp E nt rd fr h Q := Eq.trans rfl rfl
def r104_5 : List GO := [⟨none, some 3, .move (.tmp 0)⟩]
theorem r104_5_w {E : Env} {fr : Fr} {h : Heap} {Q : Fr → Heap → Prop} : opsW E r104_5 fr h Q = opsW E [⟨none, some 3, .move (.tmp 0)⟩] fr h Q := Eq.trans rfl rfl
def s104_6 : GC := .seq (.ops r104_5) s104_4
theorem s104_6_w {E : Env} {nt : Nat} {rd : Option Nat} {fr : Fr} {h : Heap} {Q : Ex → Fr → Heap → Prop} : s104_6.wp E nt rd fr h Q = (GC.seq (.ops r104_5) s104_4).wp E nt rd fr h Q := Eq.trans rfl rfl
def s104_7 : GC := .seq (s104_6) s104_1
theorem s104_7_w {E : Env} {nt : Nat} {rd : Option Nat} {fr : Fr} {h : Heap} {Q : Ex → Fr → Heap → Prop} : s104_7.wp E nt rd fr h Q = (GC.seq (s104_6) s104_1).wp E nt rd fr h Q := Eq.trans rfl rfl
def r104_8 : List GO := [⟨none, some 2, .assign (.const (.int .i64 0))⟩]
theorem r104_8_w {E : Env} {fr : Fr} {h : Heap} {Q : Fr → Heap → Prop} : opsW E r104_8 fr h Q = opsW E [⟨none, some 2, .assign (.const (.int .i64 0))⟩] fr h Q := Eq.trans rfl rfl
def s104_9 : GC := .seq (.ops r104_8) s104_7
theorem s104_9_w {E : Env} {nt : Nat} {rd : Option Nat} {fr : Fr} {h : Heap} {Q : Ex → Fr → Heap → Prop} : s104_9.wp E nt rd fr h Q = (GC.seq (.ops r104_8) s104_7).wp E nt rd fr h Q := Eq.trans rfl rfl
theorem c104 : Tryd.f104.body.bind (clean env 4) = some s104_9 := by kernel_rfl
theorem e104 : env.funs.get 104 = some Tryd.f104 := by kernel_rfl
theorem F104 {args : List Value} {h : Heap} {K : Value → Heap → Prop} (hl : args.length = 1) (w : s104_9.wp env 4 none (setAll args 0 .leaf) h (resK env [.tmp 2] K)) : Ret env (.func 104) args h K :=
  Ret.of_body' rfl e104 c104 rfl rfl (by rw [hl]; decide) w

end Go.Proofs.YtjcmcoabckkjoaaDoor.Li

