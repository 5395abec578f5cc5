/- The program's functions as plain code. -/
import Derived.Test.YtjcmcoabckkjoaaDoorZLib3
import Derived.Shelf.Strings.OnBuilder
import Derived.Shelf.Strconv.Itoa0
import Derived.Shelf.Strconv.Itoa1
import Derived.Shelf.Spec.TrailingZeros
import Derived.Lib.IndexMore
import Derived.Lib.Strings
import Derived.Lib.AtoiAll
import Derived.Test.YtjcmcoabckkjoaaDoorChecked
import Derived.KernelRfl
set_option linter.unusedSimpArgs false
set_option linter.unusedVariables false
namespace Go.Proofs.YtjcmcoabckkjoaaDoor.Li
open Go.Ev
set_option maxRecDepth 100000
set_option linter.defProp false
/-! the tables that are looked at; the library's functions by their contracts -/
def dbs : List Value := [.int .u8 0, .int .u8 1, .int .u8 56, .int .u8 2, .int .u8 57, .int .u8 49, .int .u8 28, .int .u8 3, .int .u8 61, .int .u8 58, .int .u8 42, .int .u8 50, .int .u8 38, .int .u8 29, .int .u8 17, .int .u8 4, .int .u8 62, .int .u8 47, .int .u8 59, .int .u8 36, .int .u8 45, .int .u8 43, .int .u8 51, .int .u8 22, .int .u8 53, .int .u8 39, .int .u8 33, .int .u8 30, .int .u8 24, .int .u8 18, .int .u8 12, .int .u8 5, .int .u8 63, .int .u8 55, .int .u8 48, .int .u8 27, .int .u8 60, .int .u8 41, .int .u8 37, .int .u8 16, .int .u8 46, .int .u8 35, .int .u8 44, .int .u8 21, .int .u8 52, .int .u8 32, .int .u8 23, .int .u8 11, .int .u8 54, .int .u8 26, .int .u8 40, .int .u8 15, .int .u8 34, .int .u8 20, .int .u8 31, .int .u8 10, .int .u8 25, .int .u8 14, .int .u8 19, .int .u8 9, .int .u8 13, .int .u8 8, .int .u8 7, .int .u8 6]
def p10 : List Value := [.int .u64 1, .int .u64 10, .int .u64 100, .int .u64 1000, .int .u64 10000, .int .u64 100000, .int .u64 1000000, .int .u64 10000000, .int .u64 100000000, .int .u64 1000000000, .int .u64 10000000000, .int .u64 100000000000, .int .u64 1000000000000, .int .u64 10000000000000, .int .u64 100000000000000, .int .u64 1000000000000000, .int .u64 10000000000000000, .int .u64 100000000000000000, .int .u64 1000000000000000000, .int .u64 10000000000000000000]
def tabs : List (Nat × List Value) := [(1, dbs), (2, p10)]
def joinG (args : List Value) (h : Heap) : Option Value :=
  match args with
  | [.slice (some ⟨i, o, none⟩) n c, .string sep] => match (cellsAt h ⟨i, o, none⟩ n).bind strs with
    | some xs => cond (Nat.blt i h.n && Nat.ble n c && Nat.blt c UNK && Nat.ble (Lib.join (xs.map (·.data.toList)) sep.data.toList).length 1000000 && Nat.ble 1 n && Nat.ble n 1000000) (some (.string ⟨(Lib.join (xs.map (·.data.toList)) sep.data.toList).toArray⟩)) none
    | none => none
  | _ => none
def tzG (args : List Value) (h : Heap) : Option Value :=
  match args with
  | [.int .u64 x] => cond (decide (0 ≤ x) && decide (x < 18446744073709551616) && tabsOk tabs h) (some (.int .i64 (Lib.ctz 64 x.toNat))) none
  | _ => none
def lenG (args : List Value) (_ : Heap) : Option Value :=
  match args with
  | [.int .u64 x] => cond (decide (0 ≤ x) && decide (x ≤ 18446744073709551615)) (some (.int .i64 (Lib.bitLen x.toNat))) none
  | _ => none
def smallG (args : List Value) (_ : Heap) : Option Value :=
  match args with
  | [.int .i64 x] => cond (decide (0 ≤ x) && decide (x < 100)) (some (.string ⟨(Lib.decDigits x.toNat).toArray⟩)) none
  | _ => none
def cutPG (args : List Value) (_ : Heap) : Option Value :=
  match args with
  | [.string s, .string p] => some (.tuple ⟨[.string ⟨(Lib.trimPrefix s.data.toList p.data.toList).toArray⟩, .bool (Lib.hasPrefix s.data.toList p.data.toList)]⟩)
  | _ => none
def isI (o : Option Value) : Bool := match o with
  | some (.int .i64 _) => true
  | _ => false
def cutG (args : List Value) (h : Heap) : Option Value :=
  match args with
  | [.string s, .string p] => cond (Nat.blt s.size 4294967281 && isI (cellAt h ⟨3, 0, none⟩)) (some (.tuple ⟨[.string ⟨(Lib.cut s.data.toList p.data.toList).1.toArray⟩, .string ⟨(Lib.cut s.data.toList p.data.toList).2.1.toArray⟩, .bool (Lib.cut s.data.toList p.data.toList).2.2]⟩)) none
  | _ => none
def isIf (o : Option Value) : Bool := match o with
  | some (.iface _ _) => true
  | _ => false
def errsOk (h : Heap) : Bool := isIf (cellAt h ⟨4, 0, none⟩) && isIf (cellAt h ⟨5, 0, none⟩)
def errV (h : Heap) : Value := .iface 110 (.pointer (some ⟨h.n, 0, none⟩))
def atoiG (args : List Value) (h : Heap) : Option (Value × Bool) :=
  match args with
  | [.string s] => cond (Nat.ble s.size 1000 && errsOk h) (some (match Lib.atoiAll s.data.toList with
    | .ok n => (.tuple ⟨[.int .i64 n, .nilIface]⟩, false)
    | .range => (.tuple ⟨[.int .i64 (Lib.atoiSat s.data.toList), errV h]⟩, true)
    | _ => (.tuple ⟨[.int .i64 0, errV h]⟩, true))) none
  | _ => none
def toErrG (args : List Value) (h : Heap) : Option (Value × Bool) :=
  match args with
  | [.string _, .string s, .int .i64 _, .int .i64 _, .iface 107 (.int .i64 n)] => cond (Nat.ble s.size 1000 && errsOk h && (decide (n = 1) || decide (n = 2))) (some (errV h, true)) none
  | _ => none
def ext0 : ExtT := extChan 36 (.string ⟨⟨[110, 97, 110]⟩⟩) (extNan 19 (extFl 18 10 fun _ _ _ => none))
def ext1 : ExtT := extFmt 86 ext0
def ext2 : ExtT := extLib 84 smallG ext1
def ext3 : ExtT := extLib 103 lenG ext2
def ext4 : ExtT := extLib 55 tzG ext3
def ext5 : ExtT := extLib 51 joinG ext4
def ext6 : ExtT := extLib 56 cutPG ext5
def ext7 : ExtT := extLib 57 cutG ext6
def ext8 : ExtT := extDead 58 atoiG ext7
def ext9 : ExtT := extDead 76 toErrG ext8
noncomputable def env : Env := envOf Tryd.prog 6 (extTab tabs ext9 8)
section
variable {fr : Fr} {h : Heap} {K : Value → Heap → Prop} {x y z : Operand} {ps : List (Nat × Operand)}
theorem cv_23_3 : opW env (.convert 23 3 x) fr h K = evK env fr x fun v => cintK .i64 v fun u => K u h := opW_cint (k' := .u64) (by kernel_rfl) (by kernel_rfl)
theorem bsl_25_5 : opW env (.buildSlice 25 5 ⟨ps⟩) fr h K = evpK env fr ps fun l => bsK 27 1 [.float .f64 0] 5 l h K := opW_buildSlice (by kernel_rfl) (by decide)
theorem len_25 : opW env (.call ⟨.builtin .len, ⟨[x]⟩, ⟨[25]⟩⟩) fr h K = evK env fr x fun v => lenK v fun u => K u h := opW_lenS (by kernel_rfl)
theorem ia_25 : opW env (.indexAddr 25 x y) fr h K = evK env fr x fun v => evK env fr y fun i => idxSK 1 v i fun u => K u h := opW_indexAddrS (by kernel_rfl)
theorem ld_27 : opW env (.load 27 x) fr h K = evK env fr x fun v => ld1K h v fun u => K u h := opW_load1 (by kernel_rfl)
theorem cv_23_27 : opW env (.convert 23 27 x) fr h K = evK env fr x fun v => cifK v fun u => K u h := opW_cif (k := .u64) (by kernel_rfl) (by kernel_rfl)
theorem cv_3_23 : opW env (.convert 3 23 x) fr h K = evK env fr x fun v => cintK .u64 v fun u => K u h := opW_cint (k' := .i64) (by kernel_rfl) (by kernel_rfl)
theorem cv_23_5 : opW env (.convert 23 5 x) fr h K = evK env fr x fun v => cintK .u8 v fun u => K u h := opW_cint (k' := .u64) (by kernel_rfl) (by kernel_rfl)
theorem bsl_87_1 : opW env (.buildSlice 87 1 ⟨ps⟩) fr h K = evpK env fr ps fun l => bsK 5 1 [.int .u8 0] 1 l h K := opW_buildSlice (by kernel_rfl) (by decide)
theorem cv_87_9 : opW env (.convert 87 9 x) fr h K = evK env fr x fun v => bstrK h v fun u => K u h := opW_bstr (by kernel_rfl)
theorem al_99 : opW env (.alloc 99) fr h K = K (.pointer (some ⟨h.n, 0, none⟩)) (newBlk h (.cells [.int .u8 0, .int .u8 0, .int .u8 0, .int .u8 0, .int .u8 0, .int .u8 0, .int .u8 0, .int .u8 0, .int .u8 0, .int .u8 0, .int .u8 0, .int .u8 0, .int .u8 0, .int .u8 0, .int .u8 0, .int .u8 0, .int .u8 0, .int .u8 0, .int .u8 0, .int .u8 0, .int .u8 0, .int .u8 0, .int .u8 0, .int .u8 0] 99 true)) := opW_alloc (v := .agg ⟨[.int .u8 0, .int .u8 0, .int .u8 0, .int .u8 0, .int .u8 0, .int .u8 0, .int .u8 0, .int .u8 0, .int .u8 0, .int .u8 0, .int .u8 0, .int .u8 0, .int .u8 0, .int .u8 0, .int .u8 0, .int .u8 0, .int .u8 0, .int .u8 0, .int .u8 0, .int .u8 0, .int .u8 0, .int .u8 0, .int .u8 0, .int .u8 0]⟩) (by kernel_rfl) rfl rfl
theorem cv_23_2 : opW env (.convert 23 2 x) fr h K = evK env fr x fun v => cintK .i64 v fun u => K u h := opW_cint (k' := .u64) (by kernel_rfl) (by kernel_rfl)
theorem cv_3_69 : opW env (.convert 3 69 x) fr h K = evK env fr x fun v => cintK .u64 v fun u => K u h := opW_cint (k' := .i64) (by kernel_rfl) (by kernel_rfl)
theorem len_87 : opW env (.call ⟨.builtin .len, ⟨[x]⟩, ⟨[87]⟩⟩) fr h K = evK env fr x fun v => lenK v fun u => K u h := opW_lenS (by kernel_rfl)
theorem ia_87 : opW env (.indexAddr 87 x y) fr h K = evK env fr x fun v => evK env fr y fun i => idxSK 1 v i fun u => K u h := opW_indexAddrS (by kernel_rfl)
theorem ld_5 : opW env (.load 5 x) fr h K = evK env fr x fun v => ld1K h v fun u => K u h := opW_load1 (by kernel_rfl)
theorem cv_3_5 : opW env (.convert 3 5 x) fr h K = evK env fr x fun v => cintK .u8 v fun u => K u h := opW_cint (k' := .i64) (by kernel_rfl) (by kernel_rfl)
theorem cv_5_23 : opW env (.convert 5 23 x) fr h K = evK env fr x fun v => cintK .u64 v fun u => K u h := opW_cint (k' := .u8) (by kernel_rfl) (by kernel_rfl)
theorem cv_2_23 : opW env (.convert 2 23 x) fr h K = evK env fr x fun v => cintK .u64 v fun u => K u h := opW_cint (k' := .i64) (by kernel_rfl) (by kernel_rfl)
theorem ia_99 : opW env (.indexAddr 99 x y) fr h K = evK env fr x fun v => evK env fr y fun i => idxAK 24 1 v i fun u => K u h := opW_indexAddrA (by kernel_rfl)
theorem st_5 : opW env (.store 5 x y) fr h K = evK env fr x fun p => evK env fr y fun v => stK 1 p v h K := opW_store (by kernel_rfl)
theorem gl_2 : ∀ {K : Value → Prop}, evK env fr (.global 2) K = K (.pointer (some ⟨2, 0, none⟩)) := evK_global rfl
theorem ia_117 : opW env (.indexAddr 117 x y) fr h K = evK env fr x fun v => evK env fr y fun i => idxAK 20 1 v i fun u => K u h := opW_indexAddrA (by kernel_rfl)
theorem ld_23 : opW env (.load 23 x) fr h K = evK env fr x fun v => ld1K h v fun u => K u h := opW_load1 (by kernel_rfl)
end
/-! helmsman/helmsmanlaw31.ShareTexts -/
def r6_0 : List GO := [⟨none, some 16, .move (.tmp 4)⟩,
  ⟨none, some 17, .move (.tmp 3)⟩,
  ⟨none, some 18, .call ⟨.value (.func 36), ⟨[.tmp 17]⟩, ⟨[27]⟩⟩⟩,
  ⟨none, some 19, .binOp .eql 9 (.tmp 16) (.tmp 18) 9⟩,
  ⟨none, some 20, .move (.tmp 19)⟩,
  ⟨some (20, true), some 21, .move (.tmp 6)⟩,
  ⟨some (20, true), some 22, .binOp .eql 50 (.tmp 21) (.const (.int .i64 0)) 50⟩,
  ⟨none, some 23, .pick (.tmp 20) (.tmp 22) (.const (.bool false))⟩,
  ⟨none, some 24, .move (.tmp 23)⟩,
  ⟨some (24, true), some 25, .move (.tmp 3)⟩,
  ⟨some (24, true), some 26, .move (.tmp 5)⟩,
  ⟨some (24, true), some 27, .call ⟨.value (.func 12), ⟨[.tmp 25, .tmp 26]⟩, ⟨[27, 27]⟩⟩⟩,
  ⟨none, some 28, .pick (.tmp 24) (.tmp 27) (.const (.bool false))⟩,
  ⟨none, some 29, .move (.tmp 28)⟩,
  ⟨some (29, true), some 30, .call ⟨.value (.func 8), ⟨[]⟩, ⟨[]⟩⟩⟩,
  ⟨none, some 31, .pick (.tmp 29) (.tmp 30) (.const (.bool false))⟩,
  ⟨none, some 2, .assign (.tmp 31)⟩]
def r6_0_w {E fr h Q} := @opsW_unf E fr h Q _ _ r6_0.eq_1
def s6_1 : GC := .seq (.ops r6_0) .ret
def s6_1_w {E nt rd fr h Q} := @wp_unf E nt rd fr h Q _ _ s6_1.eq_1
def r6_2 : List GO := [⟨none, some 12, .move (.tmp 4)⟩,
  ⟨none, some 13, .call ⟨.value (.func 35), ⟨[.tmp 12]⟩, ⟨[9]⟩⟩⟩,
  ⟨none, some 11, .move (.tmp 13)⟩,
  ⟨none, some 14, .extract (.tmp 11) 0⟩,
  ⟨none, some 15, .extract (.tmp 11) 1⟩,
  ⟨none, some 5, .assign (.tmp 14)⟩,
  ⟨none, some 6, .assign (.tmp 15)⟩]
def r6_2_w {E fr h Q} := @opsW_unf E fr h Q _ _ r6_2.eq_1
def s6_3 : GC := .seq (.ops r6_2) s6_1
def s6_3_w {E nt rd fr h Q} := @wp_unf E nt rd fr h Q _ _ s6_3.eq_1
def r6_4 : List GO := [⟨none, some 9, .move (.tmp 3)⟩,
  ⟨none, some 10, .call ⟨.value (.func 34), ⟨[.tmp 9]⟩, ⟨[27]⟩⟩⟩,
  ⟨none, some 4, .assign (.tmp 10)⟩]
def r6_4_w {E fr h Q} := @opsW_unf E fr h Q _ _ r6_4.eq_1
def s6_5 : GC := .seq (.ops r6_4) s6_3
def s6_5_w {E nt rd fr h Q} := @wp_unf E nt rd fr h Q _ _ s6_5.eq_1
def r6_6 : List GO := [⟨none, some 7, .move (.tmp 0)⟩,
  ⟨none, some 8, .call ⟨.value (.func 10), ⟨[.tmp 7]⟩, ⟨[23]⟩⟩⟩,
  ⟨none, some 3, .assign (.tmp 8)⟩]
def r6_6_w {E fr h Q} := @opsW_unf E fr h Q _ _ r6_6.eq_1
def s6_7 : GC := .seq (.ops r6_6) s6_5
def s6_7_w {E nt rd fr h Q} := @wp_unf E nt rd fr h Q _ _ s6_7.eq_1
def r6_8 : List GO := [⟨none, some 2, .assign (.const (.bool false))⟩]
def r6_8_w {E fr h Q} := @opsW_unf E fr h Q _ _ r6_8.eq_1
def s6_9 : GC := .seq (.ops r6_8) s6_7
def s6_9_w {E nt rd fr h Q} := @wp_unf E nt rd fr h Q _ _ s6_9.eq_1
theorem c6 : Tryd.f6.body.bind (clean env 32) = some s6_9 := by kernel_rfl
theorem e6 : env.funs.get 6 = some Tryd.f6 := by kernel_rfl
theorem F6 {args : List Value} {h : Heap} {K : Value → Heap → Prop} (hl : args.length = 1) (w : s6_9.wp env 32 none (setAll args 0 .leaf) h (resK env [.tmp 2] K)) : Ret env (.func 6) args h K :=
  Ret.of_body' rfl e6 c6 rfl rfl (by rw [hl]; decide) w
/-! helmsman/helmsmanref31.Same -/
def r12_0 : List GO := [⟨none, some 5, .move (.tmp 0)⟩,
  ⟨none, some 6, .call ⟨.value (.func 19), ⟨[.tmp 5]⟩, ⟨[27]⟩⟩⟩,
  ⟨none, some 7, .move (.tmp 6)⟩,
  ⟨some (7, true), some 8, .move (.tmp 1)⟩,
  ⟨some (7, true), some 9, .call ⟨.value (.func 19), ⟨[.tmp 8]⟩, ⟨[27]⟩⟩⟩,
  ⟨none, some 10, .pick (.tmp 7) (.tmp 9) (.const (.bool false))⟩,
  ⟨none, some 11, .move (.tmp 10)⟩,
  ⟨some (11, false), some 12, .move (.tmp 0)⟩,
  ⟨some (11, false), some 13, .call ⟨.value (.func 18), ⟨[.tmp 12]⟩, ⟨[27]⟩⟩⟩,
  ⟨some (11, false), some 14, .move (.tmp 1)⟩,
  ⟨some (11, false), some 15, .call ⟨.value (.func 18), ⟨[.tmp 14]⟩, ⟨[27]⟩⟩⟩,
  ⟨some (11, false), some 16, .binOp .eql 23 (.tmp 13) (.tmp 15) 23⟩,
  ⟨none, some 17, .pick (.tmp 11) (.const (.bool true)) (.tmp 16)⟩,
  ⟨none, some 4, .assign (.tmp 17)⟩]
def r12_0_w {E fr h Q} := @opsW_unf E fr h Q _ _ r12_0.eq_1
def s12_1 : GC := .seq (.ops r12_0) .ret
def s12_1_w {E nt rd fr h Q} := @wp_unf E nt rd fr h Q _ _ s12_1.eq_1
def r12_2 : List GO := [⟨none, some 4, .assign (.const (.bool false))⟩]
def r12_2_w {E fr h Q} := @opsW_unf E fr h Q _ _ r12_2.eq_1
def s12_3 : GC := .seq (.ops r12_2) s12_1
def s12_3_w {E nt rd fr h Q} := @wp_unf E nt rd fr h Q _ _ s12_3.eq_1
theorem c12 : Tryd.f12.body.bind (clean env 18) = some s12_3 := by kernel_rfl
theorem e12 : env.funs.get 12 = some Tryd.f12 := by kernel_rfl
theorem F12 {args : List Value} {h : Heap} {K : Value → Heap → Prop} (hl : args.length = 2) (w : s12_3.wp env 18 none (setAll args 0 .leaf) h (resK env [.tmp 4] K)) : Ret env (.func 12) args h K :=
  Ret.of_body' rfl e12 c12 rfl rfl (by rw [hl]; decide) w
/-! helmsman/share.Text -/
def r34_0 : List GO := [⟨none, some 57, .move (.tmp 4)⟩,
  ⟨none, some 2, .assign (.tmp 57)⟩]
def r34_0_w {E fr h Q} := @opsW_unf E fr h Q _ _ r34_0.eq_1
def s34_1 : GC := .seq (.ops r34_0) .ret
def s34_1_w {E nt rd fr h Q} := @wp_unf E nt rd fr h Q _ _ s34_1.eq_1
def r34_2 : List GO := [⟨none, some 43, .move (.tmp 4)⟩,
  ⟨none, some 44, .binOp .add 9 (.tmp 43) (.const (.string ⟨⟨[42, 50, 94]⟩⟩)) 9⟩,
  ⟨none, some 45, .move (.tmp 6)⟩,
  ⟨none, some 46, .call ⟨.value (.func 49), ⟨[.tmp 45]⟩, ⟨[3]⟩⟩⟩,
  ⟨none, some 47, .binOp .add 9 (.tmp 44) (.tmp 46) 9⟩,
  ⟨none, some 2, .assign (.tmp 47)⟩]
def r34_2_w {E fr h Q} := @opsW_unf E fr h Q _ _ r34_2.eq_1
def s34_3 : GC := .seq (.ops r34_2) .ret
def s34_3_w {E nt rd fr h Q} := @wp_unf E nt rd fr h Q _ _ s34_3.eq_1
def r34_4 : List GO := [⟨none, some 51, .move (.tmp 4)⟩,
  ⟨none, some 52, .binOp .add 9 (.tmp 51) (.const (.string ⟨⟨[47, 50, 94]⟩⟩)) 9⟩,
  ⟨none, some 53, .move (.tmp 6)⟩,
  ⟨none, some 54, .unOp .neg 3 (.tmp 53)⟩,
  ⟨none, some 55, .call ⟨.value (.func 49), ⟨[.tmp 54]⟩, ⟨[3]⟩⟩⟩,
  ⟨none, some 56, .binOp .add 9 (.tmp 52) (.tmp 55) 9⟩,
  ⟨none, some 2, .assign (.tmp 56)⟩]
def r34_4_w {E fr h Q} := @opsW_unf E fr h Q _ _ r34_4.eq_1
def s34_5 : GC := .seq (.ops r34_4) .ret
def s34_5_w {E nt rd fr h Q} := @wp_unf E nt rd fr h Q _ _ s34_5.eq_1
def s34_6 : GC := .cond (.tmp 48) s34_5 .skip
def s34_6_w {E nt rd fr h Q} := @wp_unf E nt rd fr h Q _ _ s34_6.eq_1
def r34_7 : List GO := [⟨none, some 49, .move (.tmp 6)⟩,
  ⟨none, some 50, .binOp .lss 3 (.tmp 49) (.const (.int .i64 0)) 3⟩,
  ⟨none, some 48, .assign (.tmp 50)⟩]
def r34_7_w {E fr h Q} := @opsW_unf E fr h Q _ _ r34_7.eq_1
def s34_8 : GC := .seq (.ops r34_7) s34_6
def s34_8_w {E nt rd fr h Q} := @wp_unf E nt rd fr h Q _ _ s34_8.eq_1
def s34_9 : GC := .cond (.tmp 40) s34_3 s34_8
def s34_9_w {E nt rd fr h Q} := @wp_unf E nt rd fr h Q _ _ s34_9.eq_1
def r34_10 : List GO := [⟨none, some 41, .move (.tmp 6)⟩,
  ⟨none, some 42, .binOp .gtr 3 (.tmp 41) (.const (.int .i64 0)) 3⟩,
  ⟨none, some 40, .assign (.tmp 42)⟩]
def r34_10_w {E fr h Q} := @opsW_unf E fr h Q _ _ r34_10.eq_1
def s34_11 : GC := .seq (.ops r34_10) s34_9
def s34_11_w {E nt rd fr h Q} := @wp_unf E nt rd fr h Q _ _ s34_11.eq_1
def s34_12 : GC := .seq (.block 0 s34_11) s34_1
def s34_12_w {E nt rd fr h Q} := @wp_unf E nt rd fr h Q _ _ s34_12.eq_1
def r34_13 : List GO := [⟨none, some 34, .move (.tmp 4)⟩,
  ⟨none, some 35, .move (.tmp 5)⟩,
  ⟨none, some 36, .move (.tmp 7)⟩,
  ⟨none, some 37, .binOp .shr 23 (.tmp 35) (.tmp 36) 3⟩,
  ⟨none, some 38, .call ⟨.value (.func 50), ⟨[.tmp 37, .const (.int .i64 10)]⟩, ⟨[23, 3]⟩⟩⟩,
  ⟨none, some 39, .binOp .add 9 (.tmp 34) (.tmp 38) 9⟩,
  ⟨none, some 4, .assign (.tmp 39)⟩]
def r34_13_w {E fr h Q} := @opsW_unf E fr h Q _ _ r34_13.eq_1
def s34_14 : GC := .seq (.ops r34_13) s34_12
def s34_14_w {E nt rd fr h Q} := @wp_unf E nt rd fr h Q _ _ s34_14.eq_1
def r34_15 : List GO := [⟨none, some 31, .move (.tmp 6)⟩,
  ⟨none, some 32, .move (.tmp 7)⟩,
  ⟨none, some 33, .binOp .add 3 (.tmp 31) (.tmp 32) 3⟩,
  ⟨none, some 6, .assign (.tmp 33)⟩]
def r34_15_w {E fr h Q} := @opsW_unf E fr h Q _ _ r34_15.eq_1
def s34_16 : GC := .seq (.ops r34_15) s34_14
def s34_16_w {E nt rd fr h Q} := @wp_unf E nt rd fr h Q _ _ s34_16.eq_1
def r34_17 : List GO := [⟨none, some 29, .move (.tmp 5)⟩,
  ⟨none, some 30, .call ⟨.value (.func 55), ⟨[.tmp 29]⟩, ⟨[23]⟩⟩⟩,
  ⟨none, some 7, .assign (.tmp 30)⟩]
def r34_17_w {E fr h Q} := @opsW_unf E fr h Q _ _ r34_17.eq_1
def s34_18 : GC := .seq (.ops r34_17) s34_16
def s34_18_w {E nt rd fr h Q} := @wp_unf E nt rd fr h Q _ _ s34_18.eq_1
def r34_19 : List GO := [⟨none, some 26, .move (.tmp 5)⟩,
  ⟨none, some 27, .binOp .and 23 (.tmp 26) (.const (.int .u64 4503599627370495)) 23⟩,
  ⟨none, some 28, .binOp .or 23 (.tmp 27) (.const (.int .u64 4503599627370496)) 23⟩,
  ⟨none, some 5, .assign (.tmp 28)⟩]
def r34_19_w {E fr h Q} := @opsW_unf E fr h Q _ _ r34_19.eq_1
def s34_20 : GC := .ops r34_19
def s34_20_w {E nt rd fr h Q} := @wp_unf E nt rd fr h Q _ _ s34_20.eq_1
def s34_21 : GC := .cond (.tmp 25) s34_20 .skip
def s34_21_w {E nt rd fr h Q} := @wp_unf E nt rd fr h Q _ _ s34_21.eq_1
def r34_22 : List GO := [⟨none, some 24, .move (.tmp 5)⟩,
  ⟨none, some 25, .binOp .geq 23 (.tmp 24) (.const (.int .u64 4503599627370496)) 23⟩]
def r34_22_w {E fr h Q} := @opsW_unf E fr h Q _ _ r34_22.eq_1
def s34_23 : GC := .seq (.ops r34_22) s34_21
def s34_23_w {E nt rd fr h Q} := @wp_unf E nt rd fr h Q _ _ s34_23.eq_1
def s34_24 : GC := .seq (s34_23) s34_18
def s34_24_w {E nt rd fr h Q} := @wp_unf E nt rd fr h Q _ _ s34_24.eq_1
def r34_25 : List GO := [⟨none, some 19, .move (.tmp 5)⟩,
  ⟨none, some 20, .binOp .shr 23 (.tmp 19) (.const (.int .u64 52)) 69⟩,
  ⟨none, some 21, .convert 23 3 (.tmp 20)⟩,
  ⟨none, some 22, .call ⟨.builtin .max, ⟨[.tmp 21, .const (.int .i64 1)]⟩, ⟨[3, 3]⟩⟩⟩,
  ⟨none, some 23, .binOp .sub 3 (.tmp 22) (.const (.int .i64 1075)) 3⟩,
  ⟨none, some 6, .assign (.tmp 23)⟩]
def r34_25_w {E fr h Q} := @opsW_unf E fr h Q _ _ r34_25.eq_1
def s34_26 : GC := .seq (.ops r34_25) s34_24
def s34_26_w {E nt rd fr h Q} := @wp_unf E nt rd fr h Q _ _ s34_26.eq_1
def r34_27 : List GO := [⟨none, some 17, .move (.tmp 0)⟩,
  ⟨none, some 18, .call ⟨.value (.func 18), ⟨[.tmp 17]⟩, ⟨[27]⟩⟩⟩,
  ⟨none, some 5, .assign (.tmp 18)⟩]
def r34_27_w {E fr h Q} := @opsW_unf E fr h Q _ _ r34_27.eq_1
def s34_28 : GC := .seq (.ops r34_27) s34_26
def s34_28_w {E nt rd fr h Q} := @wp_unf E nt rd fr h Q _ _ s34_28.eq_1
def r34_29 : List GO := [⟨none, some 15, .move (.tmp 0)⟩,
  ⟨none, some 16, .unOp .neg 27 (.tmp 15)⟩,
  ⟨none, some 4, .assign (.const (.string ⟨⟨[45]⟩⟩))⟩,
  ⟨none, some 0, .assign (.tmp 16)⟩]
def r34_29_w {E fr h Q} := @opsW_unf E fr h Q _ _ r34_29.eq_1
def s34_30 : GC := .ops r34_29
def s34_30_w {E nt rd fr h Q} := @wp_unf E nt rd fr h Q _ _ s34_30.eq_1
def s34_31 : GC := .cond (.tmp 14) s34_30 .skip
def s34_31_w {E nt rd fr h Q} := @wp_unf E nt rd fr h Q _ _ s34_31.eq_1
def r34_32 : List GO := [⟨none, some 13, .move (.tmp 0)⟩,
  ⟨none, some 14, .binOp .lss 27 (.tmp 13) (.const (.float .f64 0)) 27⟩]
def r34_32_w {E fr h Q} := @opsW_unf E fr h Q _ _ r34_32.eq_1
def s34_33 : GC := .seq (.ops r34_32) s34_31
def s34_33_w {E nt rd fr h Q} := @wp_unf E nt rd fr h Q _ _ s34_33.eq_1
def s34_34 : GC := .seq (s34_33) s34_28
def s34_34_w {E nt rd fr h Q} := @wp_unf E nt rd fr h Q _ _ s34_34.eq_1
def r34_35 : List GO := [⟨none, some 4, .assign (.const (.string ⟨⟨[]⟩⟩))⟩]
def r34_35_w {E fr h Q} := @opsW_unf E fr h Q _ _ r34_35.eq_1
def s34_36 : GC := .seq (.ops r34_35) s34_34
def s34_36_w {E nt rd fr h Q} := @wp_unf E nt rd fr h Q _ _ s34_36.eq_1
def r34_37 : List GO := [⟨none, some 12, .move (.tmp 3)⟩,
  ⟨none, some 2, .assign (.tmp 12)⟩]
def r34_37_w {E fr h Q} := @opsW_unf E fr h Q _ _ r34_37.eq_1
def s34_38 : GC := .seq (.ops r34_37) .ret
def s34_38_w {E nt rd fr h Q} := @wp_unf E nt rd fr h Q _ _ s34_38.eq_1
def s34_39 : GC := .cond (.tmp 11) s34_38 .skip
def s34_39_w {E nt rd fr h Q} := @wp_unf E nt rd fr h Q _ _ s34_39.eq_1
def r34_40 : List GO := [⟨none, some 10, .move (.tmp 3)⟩,
  ⟨none, some 11, .binOp .neq 9 (.tmp 10) (.const (.string ⟨⟨[]⟩⟩)) 9⟩]
def r34_40_w {E fr h Q} := @opsW_unf E fr h Q _ _ r34_40.eq_1
def s34_41 : GC := .seq (.ops r34_40) s34_39
def s34_41_w {E nt rd fr h Q} := @wp_unf E nt rd fr h Q _ _ s34_41.eq_1
def r34_42 : List GO := [⟨none, some 8, .move (.tmp 0)⟩,
  ⟨none, some 9, .call ⟨.value (.func 54), ⟨[.tmp 8]⟩, ⟨[27]⟩⟩⟩,
  ⟨none, some 3, .assign (.tmp 9)⟩]
def r34_42_w {E fr h Q} := @opsW_unf E fr h Q _ _ r34_42.eq_1
def s34_43 : GC := .seq (.ops r34_42) s34_41
def s34_43_w {E nt rd fr h Q} := @wp_unf E nt rd fr h Q _ _ s34_43.eq_1
def s34_44 : GC := .seq (s34_43) s34_36
def s34_44_w {E nt rd fr h Q} := @wp_unf E nt rd fr h Q _ _ s34_44.eq_1
def r34_45 : List GO := [⟨none, some 2, .assign (.const (.string ⟨⟨[]⟩⟩))⟩]
def r34_45_w {E fr h Q} := @opsW_unf E fr h Q _ _ r34_45.eq_1
def s34_46 : GC := .seq (.ops r34_45) s34_44
def s34_46_w {E nt rd fr h Q} := @wp_unf E nt rd fr h Q _ _ s34_46.eq_1
theorem c34 : Tryd.f34.body.bind (clean env 58) = some s34_46 := by kernel_rfl
theorem e34 : env.funs.get 34 = some Tryd.f34 := by kernel_rfl
theorem F34 {args : List Value} {h : Heap} {K : Value → Heap → Prop} (hl : args.length = 1) (w : s34_46.wp env 58 none (setAll args 0 .leaf) h (resK env [.tmp 2] K)) : Ret env (.func 34) args h K :=
  Ret.of_body' rfl e34 c34 rfl rfl (by rw [hl]; decide) w
/-! helmsman/share.Of -/
def r35_0 : List GO := [⟨none, some 79, .move (.tmp 15)⟩,
  ⟨none, some 2, .assign (.tmp 79)⟩,
  ⟨none, some 3, .assign (.const (.int .i64 0))⟩]
def r35_0_w {E fr h Q} := @opsW_unf E fr h Q _ _ r35_0.eq_1
def s35_1 : GC := .seq (.ops r35_0) .ret
def s35_1_w {E nt rd fr h Q} := @wp_unf E nt rd fr h Q _ _ s35_1.eq_1
def r35_2 : List GO := [⟨none, some 2, .assign (.const (.float .f64 0))⟩,
  ⟨none, some 3, .assign (.const (.int .i64 16))⟩]
def r35_2_w {E fr h Q} := @opsW_unf E fr h Q _ _ r35_2.eq_1
def s35_3 : GC := .seq (.ops r35_2) .ret
def s35_3_w {E nt rd fr h Q} := @wp_unf E nt rd fr h Q _ _ s35_3.eq_1
def s35_4 : GC := .cond (.tmp 78) s35_3 .skip
def s35_4_w {E nt rd fr h Q} := @wp_unf E nt rd fr h Q _ _ s35_4.eq_1
def r35_5 : List GO := [⟨none, some 75, .move (.tmp 15)⟩,
  ⟨none, some 76, .call ⟨.value (.func 34), ⟨[.tmp 75]⟩, ⟨[27]⟩⟩⟩,
  ⟨none, some 77, .move (.tmp 0)⟩,
  ⟨none, some 78, .binOp .neq 9 (.tmp 76) (.tmp 77) 9⟩]
def r35_5_w {E fr h Q} := @opsW_unf E fr h Q _ _ r35_5.eq_1
def s35_6 : GC := .seq (.ops r35_5) s35_4
def s35_6_w {E nt rd fr h Q} := @wp_unf E nt rd fr h Q _ _ s35_6.eq_1
def s35_7 : GC := .seq (s35_6) s35_1
def s35_7_w {E nt rd fr h Q} := @wp_unf E nt rd fr h Q _ _ s35_7.eq_1
def r35_8 : List GO := [⟨none, some 73, .move (.tmp 15)⟩,
  ⟨none, some 74, .unOp .neg 27 (.tmp 73)⟩,
  ⟨none, some 15, .assign (.tmp 74)⟩]
def r35_8_w {E fr h Q} := @opsW_unf E fr h Q _ _ r35_8.eq_1
def s35_9 : GC := .ops r35_8
def s35_9_w {E nt rd fr h Q} := @wp_unf E nt rd fr h Q _ _ s35_9.eq_1
def s35_10 : GC := .cond (.tmp 72) s35_9 .skip
def s35_10_w {E nt rd fr h Q} := @wp_unf E nt rd fr h Q _ _ s35_10.eq_1
def r35_11 : List GO := [⟨none, some 72, .move (.tmp 7)⟩]
def r35_11_w {E fr h Q} := @opsW_unf E fr h Q _ _ r35_11.eq_1
def s35_12 : GC := .seq (.ops r35_11) s35_10
def s35_12_w {E nt rd fr h Q} := @wp_unf E nt rd fr h Q _ _ s35_12.eq_1
def s35_13 : GC := .seq (s35_12) s35_7
def s35_13_w {E nt rd fr h Q} := @wp_unf E nt rd fr h Q _ _ s35_13.eq_1
def r35_14 : List GO := [⟨none, some 66, .move (.tmp 13)⟩,
  ⟨none, some 67, .convert 23 27 (.tmp 66)⟩,
  ⟨none, some 68, .move (.tmp 8)⟩,
  ⟨none, some 69, .call ⟨.builtin .min, ⟨[.tmp 68, .const (.int .i64 5000)]⟩, ⟨[3, 3]⟩⟩⟩,
  ⟨none, some 70, .call ⟨.builtin .max, ⟨[.tmp 69, .const (.int .i64 (-5000))]⟩, ⟨[3, 3]⟩⟩⟩,
  ⟨none, some 71, .call ⟨.value (.func 60), ⟨[.tmp 67, .tmp 70]⟩, ⟨[27, 3]⟩⟩⟩,
  ⟨none, some 15, .assign (.tmp 71)⟩]
def r35_14_w {E fr h Q} := @opsW_unf E fr h Q _ _ r35_14.eq_1
def s35_15 : GC := .seq (.ops r35_14) s35_13
def s35_15_w {E nt rd fr h Q} := @wp_unf E nt rd fr h Q _ _ s35_15.eq_1
def r35_16 : List GO := [⟨none, some 62, .move (.tmp 9)⟩,
  ⟨none, some 63, .call ⟨.value (.func 59), ⟨[.tmp 62, .const (.int .i64 10), .const (.int .i64 53)]⟩, ⟨[9, 3, 3]⟩⟩⟩,
  ⟨none, some 61, .move (.tmp 63)⟩,
  ⟨none, some 64, .extract (.tmp 61) 0⟩,
  ⟨none, some 65, .extract (.tmp 61) 1⟩,
  ⟨none, some 13, .assign (.tmp 64)⟩,
  ⟨none, some 14, .assign (.tmp 65)⟩]
def r35_16_w {E fr h Q} := @opsW_unf E fr h Q _ _ r35_16.eq_1
def s35_17 : GC := .seq (.ops r35_16) s35_15
def s35_17_w {E nt rd fr h Q} := @wp_unf E nt rd fr h Q _ _ s35_17.eq_1
def r35_18 : List GO := [⟨none, some 58, .move (.tmp 8)⟩,
  ⟨none, some 59, .move (.tmp 12)⟩,
  ⟨none, some 60, .binOp .mul 3 (.tmp 58) (.tmp 59) 3⟩,
  ⟨none, some 8, .assign (.tmp 60)⟩]
def r35_18_w {E fr h Q} := @opsW_unf E fr h Q _ _ r35_18.eq_1
def s35_19 : GC := .ops r35_18
def s35_19_w {E nt rd fr h Q} := @wp_unf E nt rd fr h Q _ _ s35_19.eq_1
def r35_20 : List GO := [⟨none, some 54, .move (.tmp 10)⟩,
  ⟨none, some 55, .call ⟨.value (.func 58), ⟨[.tmp 54]⟩, ⟨[9]⟩⟩⟩,
  ⟨none, some 53, .move (.tmp 55)⟩,
  ⟨none, some 56, .extract (.tmp 53) 0⟩,
  ⟨none, some 57, .extract (.tmp 53) 1⟩,
  ⟨none, some 8, .assign (.tmp 56)⟩]
def r35_20_w {E fr h Q} := @opsW_unf E fr h Q _ _ r35_20.eq_1
def s35_21 : GC := .seq (.ops r35_20) s35_19
def s35_21_w {E nt rd fr h Q} := @wp_unf E nt rd fr h Q _ _ s35_21.eq_1
def s35_22 : GC := .cond (.tmp 52) s35_21 .skip
def s35_22_w {E nt rd fr h Q} := @wp_unf E nt rd fr h Q _ _ s35_22.eq_1
def r35_23 : List GO := [⟨none, some 52, .move (.tmp 11)⟩]
def r35_23_w {E fr h Q} := @opsW_unf E fr h Q _ _ r35_23.eq_1
def s35_24 : GC := .seq (.ops r35_23) s35_22
def s35_24_w {E nt rd fr h Q} := @wp_unf E nt rd fr h Q _ _ s35_24.eq_1
def s35_25 : GC := .seq (s35_24) (.exit 2)
def s35_25_w {E nt rd fr h Q} := @wp_unf E nt rd fr h Q _ _ s35_25.eq_1
def r35_26 : List GO := [⟨none, some 12, .assign (.const (.int .i64 (-1)))⟩]
def r35_26_w {E fr h Q} := @opsW_unf E fr h Q _ _ r35_26.eq_1
def s35_27 : GC := .ops r35_26
def s35_27_w {E nt rd fr h Q} := @wp_unf E nt rd fr h Q _ _ s35_27.eq_1
def r35_28 : List GO := [⟨none, some 47, .move (.tmp 6)⟩,
  ⟨none, some 48, .call ⟨.value (.func 57), ⟨[.tmp 47, .const (.string ⟨⟨[47, 50, 94]⟩⟩)]⟩, ⟨[9, 9]⟩⟩⟩,
  ⟨none, some 46, .move (.tmp 48)⟩,
  ⟨none, some 49, .extract (.tmp 46) 0⟩,
  ⟨none, some 50, .extract (.tmp 46) 1⟩,
  ⟨none, some 51, .extract (.tmp 46) 2⟩,
  ⟨none, some 9, .assign (.tmp 49)⟩,
  ⟨none, some 10, .assign (.tmp 50)⟩,
  ⟨none, some 11, .assign (.tmp 51)⟩]
def r35_28_w {E fr h Q} := @opsW_unf E fr h Q _ _ r35_28.eq_1
def s35_29 : GC := .seq (.ops r35_28) s35_27
def s35_29_w {E nt rd fr h Q} := @wp_unf E nt rd fr h Q _ _ s35_29.eq_1
def s35_30 : GC := .cond (.tmp 43) (.exit 3) .skip
def s35_30_w {E nt rd fr h Q} := @wp_unf E nt rd fr h Q _ _ s35_30.eq_1
def r35_31 : List GO := [⟨none, some 44, .move (.tmp 11)⟩,
  ⟨none, some 45, .unOp .not 4 (.tmp 44)⟩,
  ⟨none, some 43, .assign (.tmp 45)⟩]
def r35_31_w {E fr h Q} := @opsW_unf E fr h Q _ _ r35_31.eq_1
def s35_32 : GC := .seq (.ops r35_31) s35_30
def s35_32_w {E nt rd fr h Q} := @wp_unf E nt rd fr h Q _ _ s35_32.eq_1
def s35_33 : GC := .seq (s35_32) (.exit 4)
def s35_33_w {E nt rd fr h Q} := @wp_unf E nt rd fr h Q _ _ s35_33.eq_1
def s35_34 : GC := .seq (.block 3 s35_33) s35_29
def s35_34_w {E nt rd fr h Q} := @wp_unf E nt rd fr h Q _ _ s35_34.eq_1
def s35_35 : GC := .seq (.block 4 s35_34) s35_25
def s35_35_w {E nt rd fr h Q} := @wp_unf E nt rd fr h Q _ _ s35_35.eq_1
def s35_36 : GC := .block 2 s35_35
def s35_36_w {E nt rd fr h Q} := @wp_unf E nt rd fr h Q _ _ s35_36.eq_1
def r35_37 : List GO := [⟨none, some 12, .assign (.const (.int .i64 1))⟩]
def r35_37_w {E fr h Q} := @opsW_unf E fr h Q _ _ r35_37.eq_1
def s35_38 : GC := .seq (.ops r35_37) s35_36
def s35_38_w {E nt rd fr h Q} := @wp_unf E nt rd fr h Q _ _ s35_38.eq_1
def s35_39 : GC := .seq (s35_38) s35_17
def s35_39_w {E nt rd fr h Q} := @wp_unf E nt rd fr h Q _ _ s35_39.eq_1
def r35_40 : List GO := [⟨none, some 38, .move (.tmp 6)⟩,
  ⟨none, some 39, .call ⟨.value (.func 57), ⟨[.tmp 38, .const (.string ⟨⟨[42, 50, 94]⟩⟩)]⟩, ⟨[9, 9]⟩⟩⟩,
  ⟨none, some 37, .move (.tmp 39)⟩,
  ⟨none, some 40, .extract (.tmp 37) 0⟩,
  ⟨none, some 41, .extract (.tmp 37) 1⟩,
  ⟨none, some 42, .extract (.tmp 37) 2⟩,
  ⟨none, some 9, .assign (.tmp 40)⟩,
  ⟨none, some 10, .assign (.tmp 41)⟩,
  ⟨none, some 11, .assign (.tmp 42)⟩]
def r35_40_w {E fr h Q} := @opsW_unf E fr h Q _ _ r35_40.eq_1
def s35_41 : GC := .seq (.ops r35_40) s35_39
def s35_41_w {E nt rd fr h Q} := @wp_unf E nt rd fr h Q _ _ s35_41.eq_1
def r35_42 : List GO := [⟨none, some 8, .assign (.const (.int .i64 0))⟩]
def r35_42_w {E fr h Q} := @opsW_unf E fr h Q _ _ r35_42.eq_1
def s35_43 : GC := .seq (.ops r35_42) s35_41
def s35_43_w {E nt rd fr h Q} := @wp_unf E nt rd fr h Q _ _ s35_43.eq_1
def r35_44 : List GO := [⟨none, some 33, .move (.tmp 0)⟩,
  ⟨none, some 34, .call ⟨.value (.func 56), ⟨[.tmp 33, .const (.string ⟨⟨[45]⟩⟩)]⟩, ⟨[9, 9]⟩⟩⟩,
  ⟨none, some 32, .move (.tmp 34)⟩,
  ⟨none, some 35, .extract (.tmp 32) 0⟩,
  ⟨none, some 36, .extract (.tmp 32) 1⟩,
  ⟨none, some 6, .assign (.tmp 35)⟩,
  ⟨none, some 7, .assign (.tmp 36)⟩]
def r35_44_w {E fr h Q} := @opsW_unf E fr h Q _ _ r35_44.eq_1
def s35_45 : GC := .seq (.ops r35_44) s35_43
def s35_45_w {E nt rd fr h Q} := @wp_unf E nt rd fr h Q _ _ s35_45.eq_1
def r35_46 : List GO := [⟨none, some 31, .binOp .add 3 (.tmp 22) (.const (.int .i64 1)) 3⟩,
  ⟨none, some 22, .move (.tmp 31)⟩]
def r35_46_w {E fr h Q} := @opsW_unf E fr h Q _ _ r35_46.eq_1
def s35_47 : GC := .ops r35_46
def s35_47_w {E nt rd fr h Q} := @wp_unf E nt rd fr h Q _ _ s35_47.eq_1
def r35_48 : List GO := [⟨none, some 30, .move (.tmp 5)⟩,
  ⟨none, some 2, .assign (.tmp 30)⟩,
  ⟨none, some 3, .assign (.const (.int .i64 0))⟩]
def r35_48_w {E fr h Q} := @opsW_unf E fr h Q _ _ r35_48.eq_1
def s35_49 : GC := .seq (.ops r35_48) .ret
def s35_49_w {E nt rd fr h Q} := @wp_unf E nt rd fr h Q _ _ s35_49.eq_1
def s35_50 : GC := .cond (.tmp 29) s35_49 .skip
def s35_50_w {E nt rd fr h Q} := @wp_unf E nt rd fr h Q _ _ s35_50.eq_1
def r35_51 : List GO := [⟨none, some 26, .move (.tmp 5)⟩,
  ⟨none, some 27, .call ⟨.value (.func 54), ⟨[.tmp 26]⟩, ⟨[27]⟩⟩⟩,
  ⟨none, some 28, .move (.tmp 0)⟩,
  ⟨none, some 29, .binOp .eql 9 (.tmp 27) (.tmp 28) 9⟩]
def r35_51_w {E fr h Q} := @opsW_unf E fr h Q _ _ r35_51.eq_1
def s35_52 : GC := .seq (.ops r35_51) s35_50
def s35_52_w {E nt rd fr h Q} := @wp_unf E nt rd fr h Q _ _ s35_52.eq_1
def r35_53 : List GO := [⟨none, some 24, .indexAddr 25 (.tmp 20) (.tmp 22)⟩,
  ⟨none, some 25, .load 27 (.tmp 24)⟩,
  ⟨none, some 5, .assign (.tmp 25)⟩]
def r35_53_w {E fr h Q} := @opsW_unf E fr h Q _ _ r35_53.eq_1
def s35_54 : GC := .seq (.ops r35_53) s35_52
def s35_54_w {E nt rd fr h Q} := @wp_unf E nt rd fr h Q _ _ s35_54.eq_1
def s35_55 : GC := .seq (.block 1 s35_54) s35_47
def s35_55_w {E nt rd fr h Q} := @wp_unf E nt rd fr h Q _ _ s35_55.eq_1
def s35_56 : GC := .cond (.tmp 23) .skip (.exit 0)
def s35_56_w {E nt rd fr h Q} := @wp_unf E nt rd fr h Q _ _ s35_56.eq_1
def s35_57 : GC := .seq (s35_56) s35_55
def s35_57_w {E nt rd fr h Q} := @wp_unf E nt rd fr h Q _ _ s35_57.eq_1
def r35_58 : List GO := [⟨none, some 23, .binOp .lss 3 (.tmp 22) (.tmp 21) 3⟩]
def r35_58_w {E fr h Q} := @opsW_unf E fr h Q _ _ r35_58.eq_1
def s35_59 : GC := .seq (.ops r35_58) s35_57
def s35_59_w {E nt rd fr h Q} := @wp_unf E nt rd fr h Q _ _ s35_59.eq_1
def s35_60 : GC := .loop s35_59
def s35_60_w {E nt rd fr h Q} := @wp_unf E nt rd fr h Q _ _ s35_60.eq_1
def s35_61 : GC := .block 0 s35_60
def s35_61_w {E nt rd fr h Q} := @wp_unf E nt rd fr h Q _ _ s35_61.eq_1
def r35_62 : List GO := [⟨none, some 16, .call ⟨.value (.func 48), ⟨[]⟩, ⟨[]⟩⟩⟩,
  ⟨none, some 17, .call ⟨.value (.func 38), ⟨[.const (.int .i64 1)]⟩, ⟨[3]⟩⟩⟩,
  ⟨none, some 18, .call ⟨.value (.func 38), ⟨[.const (.int .i64 (-1))]⟩, ⟨[3]⟩⟩⟩,
  ⟨none, some 19, .call ⟨.value (.func 39), ⟨[.const (.float .f64 0), .const (.float .f64 13830554455654793216)]⟩, ⟨[27, 27]⟩⟩⟩,
  ⟨none, some 20, .buildSlice 25 5 ⟨[(0, .tmp 16), (1, .tmp 17), (2, .tmp 18), (3, .const (.float .f64 0)), (4, .tmp 19)]⟩⟩,
  ⟨none, some 21, .call ⟨.builtin .len, ⟨[.tmp 20]⟩, ⟨[25]⟩⟩⟩,
  ⟨none, some 22, .move (.const (.int .i64 0))⟩]
def r35_62_w {E fr h Q} := @opsW_unf E fr h Q _ _ r35_62.eq_1
def s35_63 : GC := .seq (.ops r35_62) s35_61
def s35_63_w {E nt rd fr h Q} := @wp_unf E nt rd fr h Q _ _ s35_63.eq_1
def s35_64 : GC := .seq (s35_63) s35_45
def s35_64_w {E nt rd fr h Q} := @wp_unf E nt rd fr h Q _ _ s35_64.eq_1
def r35_65 : List GO := [⟨none, some 2, .assign (.const (.float .f64 0))⟩,
  ⟨none, some 3, .assign (.const (.int .i64 0))⟩]
def r35_65_w {E fr h Q} := @opsW_unf E fr h Q _ _ r35_65.eq_1
def s35_66 : GC := .seq (.ops r35_65) s35_64
def s35_66_w {E nt rd fr h Q} := @wp_unf E nt rd fr h Q _ _ s35_66.eq_1
theorem c35 : Tryd.f35.body.bind (clean env 80) = some s35_66 := by kernel_rfl
theorem e35 : env.funs.get 35 = some Tryd.f35 := by kernel_rfl
theorem F35 {args : List Value} {h : Heap} {K : Value → Heap → Prop} (hl : args.length = 1) (w : s35_66.wp env 80 none (setAll args 0 .leaf) h (resK env [.tmp 2, .tmp 3] K)) : Ret env (.func 35) args h K :=
  Ret.of_body' rfl e35 c35 rfl rfl (by rw [hl]; decide) w
/-! helmsman/helmsmanref31.Text -/
def r36_0 : List GO := [⟨none, some 67, .move (.tmp 6)⟩,
  ⟨none, some 2, .assign (.tmp 67)⟩]
def r36_0_w {E fr h Q} := @opsW_unf E fr h Q _ _ r36_0.eq_1
def s36_1 : GC := .seq (.ops r36_0) .ret
def s36_1_w {E nt rd fr h Q} := @wp_unf E nt rd fr h Q _ _ s36_1.eq_1
def r36_2 : List GO := [⟨none, some 61, .move (.tmp 6)⟩,
  ⟨none, some 62, .binOp .add 9 (.tmp 61) (.const (.string ⟨⟨[47, 50, 94]⟩⟩)) 9⟩,
  ⟨none, some 63, .move (.tmp 8)⟩,
  ⟨none, some 64, .unOp .neg 3 (.tmp 63)⟩,
  ⟨none, some 65, .call ⟨.value (.func 52), ⟨[.tmp 64]⟩, ⟨[3]⟩⟩⟩,
  ⟨none, some 66, .binOp .add 9 (.tmp 62) (.tmp 65) 9⟩,
  ⟨none, some 2, .assign (.tmp 66)⟩]
def r36_2_w {E fr h Q} := @opsW_unf E fr h Q _ _ r36_2.eq_1
def s36_3 : GC := .seq (.ops r36_2) .ret
def s36_3_w {E nt rd fr h Q} := @wp_unf E nt rd fr h Q _ _ s36_3.eq_1
def s36_4 : GC := .cond (.tmp 60) s36_3 .skip
def s36_4_w {E nt rd fr h Q} := @wp_unf E nt rd fr h Q _ _ s36_4.eq_1
def r36_5 : List GO := [⟨none, some 59, .move (.tmp 8)⟩,
  ⟨none, some 60, .binOp .lss 3 (.tmp 59) (.const (.int .i64 0)) 3⟩]
def r36_5_w {E fr h Q} := @opsW_unf E fr h Q _ _ r36_5.eq_1
def s36_6 : GC := .seq (.ops r36_5) s36_4
def s36_6_w {E nt rd fr h Q} := @wp_unf E nt rd fr h Q _ _ s36_6.eq_1
def s36_7 : GC := .seq (s36_6) s36_1
def s36_7_w {E nt rd fr h Q} := @wp_unf E nt rd fr h Q _ _ s36_7.eq_1
def r36_8 : List GO := [⟨none, some 54, .move (.tmp 6)⟩,
  ⟨none, some 55, .binOp .add 9 (.tmp 54) (.const (.string ⟨⟨[42, 50, 94]⟩⟩)) 9⟩,
  ⟨none, some 56, .move (.tmp 8)⟩,
  ⟨none, some 57, .call ⟨.value (.func 52), ⟨[.tmp 56]⟩, ⟨[3]⟩⟩⟩,
  ⟨none, some 58, .binOp .add 9 (.tmp 55) (.tmp 57) 9⟩,
  ⟨none, some 2, .assign (.tmp 58)⟩]
def r36_8_w {E fr h Q} := @opsW_unf E fr h Q _ _ r36_8.eq_1
def s36_9 : GC := .seq (.ops r36_8) .ret
def s36_9_w {E nt rd fr h Q} := @wp_unf E nt rd fr h Q _ _ s36_9.eq_1
def s36_10 : GC := .cond (.tmp 53) s36_9 .skip
def s36_10_w {E nt rd fr h Q} := @wp_unf E nt rd fr h Q _ _ s36_10.eq_1
def r36_11 : List GO := [⟨none, some 52, .move (.tmp 8)⟩,
  ⟨none, some 53, .binOp .gtr 3 (.tmp 52) (.const (.int .i64 0)) 3⟩]
def r36_11_w {E fr h Q} := @opsW_unf E fr h Q _ _ r36_11.eq_1
def s36_12 : GC := .seq (.ops r36_11) s36_10
def s36_12_w {E nt rd fr h Q} := @wp_unf E nt rd fr h Q _ _ s36_12.eq_1
def s36_13 : GC := .seq (s36_12) s36_7
def s36_13_w {E nt rd fr h Q} := @wp_unf E nt rd fr h Q _ _ s36_13.eq_1
def r36_14 : List GO := [⟨none, some 48, .move (.tmp 6)⟩,
  ⟨none, some 49, .move (.tmp 7)⟩,
  ⟨none, some 50, .call ⟨.value (.func 53), ⟨[.tmp 49]⟩, ⟨[23]⟩⟩⟩,
  ⟨none, some 51, .binOp .add 9 (.tmp 48) (.tmp 50) 9⟩,
  ⟨none, some 6, .assign (.tmp 51)⟩]
def r36_14_w {E fr h Q} := @opsW_unf E fr h Q _ _ r36_14.eq_1
def s36_15 : GC := .seq (.ops r36_14) s36_13
def s36_15_w {E nt rd fr h Q} := @wp_unf E nt rd fr h Q _ _ s36_15.eq_1
def r36_16 : List GO := [⟨none, some 46, .move (.tmp 8)⟩,
  ⟨none, some 47, .binOp .add 3 (.tmp 46) (.const (.int .i64 1)) 3⟩,
  ⟨none, some 8, .assign (.tmp 47)⟩]
def r36_16_w {E fr h Q} := @opsW_unf E fr h Q _ _ r36_16.eq_1
def s36_17 : GC := .ops r36_16
def s36_17_w {E nt rd fr h Q} := @wp_unf E nt rd fr h Q _ _ s36_17.eq_1
def r36_18 : List GO := [⟨none, some 44, .move (.tmp 7)⟩,
  ⟨none, some 45, .binOp .quo 23 (.tmp 44) (.const (.int .u64 2)) 23⟩,
  ⟨none, some 7, .assign (.tmp 45)⟩]
def r36_18_w {E fr h Q} := @opsW_unf E fr h Q _ _ r36_18.eq_1
def s36_19 : GC := .seq (.ops r36_18) s36_17
def s36_19_w {E nt rd fr h Q} := @wp_unf E nt rd fr h Q _ _ s36_19.eq_1
def s36_20 : GC := .block 1 s36_19
def s36_20_w {E nt rd fr h Q} := @wp_unf E nt rd fr h Q _ _ s36_20.eq_1
def s36_21 : GC := .cond (.tmp 43) .skip (.exit 0)
def s36_21_w {E nt rd fr h Q} := @wp_unf E nt rd fr h Q _ _ s36_21.eq_1
def r36_22 : List GO := [⟨none, some 41, .move (.tmp 7)⟩,
  ⟨none, some 42, .binOp .rem 23 (.tmp 41) (.const (.int .u64 2)) 23⟩,
  ⟨none, some 43, .binOp .eql 23 (.tmp 42) (.const (.int .u64 0)) 23⟩]
def r36_22_w {E fr h Q} := @opsW_unf E fr h Q _ _ r36_22.eq_1
def s36_23 : GC := .seq (.ops r36_22) s36_21
def s36_23_w {E nt rd fr h Q} := @wp_unf E nt rd fr h Q _ _ s36_23.eq_1
def s36_24 : GC := .seq (s36_23) s36_20
def s36_24_w {E nt rd fr h Q} := @wp_unf E nt rd fr h Q _ _ s36_24.eq_1
def s36_25 : GC := .loop s36_24
def s36_25_w {E nt rd fr h Q} := @wp_unf E nt rd fr h Q _ _ s36_25.eq_1
def s36_26 : GC := .seq (.block 0 s36_25) s36_15
def s36_26_w {E nt rd fr h Q} := @wp_unf E nt rd fr h Q _ _ s36_26.eq_1
def r36_27 : List GO := [⟨none, some 39, .move (.tmp 4)⟩,
  ⟨none, some 40, .binOp .sub 3 (.tmp 39) (.const (.int .i64 1075)) 3⟩,
  ⟨none, some 8, .assign (.tmp 40)⟩]
def r36_27_w {E fr h Q} := @opsW_unf E fr h Q _ _ r36_27.eq_1
def s36_28 : GC := .ops r36_27
def s36_28_w {E nt rd fr h Q} := @wp_unf E nt rd fr h Q _ _ s36_28.eq_1
def r36_29 : List GO := [⟨none, some 37, .move (.tmp 5)⟩,
  ⟨none, some 38, .binOp .add 23 (.tmp 37) (.const (.int .u64 4503599627370496)) 23⟩,
  ⟨none, some 7, .assign (.tmp 38)⟩]
def r36_29_w {E fr h Q} := @opsW_unf E fr h Q _ _ r36_29.eq_1
def s36_30 : GC := .seq (.ops r36_29) s36_28
def s36_30_w {E nt rd fr h Q} := @wp_unf E nt rd fr h Q _ _ s36_30.eq_1
def s36_31 : GC := .cond (.tmp 36) s36_30 .skip
def s36_31_w {E nt rd fr h Q} := @wp_unf E nt rd fr h Q _ _ s36_31.eq_1
def r36_32 : List GO := [⟨none, some 35, .move (.tmp 4)⟩,
  ⟨none, some 36, .binOp .gtr 3 (.tmp 35) (.const (.int .i64 0)) 3⟩]
def r36_32_w {E fr h Q} := @opsW_unf E fr h Q _ _ r36_32.eq_1
def s36_33 : GC := .seq (.ops r36_32) s36_31
def s36_33_w {E nt rd fr h Q} := @wp_unf E nt rd fr h Q _ _ s36_33.eq_1
def s36_34 : GC := .seq (s36_33) s36_26
def s36_34_w {E nt rd fr h Q} := @wp_unf E nt rd fr h Q _ _ s36_34.eq_1
def r36_35 : List GO := [⟨none, some 34, .move (.tmp 5)⟩,
  ⟨none, some 7, .assign (.tmp 34)⟩,
  ⟨none, some 8, .assign (.const (.int .i64 (-1074)))⟩]
def r36_35_w {E fr h Q} := @opsW_unf E fr h Q _ _ r36_35.eq_1
def s36_36 : GC := .seq (.ops r36_35) s36_34
def s36_36_w {E nt rd fr h Q} := @wp_unf E nt rd fr h Q _ _ s36_36.eq_1
def r36_37 : List GO := [⟨none, some 32, .move (.tmp 6)⟩,
  ⟨none, some 33, .binOp .add 9 (.tmp 32) (.const (.string ⟨⟨[48]⟩⟩)) 9⟩,
  ⟨none, some 2, .assign (.tmp 33)⟩]
def r36_37_w {E fr h Q} := @opsW_unf E fr h Q _ _ r36_37.eq_1
def s36_38 : GC := .seq (.ops r36_37) .ret
def s36_38_w {E nt rd fr h Q} := @wp_unf E nt rd fr h Q _ _ s36_38.eq_1
def s36_39 : GC := .cond (.tmp 31) s36_38 .skip
def s36_39_w {E nt rd fr h Q} := @wp_unf E nt rd fr h Q _ _ s36_39.eq_1
def r36_40 : List GO := [⟨none, some 26, .move (.tmp 4)⟩,
  ⟨none, some 27, .binOp .eql 3 (.tmp 26) (.const (.int .i64 0)) 3⟩,
  ⟨none, some 28, .move (.tmp 27)⟩,
  ⟨some (28, true), some 29, .move (.tmp 5)⟩,
  ⟨some (28, true), some 30, .binOp .eql 23 (.tmp 29) (.const (.int .u64 0)) 23⟩,
  ⟨none, some 31, .pick (.tmp 28) (.tmp 30) (.const (.bool false))⟩]
def r36_40_w {E fr h Q} := @opsW_unf E fr h Q _ _ r36_40.eq_1
def s36_41 : GC := .seq (.ops r36_40) s36_39
def s36_41_w {E nt rd fr h Q} := @wp_unf E nt rd fr h Q _ _ s36_41.eq_1
def s36_42 : GC := .seq (s36_41) s36_36
def s36_42_w {E nt rd fr h Q} := @wp_unf E nt rd fr h Q _ _ s36_42.eq_1
def r36_43 : List GO := [⟨none, some 24, .move (.tmp 6)⟩,
  ⟨none, some 25, .binOp .add 9 (.tmp 24) (.const (.string ⟨⟨[105, 110, 102]⟩⟩)) 9⟩,
  ⟨none, some 2, .assign (.tmp 25)⟩]
def r36_43_w {E fr h Q} := @opsW_unf E fr h Q _ _ r36_43.eq_1
def s36_44 : GC := .seq (.ops r36_43) .ret
def s36_44_w {E nt rd fr h Q} := @wp_unf E nt rd fr h Q _ _ s36_44.eq_1
def s36_45 : GC := .cond (.tmp 23) s36_44 .skip
def s36_45_w {E nt rd fr h Q} := @wp_unf E nt rd fr h Q _ _ s36_45.eq_1
def r36_46 : List GO := [⟨none, some 22, .move (.tmp 4)⟩,
  ⟨none, some 23, .binOp .eql 3 (.tmp 22) (.const (.int .i64 2047)) 3⟩]
def r36_46_w {E fr h Q} := @opsW_unf E fr h Q _ _ r36_46.eq_1
def s36_47 : GC := .seq (.ops r36_46) s36_45
def s36_47_w {E nt rd fr h Q} := @wp_unf E nt rd fr h Q _ _ s36_47.eq_1
def s36_48 : GC := .seq (s36_47) s36_42
def s36_48_w {E nt rd fr h Q} := @wp_unf E nt rd fr h Q _ _ s36_48.eq_1
def r36_49 : List GO := [⟨none, some 2, .assign (.const (.string ⟨⟨[110, 97, 110]⟩⟩))⟩]
def r36_49_w {E fr h Q} := @opsW_unf E fr h Q _ _ r36_49.eq_1
def s36_50 : GC := .seq (.ops r36_49) .ret
def s36_50_w {E nt rd fr h Q} := @wp_unf E nt rd fr h Q _ _ s36_50.eq_1
def s36_51 : GC := .cond (.tmp 21) s36_50 .skip
def s36_51_w {E nt rd fr h Q} := @wp_unf E nt rd fr h Q _ _ s36_51.eq_1
def r36_52 : List GO := [⟨none, some 16, .move (.tmp 4)⟩,
  ⟨none, some 17, .binOp .eql 3 (.tmp 16) (.const (.int .i64 2047)) 3⟩,
  ⟨none, some 18, .move (.tmp 17)⟩,
  ⟨some (18, true), some 19, .move (.tmp 5)⟩,
  ⟨some (18, true), some 20, .binOp .gtr 23 (.tmp 19) (.const (.int .u64 0)) 23⟩,
  ⟨none, some 21, .pick (.tmp 18) (.tmp 20) (.const (.bool false))⟩]
def r36_52_w {E fr h Q} := @opsW_unf E fr h Q _ _ r36_52.eq_1
def s36_53 : GC := .seq (.ops r36_52) s36_51
def s36_53_w {E nt rd fr h Q} := @wp_unf E nt rd fr h Q _ _ s36_53.eq_1
def s36_54 : GC := .seq (s36_53) s36_48
def s36_54_w {E nt rd fr h Q} := @wp_unf E nt rd fr h Q _ _ s36_54.eq_1
def r36_55 : List GO := [⟨none, some 6, .assign (.const (.string ⟨⟨[45]⟩⟩))⟩]
def r36_55_w {E fr h Q} := @opsW_unf E fr h Q _ _ r36_55.eq_1
def s36_56 : GC := .ops r36_55
def s36_56_w {E nt rd fr h Q} := @wp_unf E nt rd fr h Q _ _ s36_56.eq_1
def s36_57 : GC := .cond (.tmp 15) s36_56 .skip
def s36_57_w {E nt rd fr h Q} := @wp_unf E nt rd fr h Q _ _ s36_57.eq_1
def r36_58 : List GO := [⟨none, some 15, .move (.tmp 3)⟩]
def r36_58_w {E fr h Q} := @opsW_unf E fr h Q _ _ r36_58.eq_1
def s36_59 : GC := .seq (.ops r36_58) s36_57
def s36_59_w {E nt rd fr h Q} := @wp_unf E nt rd fr h Q _ _ s36_59.eq_1
def s36_60 : GC := .seq (s36_59) s36_54
def s36_60_w {E nt rd fr h Q} := @wp_unf E nt rd fr h Q _ _ s36_60.eq_1
def r36_61 : List GO := [⟨none, some 6, .assign (.const (.string ⟨⟨[]⟩⟩))⟩]
def r36_61_w {E fr h Q} := @opsW_unf E fr h Q _ _ r36_61.eq_1
def s36_62 : GC := .seq (.ops r36_61) s36_60
def s36_62_w {E nt rd fr h Q} := @wp_unf E nt rd fr h Q _ _ s36_62.eq_1
def r36_63 : List GO := [⟨none, some 10, .move (.tmp 0)⟩,
  ⟨none, some 11, .call ⟨.value (.func 40), ⟨[.tmp 10]⟩, ⟨[27]⟩⟩⟩,
  ⟨none, some 9, .move (.tmp 11)⟩,
  ⟨none, some 12, .extract (.tmp 9) 0⟩,
  ⟨none, some 13, .extract (.tmp 9) 1⟩,
  ⟨none, some 14, .extract (.tmp 9) 2⟩,
  ⟨none, some 3, .assign (.tmp 12)⟩,
  ⟨none, some 4, .assign (.tmp 13)⟩,
  ⟨none, some 5, .assign (.tmp 14)⟩]
def r36_63_w {E fr h Q} := @opsW_unf E fr h Q _ _ r36_63.eq_1
def s36_64 : GC := .seq (.ops r36_63) s36_62
def s36_64_w {E nt rd fr h Q} := @wp_unf E nt rd fr h Q _ _ s36_64.eq_1
def r36_65 : List GO := [⟨none, some 2, .assign (.const (.string ⟨⟨[]⟩⟩))⟩]
def r36_65_w {E fr h Q} := @opsW_unf E fr h Q _ _ r36_65.eq_1
def s36_66 : GC := .seq (.ops r36_65) s36_64
def s36_66_w {E nt rd fr h Q} := @wp_unf E nt rd fr h Q _ _ s36_66.eq_1
theorem c36 : Tryd.f36.body.bind (clean env 68) = some s36_66 := by kernel_rfl
theorem e36 : env.funs.get 36 = some Tryd.f36 := by kernel_rfl
theorem F36 {args : List Value} {h : Heap} {K : Value → Heap → Prop} (hx : env.ext 36 args h = none) (hl : args.length = 1) (w : s36_66.wp env 68 none (setAll args 0 .leaf) h (resK env [.tmp 2] K)) : Ret env (.func 36) args h K :=
  Ret.of_body' hx e36 c36 rfl rfl (by rw [hl]; decide) w
/-! math.Inf -/
def r38_0 : List GO := [⟨none, some 6, .move (.tmp 3)⟩,
  ⟨none, some 7, .call ⟨.value (.func 10), ⟨[.tmp 6]⟩, ⟨[23]⟩⟩⟩,
  ⟨none, some 2, .assign (.tmp 7)⟩]
def r38_0_w {E fr h Q} := @opsW_unf E fr h Q _ _ r38_0.eq_1
def s38_1 : GC := .seq (.ops r38_0) .ret
def s38_1_w {E nt rd fr h Q} := @wp_unf E nt rd fr h Q _ _ s38_1.eq_1
def r38_2 : List GO := [⟨none, some 3, .assign (.const (.int .u64 9218868437227405312))⟩]
def r38_2_w {E fr h Q} := @opsW_unf E fr h Q _ _ r38_2.eq_1
def s38_3 : GC := .ops r38_2
def s38_3_w {E nt rd fr h Q} := @wp_unf E nt rd fr h Q _ _ s38_3.eq_1
def r38_4 : List GO := [⟨none, some 3, .assign (.const (.int .u64 18442240474082181120))⟩]
def r38_4_w {E fr h Q} := @opsW_unf E fr h Q _ _ r38_4.eq_1
def s38_5 : GC := .ops r38_4
def s38_5_w {E nt rd fr h Q} := @wp_unf E nt rd fr h Q _ _ s38_5.eq_1
def s38_6 : GC := .cond (.tmp 5) s38_3 s38_5
def s38_6_w {E nt rd fr h Q} := @wp_unf E nt rd fr h Q _ _ s38_6.eq_1
def r38_7 : List GO := [⟨none, some 4, .move (.tmp 0)⟩,
  ⟨none, some 5, .binOp .geq 3 (.tmp 4) (.const (.int .i64 0)) 3⟩]
def r38_7_w {E fr h Q} := @opsW_unf E fr h Q _ _ r38_7.eq_1
def s38_8 : GC := .seq (.ops r38_7) s38_6
def s38_8_w {E nt rd fr h Q} := @wp_unf E nt rd fr h Q _ _ s38_8.eq_1
def s38_9 : GC := .seq (s38_8) s38_1
def s38_9_w {E nt rd fr h Q} := @wp_unf E nt rd fr h Q _ _ s38_9.eq_1
def r38_10 : List GO := [⟨none, some 3, .assign (.const (.int .u64 0))⟩]
def r38_10_w {E fr h Q} := @opsW_unf E fr h Q _ _ r38_10.eq_1
def s38_11 : GC := .seq (.ops r38_10) s38_9
def s38_11_w {E nt rd fr h Q} := @wp_unf E nt rd fr h Q _ _ s38_11.eq_1
def r38_12 : List GO := [⟨none, some 2, .assign (.const (.float .f64 0))⟩]
def r38_12_w {E fr h Q} := @opsW_unf E fr h Q _ _ r38_12.eq_1
def s38_13 : GC := .seq (.ops r38_12) s38_11
def s38_13_w {E nt rd fr h Q} := @wp_unf E nt rd fr h Q _ _ s38_13.eq_1
theorem c38 : Tryd.f38.body.bind (clean env 8) = some s38_13 := by kernel_rfl
theorem e38 : env.funs.get 38 = some Tryd.f38 := by kernel_rfl
theorem F38 {args : List Value} {h : Heap} {K : Value → Heap → Prop} (hl : args.length = 1) (w : s38_13.wp env 8 none (setAll args 0 .leaf) h (resK env [.tmp 2] K)) : Ret env (.func 38) args h K :=
  Ret.of_body' rfl e38 c38 rfl rfl (by rw [hl]; decide) w
/-! math.Copysign -/
def r39_0 : List GO := [⟨none, some 5, .move (.tmp 0)⟩,
  ⟨none, some 6, .call ⟨.value (.func 18), ⟨[.tmp 5]⟩, ⟨[27]⟩⟩⟩,
  ⟨none, some 7, .binOp .andNot 23 (.tmp 6) (.const (.int .u64 9223372036854775808)) 23⟩,
  ⟨none, some 8, .move (.tmp 1)⟩,
  ⟨none, some 9, .call ⟨.value (.func 18), ⟨[.tmp 8]⟩, ⟨[27]⟩⟩⟩,
  ⟨none, some 10, .binOp .and 23 (.tmp 9) (.const (.int .u64 9223372036854775808)) 23⟩,
  ⟨none, some 11, .binOp .or 23 (.tmp 7) (.tmp 10) 23⟩,
  ⟨none, some 12, .call ⟨.value (.func 10), ⟨[.tmp 11]⟩, ⟨[23]⟩⟩⟩,
  ⟨none, some 4, .assign (.tmp 12)⟩]
def r39_0_w {E fr h Q} := @opsW_unf E fr h Q _ _ r39_0.eq_1
def s39_1 : GC := .seq (.ops r39_0) .ret
def s39_1_w {E nt rd fr h Q} := @wp_unf E nt rd fr h Q _ _ s39_1.eq_1
def r39_2 : List GO := [⟨none, some 4, .assign (.const (.float .f64 0))⟩]
def r39_2_w {E fr h Q} := @opsW_unf E fr h Q _ _ r39_2.eq_1
def s39_3 : GC := .seq (.ops r39_2) s39_1
def s39_3_w {E nt rd fr h Q} := @wp_unf E nt rd fr h Q _ _ s39_3.eq_1
theorem c39 : Tryd.f39.body.bind (clean env 13) = some s39_3 := by kernel_rfl
theorem e39 : env.funs.get 39 = some Tryd.f39 := by kernel_rfl
theorem F39 {args : List Value} {h : Heap} {K : Value → Heap → Prop} (hl : args.length = 2) (w : s39_3.wp env 13 none (setAll args 0 .leaf) h (resK env [.tmp 4] K)) : Ret env (.func 39) args h K :=
  Ret.of_body' rfl e39 c39 rfl rfl (by rw [hl]; decide) w
/-! helmsman/helmsmanref31.parts -/
def r40_0 : List GO := [⟨none, some 8, .move (.tmp 5)⟩,
  ⟨none, some 9, .binOp .gtr 23 (.tmp 8) (.const (.int .u64 9223372036854775807)) 23⟩,
  ⟨none, some 10, .move (.tmp 5)⟩,
  ⟨none, some 11, .binOp .quo 23 (.tmp 10) (.const (.int .u64 4503599627370496)) 23⟩,
  ⟨none, some 12, .binOp .rem 23 (.tmp 11) (.const (.int .u64 2048)) 23⟩,
  ⟨none, some 13, .convert 23 3 (.tmp 12)⟩,
  ⟨none, some 14, .move (.tmp 5)⟩,
  ⟨none, some 15, .binOp .rem 23 (.tmp 14) (.const (.int .u64 4503599627370496)) 23⟩,
  ⟨none, some 2, .assign (.tmp 9)⟩,
  ⟨none, some 3, .assign (.tmp 13)⟩,
  ⟨none, some 4, .assign (.tmp 15)⟩]
def r40_0_w {E fr h Q} := @opsW_unf E fr h Q _ _ r40_0.eq_1
def s40_1 : GC := .seq (.ops r40_0) .ret
def s40_1_w {E nt rd fr h Q} := @wp_unf E nt rd fr h Q _ _ s40_1.eq_1
def r40_2 : List GO := [⟨none, some 6, .move (.tmp 0)⟩,
  ⟨none, some 7, .call ⟨.value (.func 18), ⟨[.tmp 6]⟩, ⟨[27]⟩⟩⟩,
  ⟨none, some 5, .assign (.tmp 7)⟩]
def r40_2_w {E fr h Q} := @opsW_unf E fr h Q _ _ r40_2.eq_1
def s40_3 : GC := .seq (.ops r40_2) s40_1
def s40_3_w {E nt rd fr h Q} := @wp_unf E nt rd fr h Q _ _ s40_3.eq_1
def r40_4 : List GO := [⟨none, some 2, .assign (.const (.bool false))⟩,
  ⟨none, some 3, .assign (.const (.int .i64 0))⟩,
  ⟨none, some 4, .assign (.const (.int .u64 0))⟩]
def r40_4_w {E fr h Q} := @opsW_unf E fr h Q _ _ r40_4.eq_1
def s40_5 : GC := .seq (.ops r40_4) s40_3
def s40_5_w {E nt rd fr h Q} := @wp_unf E nt rd fr h Q _ _ s40_5.eq_1
theorem c40 : Tryd.f40.body.bind (clean env 16) = some s40_5 := by kernel_rfl
theorem e40 : env.funs.get 40 = some Tryd.f40 := by kernel_rfl
theorem F40 {args : List Value} {h : Heap} {K : Value → Heap → Prop} (hl : args.length = 1) (w : s40_5.wp env 16 none (setAll args 0 .leaf) h (resK env [.tmp 2, .tmp 3, .tmp 4] K)) : Ret env (.func 40) args h K :=
  Ret.of_body' rfl e40 c40 rfl rfl (by rw [hl]; decide) w
/-! math.NaN -/
def r48_0 : List GO := [⟨none, some 1, .call ⟨.value (.func 10), ⟨[.const (.int .u64 9221120237041090561)]⟩, ⟨[23]⟩⟩⟩,
  ⟨none, some 0, .assign (.tmp 1)⟩]
def r48_0_w {E fr h Q} := @opsW_unf E fr h Q _ _ r48_0.eq_1
def s48_1 : GC := .seq (.ops r48_0) .ret
def s48_1_w {E nt rd fr h Q} := @wp_unf E nt rd fr h Q _ _ s48_1.eq_1
def r48_2 : List GO := [⟨none, some 0, .assign (.const (.float .f64 0))⟩]
def r48_2_w {E fr h Q} := @opsW_unf E fr h Q _ _ r48_2.eq_1
def s48_3 : GC := .seq (.ops r48_2) s48_1
def s48_3_w {E nt rd fr h Q} := @wp_unf E nt rd fr h Q _ _ s48_3.eq_1
theorem c48 : Tryd.f48.body.bind (clean env 2) = some s48_3 := by kernel_rfl
theorem e48 : env.funs.get 48 = some Tryd.f48 := by kernel_rfl
theorem F48 {args : List Value} {h : Heap} {K : Value → Heap → Prop} (hl : args.length = 0) (w : s48_3.wp env 2 none (setAll args 0 .leaf) h (resK env [.tmp 0] K)) : Ret env (.func 48) args h K :=
  Ret.of_body' rfl e48 c48 rfl rfl (by rw [hl]; decide) w
/-! strconv.FormatUint -/
def r50_0 : List GO := [⟨none, some 5, .move (.tmp 0)⟩,
  ⟨none, some 6, .move (.tmp 1)⟩,
  ⟨none, some 7, .call ⟨.value (.func 67), ⟨[.tmp 5, .tmp 6]⟩, ⟨[23, 3]⟩⟩⟩,
  ⟨none, some 4, .assign (.tmp 7)⟩]
def r50_0_w {E fr h Q} := @opsW_unf E fr h Q _ _ r50_0.eq_1
def s50_1 : GC := .seq (.ops r50_0) .ret
def s50_1_w {E nt rd fr h Q} := @wp_unf E nt rd fr h Q _ _ s50_1.eq_1
def r50_2 : List GO := [⟨none, some 4, .assign (.const (.string ⟨⟨[]⟩⟩))⟩]
def r50_2_w {E fr h Q} := @opsW_unf E fr h Q _ _ r50_2.eq_1
def s50_3 : GC := .seq (.ops r50_2) s50_1
def s50_3_w {E nt rd fr h Q} := @wp_unf E nt rd fr h Q _ _ s50_3.eq_1
theorem c50 : Tryd.f50.body.bind (clean env 8) = some s50_3 := by kernel_rfl
theorem e50 : env.funs.get 50 = some Tryd.f50 := by kernel_rfl
theorem F50 {args : List Value} {h : Heap} {K : Value → Heap → Prop} (hl : args.length = 2) (w : s50_3.wp env 8 none (setAll args 0 .leaf) h (resK env [.tmp 4] K)) : Ret env (.func 50) args h K :=
  Ret.of_body' rfl e50 c50 rfl rfl (by rw [hl]; decide) w
/-! helmsman/helmsmanref31.num -/
def r52_0 : List GO := [⟨none, some 10, .move (.tmp 0)⟩,
  ⟨none, some 11, .convert 3 23 (.tmp 10)⟩,
  ⟨none, some 12, .call ⟨.value (.func 53), ⟨[.tmp 11]⟩, ⟨[23]⟩⟩⟩,
  ⟨none, some 2, .assign (.tmp 12)⟩]
def r52_0_w {E fr h Q} := @opsW_unf E fr h Q _ _ r52_0.eq_1
def s52_1 : GC := .seq (.ops r52_0) .ret
def s52_1_w {E nt rd fr h Q} := @wp_unf E nt rd fr h Q _ _ s52_1.eq_1
def r52_2 : List GO := [⟨none, some 5, .move (.tmp 0)⟩,
  ⟨none, some 6, .unOp .neg 3 (.tmp 5)⟩,
  ⟨none, some 7, .convert 3 23 (.tmp 6)⟩,
  ⟨none, some 8, .call ⟨.value (.func 53), ⟨[.tmp 7]⟩, ⟨[23]⟩⟩⟩,
  ⟨none, some 9, .binOp .add 9 (.const (.string ⟨⟨[45]⟩⟩)) (.tmp 8) 9⟩,
  ⟨none, some 2, .assign (.tmp 9)⟩]
def r52_2_w {E fr h Q} := @opsW_unf E fr h Q _ _ r52_2.eq_1
def s52_3 : GC := .seq (.ops r52_2) .ret
def s52_3_w {E nt rd fr h Q} := @wp_unf E nt rd fr h Q _ _ s52_3.eq_1
def s52_4 : GC := .cond (.tmp 4) s52_3 .skip
def s52_4_w {E nt rd fr h Q} := @wp_unf E nt rd fr h Q _ _ s52_4.eq_1
def r52_5 : List GO := [⟨none, some 3, .move (.tmp 0)⟩,
  ⟨none, some 4, .binOp .lss 3 (.tmp 3) (.const (.int .i64 0)) 3⟩]
def r52_5_w {E fr h Q} := @opsW_unf E fr h Q _ _ r52_5.eq_1
def s52_6 : GC := .seq (.ops r52_5) s52_4
def s52_6_w {E nt rd fr h Q} := @wp_unf E nt rd fr h Q _ _ s52_6.eq_1
def s52_7 : GC := .seq (s52_6) s52_1
def s52_7_w {E nt rd fr h Q} := @wp_unf E nt rd fr h Q _ _ s52_7.eq_1
def r52_8 : List GO := [⟨none, some 2, .assign (.const (.string ⟨⟨[]⟩⟩))⟩]
def r52_8_w {E fr h Q} := @opsW_unf E fr h Q _ _ r52_8.eq_1
def s52_9 : GC := .seq (.ops r52_8) s52_7
def s52_9_w {E nt rd fr h Q} := @wp_unf E nt rd fr h Q _ _ s52_9.eq_1
theorem c52 : Tryd.f52.body.bind (clean env 13) = some s52_9 := by kernel_rfl
theorem e52 : env.funs.get 52 = some Tryd.f52 := by kernel_rfl
theorem F52 {args : List Value} {h : Heap} {K : Value → Heap → Prop} (hl : args.length = 1) (w : s52_9.wp env 13 none (setAll args 0 .leaf) h (resK env [.tmp 2] K)) : Ret env (.func 52) args h K :=
  Ret.of_body' rfl e52 c52 rfl rfl (by rw [hl]; decide) w
/-! helmsman/helmsmanref31.big -/
def p53_0 : List (GO × List GO) := [(⟨none, some 10, .move (.tmp 0)⟩, []),
  (⟨none, some 11, .binOp .quo 23 (.tmp 10) (.const (.int .u64 10)) 23⟩, []),
  (⟨none, some 13, .move (.tmp 0)⟩, []),
  (⟨none, some 14, .binOp .rem 23 (.tmp 13) (.const (.int .u64 10)) 23⟩, []),
  (⟨none, some 15, .binOp .add 23 (.const (.int .u64 48)) (.tmp 14) 23⟩, []),
  (⟨none, some 16, .convert 23 5 (.tmp 15)⟩, []),
  (⟨none, some 17, .buildSlice 87 1 ⟨[(0, .tmp 16)]⟩⟩, []),
  (⟨none, some 18, .convert 87 9 (.tmp 17)⟩, []),
  (⟨none, some 12, .call ⟨.value (.func 53), ⟨[.tmp 11]⟩, ⟨[23]⟩⟩⟩, [⟨none, some 18, .convert 87 9 (.tmp 17)⟩]),
  (⟨none, some 19, .binOp .add 9 (.tmp 12) (.tmp 18) 9⟩, []),
  (⟨none, some 2, .assign (.tmp 19)⟩, [])]
def p53_0_w {E fr h Q} := @planW_unf E fr h Q _ _ p53_0.eq_1
def s53_1 : GC := .seq (.plan p53_0) .ret
def s53_1_w {E nt rd fr h Q} := @wp_unf E nt rd fr h Q _ _ s53_1.eq_1
def r53_2 : List GO := [⟨none, some 5, .move (.tmp 0)⟩,
  ⟨none, some 6, .binOp .add 23 (.const (.int .u64 48)) (.tmp 5) 23⟩,
  ⟨none, some 7, .convert 23 5 (.tmp 6)⟩,
  ⟨none, some 8, .buildSlice 87 1 ⟨[(0, .tmp 7)]⟩⟩,
  ⟨none, some 9, .convert 87 9 (.tmp 8)⟩,
  ⟨none, some 2, .assign (.tmp 9)⟩]
def r53_2_w {E fr h Q} := @opsW_unf E fr h Q _ _ r53_2.eq_1
def s53_3 : GC := .seq (.ops r53_2) .ret
def s53_3_w {E nt rd fr h Q} := @wp_unf E nt rd fr h Q _ _ s53_3.eq_1
def s53_4 : GC := .cond (.tmp 4) s53_3 .skip
def s53_4_w {E nt rd fr h Q} := @wp_unf E nt rd fr h Q _ _ s53_4.eq_1
def r53_5 : List GO := [⟨none, some 3, .move (.tmp 0)⟩,
  ⟨none, some 4, .binOp .lss 23 (.tmp 3) (.const (.int .u64 10)) 23⟩]
def r53_5_w {E fr h Q} := @opsW_unf E fr h Q _ _ r53_5.eq_1
def s53_6 : GC := .seq (.ops r53_5) s53_4
def s53_6_w {E nt rd fr h Q} := @wp_unf E nt rd fr h Q _ _ s53_6.eq_1
def s53_7 : GC := .seq (s53_6) s53_1
def s53_7_w {E nt rd fr h Q} := @wp_unf E nt rd fr h Q _ _ s53_7.eq_1
def r53_8 : List GO := [⟨none, some 2, .assign (.const (.string ⟨⟨[]⟩⟩))⟩]
def r53_8_w {E fr h Q} := @opsW_unf E fr h Q _ _ r53_8.eq_1
def s53_9 : GC := .seq (.ops r53_8) s53_7
def s53_9_w {E nt rd fr h Q} := @wp_unf E nt rd fr h Q _ _ s53_9.eq_1
theorem c53 : Tryd.f53.body.bind (clean env 20) = some s53_9 := by kernel_rfl
theorem e53 : env.funs.get 53 = some Tryd.f53 := by kernel_rfl
theorem F53 {args : List Value} {h : Heap} {K : Value → Heap → Prop} (hl : args.length = 1) (w : s53_9.wp env 20 none (setAll args 0 .leaf) h (resK env [.tmp 2] K)) : Ret env (.func 53) args h K :=
  Ret.of_body' rfl e53 c53 rfl rfl (by rw [hl]; decide) w
/-! helmsman/share.class -/
def r54_0 : List GO := [⟨none, some 2, .assign (.const (.string ⟨⟨[]⟩⟩))⟩]
def r54_0_w {E fr h Q} := @opsW_unf E fr h Q _ _ r54_0.eq_1
def s54_1 : GC := .seq (.ops r54_0) .ret
def s54_1_w {E nt rd fr h Q} := @wp_unf E nt rd fr h Q _ _ s54_1.eq_1
def r54_2 : List GO := [⟨none, some 2, .assign (.const (.string ⟨⟨[110, 97, 110]⟩⟩))⟩]
def r54_2_w {E fr h Q} := @opsW_unf E fr h Q _ _ r54_2.eq_1
def s54_3 : GC := .seq (.ops r54_2) .ret
def s54_3_w {E nt rd fr h Q} := @wp_unf E nt rd fr h Q _ _ s54_3.eq_1
def r54_4 : List GO := [⟨none, some 2, .assign (.const (.string ⟨⟨[105, 110, 102]⟩⟩))⟩]
def r54_4_w {E fr h Q} := @opsW_unf E fr h Q _ _ r54_4.eq_1
def s54_5 : GC := .seq (.ops r54_4) .ret
def s54_5_w {E nt rd fr h Q} := @wp_unf E nt rd fr h Q _ _ s54_5.eq_1
def r54_6 : List GO := [⟨none, some 2, .assign (.const (.string ⟨⟨[45, 105, 110, 102]⟩⟩))⟩]
def r54_6_w {E fr h Q} := @opsW_unf E fr h Q _ _ r54_6.eq_1
def s54_7 : GC := .seq (.ops r54_6) .ret
def s54_7_w {E nt rd fr h Q} := @wp_unf E nt rd fr h Q _ _ s54_7.eq_1
def r54_8 : List GO := [⟨none, some 2, .assign (.const (.string ⟨⟨[45, 48]⟩⟩))⟩]
def r54_8_w {E fr h Q} := @opsW_unf E fr h Q _ _ r54_8.eq_1
def s54_9 : GC := .seq (.ops r54_8) .ret
def s54_9_w {E nt rd fr h Q} := @wp_unf E nt rd fr h Q _ _ s54_9.eq_1
def r54_10 : List GO := [⟨none, some 2, .assign (.const (.string ⟨⟨[48]⟩⟩))⟩]
def r54_10_w {E fr h Q} := @opsW_unf E fr h Q _ _ r54_10.eq_1
def s54_11 : GC := .seq (.ops r54_10) .ret
def s54_11_w {E nt rd fr h Q} := @wp_unf E nt rd fr h Q _ _ s54_11.eq_1
def s54_12 : GC := .cond (.tmp 19) s54_11 .skip
def s54_12_w {E nt rd fr h Q} := @wp_unf E nt rd fr h Q _ _ s54_12.eq_1
def r54_13 : List GO := [⟨none, some 20, .move (.tmp 0)⟩,
  ⟨none, some 21, .binOp .eql 27 (.tmp 20) (.const (.float .f64 0)) 27⟩,
  ⟨none, some 19, .assign (.tmp 21)⟩]
def r54_13_w {E fr h Q} := @opsW_unf E fr h Q _ _ r54_13.eq_1
def s54_14 : GC := .seq (.ops r54_13) s54_12
def s54_14_w {E nt rd fr h Q} := @wp_unf E nt rd fr h Q _ _ s54_14.eq_1
def s54_15 : GC := .cond (.tmp 12) s54_9 s54_14
def s54_15_w {E nt rd fr h Q} := @wp_unf E nt rd fr h Q _ _ s54_15.eq_1
def r54_16 : List GO := [⟨none, some 13, .move (.tmp 0)⟩,
  ⟨none, some 14, .binOp .eql 27 (.tmp 13) (.const (.float .f64 0)) 27⟩,
  ⟨none, some 15, .move (.tmp 14)⟩,
  ⟨some (15, true), some 16, .move (.tmp 0)⟩,
  ⟨some (15, true), some 17, .call ⟨.value (.func 72), ⟨[.tmp 16]⟩, ⟨[27]⟩⟩⟩,
  ⟨none, some 18, .pick (.tmp 15) (.tmp 17) (.const (.bool false))⟩,
  ⟨none, some 12, .assign (.tmp 18)⟩]
def r54_16_w {E fr h Q} := @opsW_unf E fr h Q _ _ r54_16.eq_1
def s54_17 : GC := .seq (.ops r54_16) s54_15
def s54_17_w {E nt rd fr h Q} := @wp_unf E nt rd fr h Q _ _ s54_17.eq_1
def s54_18 : GC := .cond (.tmp 9) s54_7 s54_17
def s54_18_w {E nt rd fr h Q} := @wp_unf E nt rd fr h Q _ _ s54_18.eq_1
def r54_19 : List GO := [⟨none, some 10, .move (.tmp 0)⟩,
  ⟨none, some 11, .call ⟨.value (.func 71), ⟨[.tmp 10, .const (.int .i64 (-1))]⟩, ⟨[27, 3]⟩⟩⟩,
  ⟨none, some 9, .assign (.tmp 11)⟩]
def r54_19_w {E fr h Q} := @opsW_unf E fr h Q _ _ r54_19.eq_1
def s54_20 : GC := .seq (.ops r54_19) s54_18
def s54_20_w {E nt rd fr h Q} := @wp_unf E nt rd fr h Q _ _ s54_20.eq_1
def s54_21 : GC := .cond (.tmp 6) s54_5 s54_20
def s54_21_w {E nt rd fr h Q} := @wp_unf E nt rd fr h Q _ _ s54_21.eq_1
def r54_22 : List GO := [⟨none, some 7, .move (.tmp 0)⟩,
  ⟨none, some 8, .call ⟨.value (.func 71), ⟨[.tmp 7, .const (.int .i64 1)]⟩, ⟨[27, 3]⟩⟩⟩,
  ⟨none, some 6, .assign (.tmp 8)⟩]
def r54_22_w {E fr h Q} := @opsW_unf E fr h Q _ _ r54_22.eq_1
def s54_23 : GC := .seq (.ops r54_22) s54_21
def s54_23_w {E nt rd fr h Q} := @wp_unf E nt rd fr h Q _ _ s54_23.eq_1
def s54_24 : GC := .cond (.tmp 3) s54_3 s54_23
def s54_24_w {E nt rd fr h Q} := @wp_unf E nt rd fr h Q _ _ s54_24.eq_1
def r54_25 : List GO := [⟨none, some 4, .move (.tmp 0)⟩,
  ⟨none, some 5, .call ⟨.value (.func 63), ⟨[.tmp 4]⟩, ⟨[27]⟩⟩⟩,
  ⟨none, some 3, .assign (.tmp 5)⟩]
def r54_25_w {E fr h Q} := @opsW_unf E fr h Q _ _ r54_25.eq_1
def s54_26 : GC := .seq (.ops r54_25) s54_24
def s54_26_w {E nt rd fr h Q} := @wp_unf E nt rd fr h Q _ _ s54_26.eq_1
def s54_27 : GC := .seq (.block 0 s54_26) s54_1
def s54_27_w {E nt rd fr h Q} := @wp_unf E nt rd fr h Q _ _ s54_27.eq_1
def r54_28 : List GO := [⟨none, some 2, .assign (.const (.string ⟨⟨[]⟩⟩))⟩]
def r54_28_w {E fr h Q} := @opsW_unf E fr h Q _ _ r54_28.eq_1
def s54_29 : GC := .seq (.ops r54_28) s54_27
def s54_29_w {E nt rd fr h Q} := @wp_unf E nt rd fr h Q _ _ s54_29.eq_1
theorem c54 : Tryd.f54.body.bind (clean env 22) = some s54_29 := by kernel_rfl
theorem e54 : env.funs.get 54 = some Tryd.f54 := by kernel_rfl
theorem F54 {args : List Value} {h : Heap} {K : Value → Heap → Prop} (hl : args.length = 1) (w : s54_29.wp env 22 none (setAll args 0 .leaf) h (resK env [.tmp 2] K)) : Ret env (.func 54) args h K :=
  Ret.of_body' rfl e54 c54 rfl rfl (by rw [hl]; decide) w
/-! strconv.ParseUint -/
def r59_0 : List GO := [⟨none, some 25, .move (.tmp 8)⟩,
  ⟨none, some 6, .assign (.tmp 25)⟩,
  ⟨none, some 7, .assign (.const (.nilIface))⟩]
def r59_0_w {E fr h Q} := @opsW_unf E fr h Q _ _ r59_0.eq_1
def s59_1 : GC := .seq (.ops r59_0) .ret
def s59_1_w {E nt rd fr h Q} := @wp_unf E nt rd fr h Q _ _ s59_1.eq_1
def r59_2 : List GO := [⟨none, some 19, .move (.tmp 8)⟩,
  ⟨none, some 20, .move (.tmp 0)⟩,
  ⟨none, some 21, .move (.tmp 1)⟩,
  ⟨none, some 22, .move (.tmp 2)⟩,
  ⟨none, some 23, .move (.tmp 9)⟩,
  ⟨none, some 24, .call ⟨.value (.func 76), ⟨[.const (.string ⟨⟨[80, 97, 114, 115, 101, 85, 105, 110, 116]⟩⟩), .tmp 20, .tmp 21, .tmp 22, .tmp 23]⟩, ⟨[9, 9, 3, 3, 76]⟩⟩⟩,
  ⟨none, some 6, .assign (.tmp 19)⟩,
  ⟨none, some 7, .assign (.tmp 24)⟩]
def r59_2_w {E fr h Q} := @opsW_unf E fr h Q _ _ r59_2.eq_1
def s59_3 : GC := .seq (.ops r59_2) .ret
def s59_3_w {E nt rd fr h Q} := @wp_unf E nt rd fr h Q _ _ s59_3.eq_1
def s59_4 : GC := .cond (.tmp 18) s59_3 .skip
def s59_4_w {E nt rd fr h Q} := @wp_unf E nt rd fr h Q _ _ s59_4.eq_1
def r59_5 : List GO := [⟨none, some 17, .move (.tmp 9)⟩,
  ⟨none, some 18, .binOp .neq 76 (.tmp 17) (.const (.nilIface)) 76⟩]
def r59_5_w {E fr h Q} := @opsW_unf E fr h Q _ _ r59_5.eq_1
def s59_6 : GC := .seq (.ops r59_5) s59_4
def s59_6_w {E nt rd fr h Q} := @wp_unf E nt rd fr h Q _ _ s59_6.eq_1
def s59_7 : GC := .seq (s59_6) s59_1
def s59_7_w {E nt rd fr h Q} := @wp_unf E nt rd fr h Q _ _ s59_7.eq_1
def r59_8 : List GO := [⟨none, some 11, .move (.tmp 0)⟩,
  ⟨none, some 12, .move (.tmp 1)⟩,
  ⟨none, some 13, .move (.tmp 2)⟩,
  ⟨none, some 14, .call ⟨.value (.func 77), ⟨[.tmp 11, .tmp 12, .tmp 13]⟩, ⟨[9, 3, 3]⟩⟩⟩,
  ⟨none, some 10, .move (.tmp 14)⟩,
  ⟨none, some 15, .extract (.tmp 10) 0⟩,
  ⟨none, some 16, .extract (.tmp 10) 1⟩,
  ⟨none, some 8, .assign (.tmp 15)⟩,
  ⟨none, some 9, .assign (.tmp 16)⟩]
def r59_8_w {E fr h Q} := @opsW_unf E fr h Q _ _ r59_8.eq_1
def s59_9 : GC := .seq (.ops r59_8) s59_7
def s59_9_w {E nt rd fr h Q} := @wp_unf E nt rd fr h Q _ _ s59_9.eq_1
def r59_10 : List GO := [⟨none, some 6, .assign (.const (.int .u64 0))⟩,
  ⟨none, some 7, .assign (.const (.nilIface))⟩]
def r59_10_w {E fr h Q} := @opsW_unf E fr h Q _ _ r59_10.eq_1
def s59_11 : GC := .seq (.ops r59_10) s59_9
def s59_11_w {E nt rd fr h Q} := @wp_unf E nt rd fr h Q _ _ s59_11.eq_1
theorem c59 : Tryd.f59.body.bind (clean env 26) = some s59_11 := by kernel_rfl
theorem e59 : env.funs.get 59 = some Tryd.f59 := by kernel_rfl
theorem F59 {args : List Value} {h : Heap} {K : Value → Heap → Prop} (hl : args.length = 3) (w : s59_11.wp env 26 none (setAll args 0 .leaf) h (resK env [.tmp 6, .tmp 7] K)) : Ret env (.func 59) args h K :=
  Ret.of_body' rfl e59 c59 rfl rfl (by rw [hl]; decide) w
/-! math.Ldexp -/
def r60_0 : List GO := [⟨none, some 8, .move (.tmp 0)⟩,
  ⟨none, some 9, .move (.tmp 1)⟩,
  ⟨none, some 10, .call ⟨.value (.func 79), ⟨[.tmp 8, .tmp 9]⟩, ⟨[27, 3]⟩⟩⟩,
  ⟨none, some 4, .assign (.tmp 10)⟩]
def r60_0_w {E fr h Q} := @opsW_unf E fr h Q _ _ r60_0.eq_1
def s60_1 : GC := .seq (.ops r60_0) .ret
def s60_1_w {E nt rd fr h Q} := @wp_unf E nt rd fr h Q _ _ s60_1.eq_1
def r60_2 : List GO := [⟨none, some 5, .move (.tmp 0)⟩,
  ⟨none, some 6, .move (.tmp 1)⟩,
  ⟨none, some 7, .call ⟨.value (.func 78), ⟨[.tmp 5, .tmp 6]⟩, ⟨[27, 3]⟩⟩⟩,
  ⟨none, some 4, .assign (.tmp 7)⟩]
def r60_2_w {E fr h Q} := @opsW_unf E fr h Q _ _ r60_2.eq_1
def s60_3 : GC := .seq (.ops r60_2) .ret
def s60_3_w {E nt rd fr h Q} := @wp_unf E nt rd fr h Q _ _ s60_3.eq_1
def s60_4 : GC := .cond (.const (.bool false)) s60_3 .skip
def s60_4_w {E nt rd fr h Q} := @wp_unf E nt rd fr h Q _ _ s60_4.eq_1
def s60_5 : GC := .seq (s60_4) s60_1
def s60_5_w {E nt rd fr h Q} := @wp_unf E nt rd fr h Q _ _ s60_5.eq_1
def r60_6 : List GO := [⟨none, some 4, .assign (.const (.float .f64 0))⟩]
def r60_6_w {E fr h Q} := @opsW_unf E fr h Q _ _ r60_6.eq_1
def s60_7 : GC := .seq (.ops r60_6) s60_5
def s60_7_w {E nt rd fr h Q} := @wp_unf E nt rd fr h Q _ _ s60_7.eq_1
theorem c60 : Tryd.f60.body.bind (clean env 11) = some s60_7 := by kernel_rfl
theorem e60 : env.funs.get 60 = some Tryd.f60 := by kernel_rfl
theorem F60 {args : List Value} {h : Heap} {K : Value → Heap → Prop} (hl : args.length = 2) (w : s60_7.wp env 11 none (setAll args 0 .leaf) h (resK env [.tmp 4] K)) : Ret env (.func 60) args h K :=
  Ret.of_body' rfl e60 c60 rfl rfl (by rw [hl]; decide) w
/-! math.IsNaN -/
def r63_0 : List GO := [⟨none, some 3, .move (.tmp 0)⟩,
  ⟨none, some 4, .move (.tmp 0)⟩,
  ⟨none, some 5, .binOp .neq 27 (.tmp 3) (.tmp 4) 27⟩,
  ⟨none, some 2, .assign (.tmp 5)⟩]
def r63_0_w {E fr h Q} := @opsW_unf E fr h Q _ _ r63_0.eq_1
def s63_1 : GC := .seq (.ops r63_0) .ret
def s63_1_w {E nt rd fr h Q} := @wp_unf E nt rd fr h Q _ _ s63_1.eq_1
def r63_2 : List GO := [⟨none, some 2, .assign (.const (.bool false))⟩]
def r63_2_w {E fr h Q} := @opsW_unf E fr h Q _ _ r63_2.eq_1
def s63_3 : GC := .seq (.ops r63_2) s63_1
def s63_3_w {E nt rd fr h Q} := @wp_unf E nt rd fr h Q _ _ s63_3.eq_1
theorem c63 : Tryd.f63.body.bind (clean env 6) = some s63_3 := by kernel_rfl
theorem e63 : env.funs.get 63 = some Tryd.f63 := by kernel_rfl
theorem F63 {args : List Value} {h : Heap} {K : Value → Heap → Prop} (hl : args.length = 1) (w : s63_3.wp env 6 none (setAll args 0 .leaf) h (resK env [.tmp 2] K)) : Ret env (.func 63) args h K :=
  Ret.of_body' rfl e63 c63 rfl rfl (by rw [hl]; decide) w
/-! internal/strconv.Itoa -/
def r66_0 : List GO := [⟨none, some 3, .move (.tmp 0)⟩,
  ⟨none, some 4, .call ⟨.value (.func 83), ⟨[.tmp 3, .const (.int .i64 10)]⟩, ⟨[2, 3]⟩⟩⟩,
  ⟨none, some 2, .assign (.tmp 4)⟩]
def r66_0_w {E fr h Q} := @opsW_unf E fr h Q _ _ r66_0.eq_1
def s66_1 : GC := .seq (.ops r66_0) .ret
def s66_1_w {E nt rd fr h Q} := @wp_unf E nt rd fr h Q _ _ s66_1.eq_1
def r66_2 : List GO := [⟨none, some 2, .assign (.const (.string ⟨⟨[]⟩⟩))⟩]
def r66_2_w {E fr h Q} := @opsW_unf E fr h Q _ _ r66_2.eq_1
def s66_3 : GC := .seq (.ops r66_2) s66_1
def s66_3_w {E nt rd fr h Q} := @wp_unf E nt rd fr h Q _ _ s66_3.eq_1
theorem c66 : Tryd.f66.body.bind (clean env 5) = some s66_3 := by kernel_rfl
theorem e66 : env.funs.get 66 = some Tryd.f66 := by kernel_rfl
theorem F66 {args : List Value} {h : Heap} {K : Value → Heap → Prop} (hl : args.length = 1) (w : s66_3.wp env 5 none (setAll args 0 .leaf) h (resK env [.tmp 2] K)) : Ret env (.func 66) args h K :=
  Ret.of_body' rfl e66 c66 rfl rfl (by rw [hl]; decide) w
/-! strconv.Itoa -/
def r49_0 : List GO := [⟨none, some 3, .move (.tmp 0)⟩,
  ⟨none, some 4, .call ⟨.value (.func 66), ⟨[.tmp 3]⟩, ⟨[3]⟩⟩⟩,
  ⟨none, some 2, .assign (.tmp 4)⟩]
def r49_0_w {E fr h Q} := @opsW_unf E fr h Q _ _ r49_0.eq_1
def s49_1 : GC := .seq (.ops r49_0) .ret
def s49_1_w {E nt rd fr h Q} := @wp_unf E nt rd fr h Q _ _ s49_1.eq_1
def r49_2 : List GO := [⟨none, some 2, .assign (.const (.string ⟨⟨[]⟩⟩))⟩]
def r49_2_w {E fr h Q} := @opsW_unf E fr h Q _ _ r49_2.eq_1
def s49_3 : GC := .seq (.ops r49_2) s49_1
def s49_3_w {E nt rd fr h Q} := @wp_unf E nt rd fr h Q _ _ s49_3.eq_1
theorem c49 : Tryd.f49.body.bind (clean env 5) = some s49_3 := by kernel_rfl
theorem e49 : env.funs.get 49 = some Tryd.f49 := by kernel_rfl
theorem F49 {args : List Value} {h : Heap} {K : Value → Heap → Prop} (hl : args.length = 1) (w : s49_3.wp env 5 none (setAll args 0 .leaf) h (resK env [.tmp 2] K)) : Ret env (.func 49) args h K :=
  Ret.of_body' rfl e49 c49 rfl rfl (by rw [hl]; decide) w
/-! internal/strconv.FormatUint -/
def r67_0 : List GO := [⟨none, some 31, .move (.tmp 8)⟩,
  ⟨none, some 4, .assign (.tmp 31)⟩]
def r67_0_w {E fr h Q} := @opsW_unf E fr h Q _ _ r67_0.eq_1
def s67_1 : GC := .seq (.ops r67_0) .ret
def s67_1_w {E nt rd fr h Q} := @wp_unf E nt rd fr h Q _ _ s67_1.eq_1
def r67_2 : List GO := [⟨none, some 26, .move (.tmp 0)⟩,
  ⟨none, some 27, .move (.tmp 1)⟩,
  ⟨none, some 28, .call ⟨.value (.func 87), ⟨[.const (.slice none 0 0), .tmp 26, .tmp 27, .const (.bool false), .const (.bool false)]⟩, ⟨[87, 23, 3, 4, 4]⟩⟩⟩,
  ⟨none, some 25, .move (.tmp 28)⟩,
  ⟨none, some 29, .extract (.tmp 25) 0⟩,
  ⟨none, some 30, .extract (.tmp 25) 1⟩,
  ⟨none, some 7, .assign (.tmp 29)⟩,
  ⟨none, some 8, .assign (.tmp 30)⟩]
def r67_2_w {E fr h Q} := @opsW_unf E fr h Q _ _ r67_2.eq_1
def s67_3 : GC := .seq (.ops r67_2) s67_1
def s67_3_w {E nt rd fr h Q} := @wp_unf E nt rd fr h Q _ _ s67_3.eq_1
def r67_4 : List GO := [⟨none, some 22, .move (.tmp 6)⟩,
  ⟨none, some 23, .slice 99 (.tmp 5) none (some (.tmp 22)) none⟩,
  ⟨none, some 24, .convert 87 9 (.tmp 23)⟩,
  ⟨none, some 4, .assign (.tmp 24)⟩]
def r67_4_w {E fr h Q} := @opsW_unf E fr h Q _ _ r67_4.eq_1
def s67_5 : GC := .seq (.ops r67_4) .ret
def s67_5_w {E nt rd fr h Q} := @wp_unf E nt rd fr h Q _ _ s67_5.eq_1
def r67_6 : List GO := [⟨none, some 18, .move (.tmp 6)⟩,
  ⟨none, some 19, .slice 99 (.tmp 5) none (some (.tmp 18)) none⟩,
  ⟨none, some 20, .move (.tmp 0)⟩,
  ⟨none, some 21, .call ⟨.value (.func 86), ⟨[.tmp 19, .tmp 20]⟩, ⟨[87, 23]⟩⟩⟩]
def r67_6_w {E fr h Q} := @opsW_unf E fr h Q _ _ r67_6.eq_1
def s67_7 : GC := .seq (.ops r67_6) s67_5
def s67_7_w {E nt rd fr h Q} := @wp_unf E nt rd fr h Q _ _ s67_7.eq_1
def r67_8 : List GO := [⟨none, some 16, .move (.tmp 0)⟩,
  ⟨none, some 17, .call ⟨.value (.func 85), ⟨[.tmp 16]⟩, ⟨[23]⟩⟩⟩,
  ⟨none, some 6, .assign (.tmp 17)⟩]
def r67_8_w {E fr h Q} := @opsW_unf E fr h Q _ _ r67_8.eq_1
def s67_9 : GC := .seq (.ops r67_8) s67_7
def s67_9_w {E nt rd fr h Q} := @wp_unf E nt rd fr h Q _ _ s67_9.eq_1
def r67_10 : List GO := [⟨none, some 5, .alloc 99⟩]
def r67_10_w {E fr h Q} := @opsW_unf E fr h Q _ _ r67_10.eq_1
def s67_11 : GC := .seq (.ops r67_10) s67_9
def s67_11_w {E nt rd fr h Q} := @wp_unf E nt rd fr h Q _ _ s67_11.eq_1
def r67_12 : List GO := [⟨none, some 13, .move (.tmp 0)⟩,
  ⟨none, some 14, .convert 23 3 (.tmp 13)⟩,
  ⟨none, some 15, .call ⟨.value (.func 84), ⟨[.tmp 14]⟩, ⟨[3]⟩⟩⟩,
  ⟨none, some 4, .assign (.tmp 15)⟩]
def r67_12_w {E fr h Q} := @opsW_unf E fr h Q _ _ r67_12.eq_1
def s67_13 : GC := .seq (.ops r67_12) .ret
def s67_13_w {E nt rd fr h Q} := @wp_unf E nt rd fr h Q _ _ s67_13.eq_1
def s67_14 : GC := .cond (.tmp 12) s67_13 .skip
def s67_14_w {E nt rd fr h Q} := @wp_unf E nt rd fr h Q _ _ s67_14.eq_1
def r67_15 : List GO := [⟨none, some 11, .move (.tmp 0)⟩,
  ⟨none, some 12, .binOp .lss 23 (.tmp 11) (.const (.int .u64 100)) 23⟩]
def r67_15_w {E fr h Q} := @opsW_unf E fr h Q _ _ r67_15.eq_1
def s67_16 : GC := .seq (.ops r67_15) s67_14
def s67_16_w {E nt rd fr h Q} := @wp_unf E nt rd fr h Q _ _ s67_16.eq_1
def s67_17 : GC := .seq (s67_16) s67_11
def s67_17_w {E nt rd fr h Q} := @wp_unf E nt rd fr h Q _ _ s67_17.eq_1
def s67_18 : GC := .cond (.tmp 10) s67_17 .skip
def s67_18_w {E nt rd fr h Q} := @wp_unf E nt rd fr h Q _ _ s67_18.eq_1
def r67_19 : List GO := [⟨none, some 9, .move (.tmp 1)⟩,
  ⟨none, some 10, .binOp .eql 3 (.tmp 9) (.const (.int .i64 10)) 3⟩]
def r67_19_w {E fr h Q} := @opsW_unf E fr h Q _ _ r67_19.eq_1
def s67_20 : GC := .seq (.ops r67_19) s67_18
def s67_20_w {E nt rd fr h Q} := @wp_unf E nt rd fr h Q _ _ s67_20.eq_1
def s67_21 : GC := .seq (s67_20) s67_3
def s67_21_w {E nt rd fr h Q} := @wp_unf E nt rd fr h Q _ _ s67_21.eq_1
def r67_22 : List GO := [⟨none, some 4, .assign (.const (.string ⟨⟨[]⟩⟩))⟩]
def r67_22_w {E fr h Q} := @opsW_unf E fr h Q _ _ r67_22.eq_1
def s67_23 : GC := .seq (.ops r67_22) s67_21
def s67_23_w {E nt rd fr h Q} := @wp_unf E nt rd fr h Q _ _ s67_23.eq_1
theorem c67 : Tryd.f67.body.bind (clean env 32) = some s67_23 := by kernel_rfl
theorem e67 : env.funs.get 67 = some Tryd.f67 := by kernel_rfl
theorem F67 {args : List Value} {h : Heap} {K : Value → Heap → Prop} (hl : args.length = 2) (w : s67_23.wp env 32 none (setAll args 0 .leaf) h (resK env [.tmp 4] K)) : Ret env (.func 67) args h K :=
  Ret.of_body' rfl e67 c67 rfl rfl (by rw [hl]; decide) w
/-! math.IsInf -/
def r71_0 : List GO := [⟨none, some 13, .move (.tmp 0)⟩,
  ⟨none, some 14, .binOp .gtr 27 (.tmp 13) (.const (.float .f64 9218868437227405311)) 27⟩,
  ⟨none, some 4, .assign (.tmp 14)⟩]
def r71_0_w {E fr h Q} := @opsW_unf E fr h Q _ _ r71_0.eq_1
def s71_1 : GC := .seq (.ops r71_0) .ret
def s71_1_w {E nt rd fr h Q} := @wp_unf E nt rd fr h Q _ _ s71_1.eq_1
def r71_2 : List GO := [⟨none, some 7, .move (.tmp 0)⟩,
  ⟨none, some 8, .call ⟨.value (.func 90), ⟨[.tmp 7]⟩, ⟨[27]⟩⟩⟩,
  ⟨none, some 0, .assign (.tmp 8)⟩]
def r71_2_w {E fr h Q} := @opsW_unf E fr h Q _ _ r71_2.eq_1
def s71_3 : GC := .ops r71_2
def s71_3_w {E nt rd fr h Q} := @wp_unf E nt rd fr h Q _ _ s71_3.eq_1
def r71_4 : List GO := [⟨none, some 11, .move (.tmp 0)⟩,
  ⟨none, some 12, .unOp .neg 27 (.tmp 11)⟩,
  ⟨none, some 0, .assign (.tmp 12)⟩]
def r71_4_w {E fr h Q} := @opsW_unf E fr h Q _ _ r71_4.eq_1
def s71_5 : GC := .ops r71_4
def s71_5_w {E nt rd fr h Q} := @wp_unf E nt rd fr h Q _ _ s71_5.eq_1
def s71_6 : GC := .cond (.tmp 10) s71_5 .skip
def s71_6_w {E nt rd fr h Q} := @wp_unf E nt rd fr h Q _ _ s71_6.eq_1
def r71_7 : List GO := [⟨none, some 9, .move (.tmp 1)⟩,
  ⟨none, some 10, .binOp .lss 3 (.tmp 9) (.const (.int .i64 0)) 3⟩]
def r71_7_w {E fr h Q} := @opsW_unf E fr h Q _ _ r71_7.eq_1
def s71_8 : GC := .seq (.ops r71_7) s71_6
def s71_8_w {E nt rd fr h Q} := @wp_unf E nt rd fr h Q _ _ s71_8.eq_1
def s71_9 : GC := .cond (.tmp 6) s71_3 s71_8
def s71_9_w {E nt rd fr h Q} := @wp_unf E nt rd fr h Q _ _ s71_9.eq_1
def r71_10 : List GO := [⟨none, some 5, .move (.tmp 1)⟩,
  ⟨none, some 6, .binOp .eql 3 (.tmp 5) (.const (.int .i64 0)) 3⟩]
def r71_10_w {E fr h Q} := @opsW_unf E fr h Q _ _ r71_10.eq_1
def s71_11 : GC := .seq (.ops r71_10) s71_9
def s71_11_w {E nt rd fr h Q} := @wp_unf E nt rd fr h Q _ _ s71_11.eq_1
def s71_12 : GC := .seq (s71_11) s71_1
def s71_12_w {E nt rd fr h Q} := @wp_unf E nt rd fr h Q _ _ s71_12.eq_1
def r71_13 : List GO := [⟨none, some 4, .assign (.const (.bool false))⟩]
def r71_13_w {E fr h Q} := @opsW_unf E fr h Q _ _ r71_13.eq_1
def s71_14 : GC := .seq (.ops r71_13) s71_12
def s71_14_w {E nt rd fr h Q} := @wp_unf E nt rd fr h Q _ _ s71_14.eq_1
theorem c71 : Tryd.f71.body.bind (clean env 15) = some s71_14 := by kernel_rfl
theorem e71 : env.funs.get 71 = some Tryd.f71 := by kernel_rfl
theorem F71 {args : List Value} {h : Heap} {K : Value → Heap → Prop} (hl : args.length = 2) (w : s71_14.wp env 15 none (setAll args 0 .leaf) h (resK env [.tmp 4] K)) : Ret env (.func 71) args h K :=
  Ret.of_body' rfl e71 c71 rfl rfl (by rw [hl]; decide) w
/-! math.Signbit -/
def r72_0 : List GO := [⟨none, some 3, .move (.tmp 0)⟩,
  ⟨none, some 4, .call ⟨.value (.func 18), ⟨[.tmp 3]⟩, ⟨[27]⟩⟩⟩,
  ⟨none, some 5, .convert 23 2 (.tmp 4)⟩,
  ⟨none, some 6, .binOp .lss 2 (.tmp 5) (.const (.int .i64 0)) 2⟩,
  ⟨none, some 2, .assign (.tmp 6)⟩]
def r72_0_w {E fr h Q} := @opsW_unf E fr h Q _ _ r72_0.eq_1
def s72_1 : GC := .seq (.ops r72_0) .ret
def s72_1_w {E nt rd fr h Q} := @wp_unf E nt rd fr h Q _ _ s72_1.eq_1
def r72_2 : List GO := [⟨none, some 2, .assign (.const (.bool false))⟩]
def r72_2_w {E fr h Q} := @opsW_unf E fr h Q _ _ r72_2.eq_1
def s72_3 : GC := .seq (.ops r72_2) s72_1
def s72_3_w {E nt rd fr h Q} := @wp_unf E nt rd fr h Q _ _ s72_3.eq_1
theorem c72 : Tryd.f72.body.bind (clean env 7) = some s72_3 := by kernel_rfl
theorem e72 : env.funs.get 72 = some Tryd.f72 := by kernel_rfl
theorem F72 {args : List Value} {h : Heap} {K : Value → Heap → Prop} (hl : args.length = 1) (w : s72_3.wp env 7 none (setAll args 0 .leaf) h (resK env [.tmp 2] K)) : Ret env (.func 72) args h K :=
  Ret.of_body' rfl e72 c72 rfl rfl (by rw [hl]; decide) w
/-! internal/strconv.ParseUint -/
def r77_0 : List GO := [⟨none, some 171, .move (.tmp 13)⟩,
  ⟨none, some 6, .assign (.tmp 171)⟩,
  ⟨none, some 7, .assign (.const (.nilIface))⟩]
def r77_0_w {E fr h Q} := @opsW_unf E fr h Q _ _ r77_0.eq_1
def s77_1 : GC := .seq (.ops r77_0) .ret
def s77_1_w {E nt rd fr h Q} := @wp_unf E nt rd fr h Q _ _ s77_1.eq_1
def r77_2 : List GO := [⟨none, some 170, .makeInterface 107 (.const (.int .i64 2))⟩,
  ⟨none, some 6, .assign (.const (.int .u64 0))⟩,
  ⟨none, some 7, .assign (.tmp 170)⟩]
def r77_2_w {E fr h Q} := @opsW_unf E fr h Q _ _ r77_2.eq_1
def s77_3 : GC := .seq (.ops r77_2) .ret
def s77_3_w {E nt rd fr h Q} := @wp_unf E nt rd fr h Q _ _ s77_3.eq_1
def s77_4 : GC := .cond (.tmp 169) s77_3 .skip
def s77_4_w {E nt rd fr h Q} := @wp_unf E nt rd fr h Q _ _ s77_4.eq_1
def r77_5 : List GO := [⟨none, some 164, .move (.tmp 12)⟩,
  ⟨none, some 165, .move (.tmp 164)⟩,
  ⟨some (165, true), some 166, .move (.tmp 9)⟩,
  ⟨some (165, true), some 167, .call ⟨.value (.func 99), ⟨[.tmp 166]⟩, ⟨[9]⟩⟩⟩,
  ⟨some (165, true), some 168, .unOp .not 4 (.tmp 167)⟩,
  ⟨none, some 169, .pick (.tmp 165) (.tmp 168) (.const (.bool false))⟩]
def r77_5_w {E fr h Q} := @opsW_unf E fr h Q _ _ r77_5.eq_1
def s77_6 : GC := .seq (.ops r77_5) s77_4
def s77_6_w {E nt rd fr h Q} := @wp_unf E nt rd fr h Q _ _ s77_6.eq_1
def s77_7 : GC := .seq (s77_6) s77_1
def s77_7_w {E nt rd fr h Q} := @wp_unf E nt rd fr h Q _ _ s77_7.eq_1
def r77_8 : List GO := [⟨none, some 163, .binOp .add 3 (.tmp 101) (.const (.int .i64 1)) 3⟩,
  ⟨none, some 101, .move (.tmp 163)⟩]
def r77_8_w {E fr h Q} := @opsW_unf E fr h Q _ _ r77_8.eq_1
def s77_9 : GC := .ops r77_8
def s77_9_w {E nt rd fr h Q} := @wp_unf E nt rd fr h Q _ _ s77_9.eq_1
def r77_10 : List GO := [⟨none, some 162, .move (.tmp 17)⟩,
  ⟨none, some 13, .assign (.tmp 162)⟩]
def r77_10_w {E fr h Q} := @opsW_unf E fr h Q _ _ r77_10.eq_1
def s77_11 : GC := .ops r77_10
def s77_11_w {E nt rd fr h Q} := @wp_unf E nt rd fr h Q _ _ s77_11.eq_1
def r77_12 : List GO := [⟨none, some 160, .move (.tmp 11)⟩,
  ⟨none, some 161, .makeInterface 107 (.const (.int .i64 1))⟩,
  ⟨none, some 6, .assign (.tmp 160)⟩,
  ⟨none, some 7, .assign (.tmp 161)⟩]
def r77_12_w {E fr h Q} := @opsW_unf E fr h Q _ _ r77_12.eq_1
def s77_13 : GC := .seq (.ops r77_12) .ret
def s77_13_w {E nt rd fr h Q} := @wp_unf E nt rd fr h Q _ _ s77_13.eq_1
def s77_14 : GC := .cond (.tmp 159) s77_13 .skip
def s77_14_w {E nt rd fr h Q} := @wp_unf E nt rd fr h Q _ _ s77_14.eq_1
def r77_15 : List GO := [⟨none, some 152, .move (.tmp 17)⟩,
  ⟨none, some 153, .move (.tmp 13)⟩,
  ⟨none, some 154, .binOp .lss 23 (.tmp 152) (.tmp 153) 23⟩,
  ⟨none, some 155, .move (.tmp 154)⟩,
  ⟨some (155, false), some 156, .move (.tmp 17)⟩,
  ⟨some (155, false), some 157, .move (.tmp 11)⟩,
  ⟨some (155, false), some 158, .binOp .gtr 23 (.tmp 156) (.tmp 157) 23⟩,
  ⟨none, some 159, .pick (.tmp 155) (.const (.bool true)) (.tmp 158)⟩]
def r77_15_w {E fr h Q} := @opsW_unf E fr h Q _ _ r77_15.eq_1
def s77_16 : GC := .seq (.ops r77_15) s77_14
def s77_16_w {E nt rd fr h Q} := @wp_unf E nt rd fr h Q _ _ s77_16.eq_1
def s77_17 : GC := .seq (s77_16) s77_11
def s77_17_w {E nt rd fr h Q} := @wp_unf E nt rd fr h Q _ _ s77_17.eq_1
def r77_18 : List GO := [⟨none, some 148, .move (.tmp 13)⟩,
  ⟨none, some 149, .move (.tmp 16)⟩,
  ⟨none, some 150, .convert 5 23 (.tmp 149)⟩,
  ⟨none, some 151, .binOp .add 23 (.tmp 148) (.tmp 150) 23⟩,
  ⟨none, some 17, .assign (.tmp 151)⟩]
def r77_18_w {E fr h Q} := @opsW_unf E fr h Q _ _ r77_18.eq_1
def s77_19 : GC := .seq (.ops r77_18) s77_17
def s77_19_w {E nt rd fr h Q} := @wp_unf E nt rd fr h Q _ _ s77_19.eq_1
def r77_20 : List GO := [⟨none, some 144, .move (.tmp 13)⟩,
  ⟨none, some 145, .move (.tmp 1)⟩,
  ⟨none, some 146, .convert 3 23 (.tmp 145)⟩,
  ⟨none, some 147, .binOp .mul 23 (.tmp 144) (.tmp 146) 23⟩,
  ⟨none, some 13, .assign (.tmp 147)⟩]
def r77_20_w {E fr h Q} := @opsW_unf E fr h Q _ _ r77_20.eq_1
def s77_21 : GC := .seq (.ops r77_20) s77_19
def s77_21_w {E nt rd fr h Q} := @wp_unf E nt rd fr h Q _ _ s77_21.eq_1
def r77_22 : List GO := [⟨none, some 142, .move (.tmp 11)⟩,
  ⟨none, some 143, .makeInterface 107 (.const (.int .i64 1))⟩,
  ⟨none, some 6, .assign (.tmp 142)⟩,
  ⟨none, some 7, .assign (.tmp 143)⟩]
def r77_22_w {E fr h Q} := @opsW_unf E fr h Q _ _ r77_22.eq_1
def s77_23 : GC := .seq (.ops r77_22) .ret
def s77_23_w {E nt rd fr h Q} := @wp_unf E nt rd fr h Q _ _ s77_23.eq_1
def s77_24 : GC := .cond (.tmp 141) s77_23 .skip
def s77_24_w {E nt rd fr h Q} := @wp_unf E nt rd fr h Q _ _ s77_24.eq_1
def r77_25 : List GO := [⟨none, some 139, .move (.tmp 13)⟩,
  ⟨none, some 140, .move (.tmp 10)⟩,
  ⟨none, some 141, .binOp .geq 23 (.tmp 139) (.tmp 140) 23⟩]
def r77_25_w {E fr h Q} := @opsW_unf E fr h Q _ _ r77_25.eq_1
def s77_26 : GC := .seq (.ops r77_25) s77_24
def s77_26_w {E nt rd fr h Q} := @wp_unf E nt rd fr h Q _ _ s77_26.eq_1
def s77_27 : GC := .seq (s77_26) s77_21
def s77_27_w {E nt rd fr h Q} := @wp_unf E nt rd fr h Q _ _ s77_27.eq_1
def r77_28 : List GO := [⟨none, some 138, .makeInterface 107 (.const (.int .i64 2))⟩,
  ⟨none, some 6, .assign (.const (.int .u64 0))⟩,
  ⟨none, some 7, .assign (.tmp 138)⟩]
def r77_28_w {E fr h Q} := @opsW_unf E fr h Q _ _ r77_28.eq_1
def s77_29 : GC := .seq (.ops r77_28) .ret
def s77_29_w {E nt rd fr h Q} := @wp_unf E nt rd fr h Q _ _ s77_29.eq_1
def s77_30 : GC := .cond (.tmp 137) s77_29 .skip
def s77_30_w {E nt rd fr h Q} := @wp_unf E nt rd fr h Q _ _ s77_30.eq_1
def r77_31 : List GO := [⟨none, some 134, .move (.tmp 16)⟩,
  ⟨none, some 135, .move (.tmp 1)⟩,
  ⟨none, some 136, .convert 3 5 (.tmp 135)⟩,
  ⟨none, some 137, .binOp .geq 5 (.tmp 134) (.tmp 136) 5⟩]
def r77_31_w {E fr h Q} := @opsW_unf E fr h Q _ _ r77_31.eq_1
def s77_32 : GC := .seq (.ops r77_31) s77_30
def s77_32_w {E nt rd fr h Q} := @wp_unf E nt rd fr h Q _ _ s77_32.eq_1
def s77_33 : GC := .seq (s77_32) s77_27
def s77_33_w {E nt rd fr h Q} := @wp_unf E nt rd fr h Q _ _ s77_33.eq_1
def r77_34 : List GO := [⟨none, some 12, .assign (.const (.bool true))⟩]
def r77_34_w {E fr h Q} := @opsW_unf E fr h Q _ _ r77_34.eq_1
def s77_35 : GC := .seq (.ops r77_34) (.exit 4)
def s77_35_w {E nt rd fr h Q} := @wp_unf E nt rd fr h Q _ _ s77_35.eq_1
def r77_36 : List GO := [⟨none, some 119, .move (.tmp 15)⟩,
  ⟨none, some 120, .binOp .sub 5 (.tmp 119) (.const (.int .u8 48)) 5⟩,
  ⟨none, some 16, .assign (.tmp 120)⟩]
def r77_36_w {E fr h Q} := @opsW_unf E fr h Q _ _ r77_36.eq_1
def s77_37 : GC := .ops r77_36
def s77_37_w {E nt rd fr h Q} := @wp_unf E nt rd fr h Q _ _ s77_37.eq_1
def r77_38 : List GO := [⟨none, some 130, .move (.tmp 15)⟩,
  ⟨none, some 131, .call ⟨.value (.func 98), ⟨[.tmp 130]⟩, ⟨[5]⟩⟩⟩,
  ⟨none, some 132, .binOp .sub 5 (.tmp 131) (.const (.int .u8 97)) 5⟩,
  ⟨none, some 133, .binOp .add 5 (.tmp 132) (.const (.int .u8 10)) 5⟩,
  ⟨none, some 16, .assign (.tmp 133)⟩]
def r77_38_w {E fr h Q} := @opsW_unf E fr h Q _ _ r77_38.eq_1
def s77_39 : GC := .ops r77_38
def s77_39_w {E nt rd fr h Q} := @wp_unf E nt rd fr h Q _ _ s77_39.eq_1
def r77_40 : List GO := [⟨none, some 105, .makeInterface 107 (.const (.int .i64 2))⟩,
  ⟨none, some 6, .assign (.const (.int .u64 0))⟩,
  ⟨none, some 7, .assign (.tmp 105)⟩]
def r77_40_w {E fr h Q} := @opsW_unf E fr h Q _ _ r77_40.eq_1
def s77_41 : GC := .seq (.ops r77_40) .ret
def s77_41_w {E nt rd fr h Q} := @wp_unf E nt rd fr h Q _ _ s77_41.eq_1
def s77_42 : GC := .cond (.tmp 121) s77_39 s77_41
def s77_42_w {E nt rd fr h Q} := @wp_unf E nt rd fr h Q _ _ s77_42.eq_1
def r77_43 : List GO := [⟨none, some 122, .move (.tmp 15)⟩,
  ⟨none, some 123, .call ⟨.value (.func 98), ⟨[.tmp 122]⟩, ⟨[5]⟩⟩⟩,
  ⟨none, some 124, .binOp .leq 5 (.const (.int .u8 97)) (.tmp 123) 5⟩,
  ⟨none, some 125, .move (.tmp 124)⟩,
  ⟨some (125, true), some 126, .move (.tmp 15)⟩,
  ⟨some (125, true), some 127, .call ⟨.value (.func 98), ⟨[.tmp 126]⟩, ⟨[5]⟩⟩⟩,
  ⟨some (125, true), some 128, .binOp .leq 5 (.tmp 127) (.const (.int .u8 122)) 5⟩,
  ⟨none, some 129, .pick (.tmp 125) (.tmp 128) (.const (.bool false))⟩,
  ⟨none, some 121, .assign (.tmp 129)⟩]
def r77_43_w {E fr h Q} := @opsW_unf E fr h Q _ _ r77_43.eq_1
def s77_44 : GC := .seq (.ops r77_43) s77_42
def s77_44_w {E nt rd fr h Q} := @wp_unf E nt rd fr h Q _ _ s77_44.eq_1
def s77_45 : GC := .cond (.tmp 112) s77_37 s77_44
def s77_45_w {E nt rd fr h Q} := @wp_unf E nt rd fr h Q _ _ s77_45.eq_1
def r77_46 : List GO := [⟨none, some 113, .move (.tmp 15)⟩,
  ⟨none, some 114, .binOp .leq 5 (.const (.int .u8 48)) (.tmp 113) 5⟩,
  ⟨none, some 115, .move (.tmp 114)⟩,
  ⟨some (115, true), some 116, .move (.tmp 15)⟩,
  ⟨some (115, true), some 117, .binOp .leq 5 (.tmp 116) (.const (.int .u8 57)) 5⟩,
  ⟨none, some 118, .pick (.tmp 115) (.tmp 117) (.const (.bool false))⟩,
  ⟨none, some 112, .assign (.tmp 118)⟩]
def r77_46_w {E fr h Q} := @opsW_unf E fr h Q _ _ r77_46.eq_1
def s77_47 : GC := .seq (.ops r77_46) s77_45
def s77_47_w {E nt rd fr h Q} := @wp_unf E nt rd fr h Q _ _ s77_47.eq_1
def s77_48 : GC := .cond (.tmp 106) s77_35 s77_47
def s77_48_w {E nt rd fr h Q} := @wp_unf E nt rd fr h Q _ _ s77_48.eq_1
def r77_49 : List GO := [⟨none, some 107, .move (.tmp 15)⟩,
  ⟨none, some 108, .binOp .eql 5 (.tmp 107) (.const (.int .u8 95)) 5⟩,
  ⟨none, some 109, .move (.tmp 108)⟩,
  ⟨some (109, true), some 110, .move (.tmp 8)⟩,
  ⟨none, some 111, .pick (.tmp 109) (.tmp 110) (.const (.bool false))⟩,
  ⟨none, some 106, .assign (.tmp 111)⟩]
def r77_49_w {E fr h Q} := @opsW_unf E fr h Q _ _ r77_49.eq_1
def s77_50 : GC := .seq (.ops r77_49) s77_48
def s77_50_w {E nt rd fr h Q} := @wp_unf E nt rd fr h Q _ _ s77_50.eq_1
def s77_51 : GC := .seq (.block 5 s77_50) s77_33
def s77_51_w {E nt rd fr h Q} := @wp_unf E nt rd fr h Q _ _ s77_51.eq_1
def r77_52 : List GO := [⟨none, some 16, .assign (.const (.int .u8 0))⟩]
def r77_52_w {E fr h Q} := @opsW_unf E fr h Q _ _ r77_52.eq_1
def s77_53 : GC := .seq (.ops r77_52) s77_51
def s77_53_w {E nt rd fr h Q} := @wp_unf E nt rd fr h Q _ _ s77_53.eq_1
def r77_54 : List GO := [⟨none, some 103, .indexAddr 87 (.tmp 99) (.tmp 101)⟩,
  ⟨none, some 104, .load 5 (.tmp 103)⟩,
  ⟨none, some 15, .assign (.tmp 104)⟩]
def r77_54_w {E fr h Q} := @opsW_unf E fr h Q _ _ r77_54.eq_1
def s77_55 : GC := .seq (.ops r77_54) s77_53
def s77_55_w {E nt rd fr h Q} := @wp_unf E nt rd fr h Q _ _ s77_55.eq_1
def s77_56 : GC := .seq (.block 4 s77_55) s77_9
def s77_56_w {E nt rd fr h Q} := @wp_unf E nt rd fr h Q _ _ s77_56.eq_1
def s77_57 : GC := .cond (.tmp 102) .skip (.exit 3)
def s77_57_w {E nt rd fr h Q} := @wp_unf E nt rd fr h Q _ _ s77_57.eq_1
def s77_58 : GC := .seq (s77_57) s77_56
def s77_58_w {E nt rd fr h Q} := @wp_unf E nt rd fr h Q _ _ s77_58.eq_1
def r77_59 : List GO := [⟨none, some 102, .binOp .lss 3 (.tmp 101) (.tmp 100) 3⟩]
def r77_59_w {E fr h Q} := @opsW_unf E fr h Q _ _ r77_59.eq_1
def s77_60 : GC := .seq (.ops r77_59) s77_58
def s77_60_w {E nt rd fr h Q} := @wp_unf E nt rd fr h Q _ _ s77_60.eq_1
def s77_61 : GC := .loop s77_60
def s77_61_w {E nt rd fr h Q} := @wp_unf E nt rd fr h Q _ _ s77_61.eq_1
def s77_62 : GC := .block 3 s77_61
def s77_62_w {E nt rd fr h Q} := @wp_unf E nt rd fr h Q _ _ s77_62.eq_1
def r77_63 : List GO := [⟨none, some 98, .move (.tmp 0)⟩,
  ⟨none, some 99, .convert 9 87 (.tmp 98)⟩,
  ⟨none, some 100, .call ⟨.builtin .len, ⟨[.tmp 99]⟩, ⟨[87]⟩⟩⟩,
  ⟨none, some 101, .move (.const (.int .i64 0))⟩]
def r77_63_w {E fr h Q} := @opsW_unf E fr h Q _ _ r77_63.eq_1
def s77_64 : GC := .seq (.ops r77_63) s77_62
def s77_64_w {E nt rd fr h Q} := @wp_unf E nt rd fr h Q _ _ s77_64.eq_1
def s77_65 : GC := .seq (s77_64) s77_7
def s77_65_w {E nt rd fr h Q} := @wp_unf E nt rd fr h Q _ _ s77_65.eq_1
def r77_66 : List GO := [⟨none, some 13, .assign (.const (.int .u64 0))⟩]
def r77_66_w {E fr h Q} := @opsW_unf E fr h Q _ _ r77_66.eq_1
def s77_67 : GC := .seq (.ops r77_66) s77_65
def s77_67_w {E nt rd fr h Q} := @wp_unf E nt rd fr h Q _ _ s77_67.eq_1
def r77_68 : List GO := [⟨none, some 12, .assign (.const (.bool false))⟩]
def r77_68_w {E fr h Q} := @opsW_unf E fr h Q _ _ r77_68.eq_1
def s77_69 : GC := .seq (.ops r77_68) s77_67
def s77_69_w {E nt rd fr h Q} := @wp_unf E nt rd fr h Q _ _ s77_69.eq_1
def r77_70 : List GO := [⟨none, some 94, .move (.tmp 2)⟩,
  ⟨none, some 95, .convert 3 69 (.tmp 94)⟩,
  ⟨none, some 96, .binOp .shl 23 (.const (.int .u64 1)) (.tmp 95) 69⟩,
  ⟨none, some 97, .binOp .sub 23 (.tmp 96) (.const (.int .u64 1)) 23⟩,
  ⟨none, some 11, .assign (.tmp 97)⟩]
def r77_70_w {E fr h Q} := @opsW_unf E fr h Q _ _ r77_70.eq_1
def s77_71 : GC := .seq (.ops r77_70) s77_69
def s77_71_w {E nt rd fr h Q} := @wp_unf E nt rd fr h Q _ _ s77_71.eq_1
def r77_72 : List GO := [⟨none, some 10, .assign (.const (.int .u64 1844674407370955162))⟩]
def r77_72_w {E fr h Q} := @opsW_unf E fr h Q _ _ r77_72.eq_1
def s77_73 : GC := .ops r77_72
def s77_73_w {E nt rd fr h Q} := @wp_unf E nt rd fr h Q _ _ s77_73.eq_1
def r77_74 : List GO := [⟨none, some 10, .assign (.const (.int .u64 1152921504606846976))⟩]
def r77_74_w {E fr h Q} := @opsW_unf E fr h Q _ _ r77_74.eq_1
def s77_75 : GC := .ops r77_74
def s77_75_w {E nt rd fr h Q} := @wp_unf E nt rd fr h Q _ _ s77_75.eq_1
def r77_76 : List GO := [⟨none, some 86, .move (.tmp 1)⟩,
  ⟨none, some 87, .convert 3 23 (.tmp 86)⟩,
  ⟨none, some 88, .binOp .quo 23 (.const (.int .u64 18446744073709551615)) (.tmp 87) 23⟩,
  ⟨none, some 89, .binOp .add 23 (.tmp 88) (.const (.int .u64 1)) 23⟩,
  ⟨none, some 10, .assign (.tmp 89)⟩]
def r77_76_w {E fr h Q} := @opsW_unf E fr h Q _ _ r77_76.eq_1
def s77_77 : GC := .ops r77_76
def s77_77_w {E nt rd fr h Q} := @wp_unf E nt rd fr h Q _ _ s77_77.eq_1
def s77_78 : GC := .cond (.tmp 92) s77_75 s77_77
def s77_78_w {E nt rd fr h Q} := @wp_unf E nt rd fr h Q _ _ s77_78.eq_1
def r77_79 : List GO := [⟨none, some 93, .binOp .eql 3 (.tmp 85) (.const (.int .i64 16)) 3⟩,
  ⟨none, some 92, .assign (.tmp 93)⟩]
def r77_79_w {E fr h Q} := @opsW_unf E fr h Q _ _ r77_79.eq_1
def s77_80 : GC := .seq (.ops r77_79) s77_78
def s77_80_w {E nt rd fr h Q} := @wp_unf E nt rd fr h Q _ _ s77_80.eq_1
def s77_81 : GC := .cond (.tmp 90) s77_73 s77_80
def s77_81_w {E nt rd fr h Q} := @wp_unf E nt rd fr h Q _ _ s77_81.eq_1
def r77_82 : List GO := [⟨none, some 91, .binOp .eql 3 (.tmp 85) (.const (.int .i64 10)) 3⟩,
  ⟨none, some 90, .assign (.tmp 91)⟩]
def r77_82_w {E fr h Q} := @opsW_unf E fr h Q _ _ r77_82.eq_1
def s77_83 : GC := .seq (.ops r77_82) s77_81
def s77_83_w {E nt rd fr h Q} := @wp_unf E nt rd fr h Q _ _ s77_83.eq_1
def s77_84 : GC := .block 2 s77_83
def s77_84_w {E nt rd fr h Q} := @wp_unf E nt rd fr h Q _ _ s77_84.eq_1
def r77_85 : List GO := [⟨none, some 85, .move (.tmp 1)⟩]
def r77_85_w {E fr h Q} := @opsW_unf E fr h Q _ _ r77_85.eq_1
def s77_86 : GC := .seq (.ops r77_85) s77_84
def s77_86_w {E nt rd fr h Q} := @wp_unf E nt rd fr h Q _ _ s77_86.eq_1
def s77_87 : GC := .seq (s77_86) s77_71
def s77_87_w {E nt rd fr h Q} := @wp_unf E nt rd fr h Q _ _ s77_87.eq_1
def r77_88 : List GO := [⟨none, some 10, .assign (.const (.int .u64 0))⟩]
def r77_88_w {E fr h Q} := @opsW_unf E fr h Q _ _ r77_88.eq_1
def s77_89 : GC := .seq (.ops r77_88) s77_87
def s77_89_w {E nt rd fr h Q} := @wp_unf E nt rd fr h Q _ _ s77_89.eq_1
def r77_90 : List GO := [⟨none, some 2, .assign (.const (.int .i64 64))⟩]
def r77_90_w {E fr h Q} := @opsW_unf E fr h Q _ _ r77_90.eq_1
def s77_91 : GC := .ops r77_90
def s77_91_w {E nt rd fr h Q} := @wp_unf E nt rd fr h Q _ _ s77_91.eq_1
def r77_92 : List GO := [⟨none, some 84, .makeInterface 107 (.const (.int .i64 4))⟩,
  ⟨none, some 6, .assign (.const (.int .u64 0))⟩,
  ⟨none, some 7, .assign (.tmp 84)⟩]
def r77_92_w {E fr h Q} := @opsW_unf E fr h Q _ _ r77_92.eq_1
def s77_93 : GC := .seq (.ops r77_92) .ret
def s77_93_w {E nt rd fr h Q} := @wp_unf E nt rd fr h Q _ _ s77_93.eq_1
def s77_94 : GC := .cond (.tmp 83) s77_93 .skip
def s77_94_w {E nt rd fr h Q} := @wp_unf E nt rd fr h Q _ _ s77_94.eq_1
def r77_95 : List GO := [⟨none, some 78, .move (.tmp 2)⟩,
  ⟨none, some 79, .binOp .lss 3 (.tmp 78) (.const (.int .i64 0)) 3⟩,
  ⟨none, some 80, .move (.tmp 79)⟩,
  ⟨some (80, false), some 81, .move (.tmp 2)⟩,
  ⟨some (80, false), some 82, .binOp .gtr 3 (.tmp 81) (.const (.int .i64 64)) 3⟩,
  ⟨none, some 83, .pick (.tmp 80) (.const (.bool true)) (.tmp 82)⟩]
def r77_95_w {E fr h Q} := @opsW_unf E fr h Q _ _ r77_95.eq_1
def s77_96 : GC := .seq (.ops r77_95) s77_94
def s77_96_w {E nt rd fr h Q} := @wp_unf E nt rd fr h Q _ _ s77_96.eq_1
def s77_97 : GC := .cond (.tmp 77) s77_91 s77_96
def s77_97_w {E nt rd fr h Q} := @wp_unf E nt rd fr h Q _ _ s77_97.eq_1
def r77_98 : List GO := [⟨none, some 76, .move (.tmp 2)⟩,
  ⟨none, some 77, .binOp .eql 3 (.tmp 76) (.const (.int .i64 0)) 3⟩]
def r77_98_w {E fr h Q} := @opsW_unf E fr h Q _ _ r77_98.eq_1
def s77_99 : GC := .seq (.ops r77_98) s77_97
def s77_99_w {E nt rd fr h Q} := @wp_unf E nt rd fr h Q _ _ s77_99.eq_1
def s77_100 : GC := .seq (s77_99) s77_89
def s77_100_w {E nt rd fr h Q} := @wp_unf E nt rd fr h Q _ _ s77_100.eq_1
def r77_101 : List GO := [⟨none, some 50, .move (.tmp 0)⟩,
  ⟨none, some 51, .slice 9 (.tmp 50) (some (.const (.int .i64 2))) none none⟩,
  ⟨none, some 0, .assign (.tmp 51)⟩]
def r77_101_w {E fr h Q} := @opsW_unf E fr h Q _ _ r77_101.eq_1
def s77_102 : GC := .ops r77_101
def s77_102_w {E nt rd fr h Q} := @wp_unf E nt rd fr h Q _ _ s77_102.eq_1
def r77_103 : List GO := [⟨none, some 1, .assign (.const (.int .i64 2))⟩]
def r77_103_w {E fr h Q} := @opsW_unf E fr h Q _ _ r77_103.eq_1
def s77_104 : GC := .seq (.ops r77_103) s77_102
def s77_104_w {E nt rd fr h Q} := @wp_unf E nt rd fr h Q _ _ s77_104.eq_1
def r77_105 : List GO := [⟨none, some 62, .move (.tmp 0)⟩,
  ⟨none, some 63, .slice 9 (.tmp 62) (some (.const (.int .i64 2))) none none⟩,
  ⟨none, some 0, .assign (.tmp 63)⟩]
def r77_105_w {E fr h Q} := @opsW_unf E fr h Q _ _ r77_105.eq_1
def s77_106 : GC := .ops r77_105
def s77_106_w {E nt rd fr h Q} := @wp_unf E nt rd fr h Q _ _ s77_106.eq_1
def r77_107 : List GO := [⟨none, some 1, .assign (.const (.int .i64 8))⟩]
def r77_107_w {E fr h Q} := @opsW_unf E fr h Q _ _ r77_107.eq_1
def s77_108 : GC := .seq (.ops r77_107) s77_106
def s77_108_w {E nt rd fr h Q} := @wp_unf E nt rd fr h Q _ _ s77_108.eq_1
def r77_109 : List GO := [⟨none, some 74, .move (.tmp 0)⟩,
  ⟨none, some 75, .slice 9 (.tmp 74) (some (.const (.int .i64 2))) none none⟩,
  ⟨none, some 0, .assign (.tmp 75)⟩]
def r77_109_w {E fr h Q} := @opsW_unf E fr h Q _ _ r77_109.eq_1
def s77_110 : GC := .ops r77_109
def s77_110_w {E nt rd fr h Q} := @wp_unf E nt rd fr h Q _ _ s77_110.eq_1
def r77_111 : List GO := [⟨none, some 1, .assign (.const (.int .i64 16))⟩]
def r77_111_w {E fr h Q} := @opsW_unf E fr h Q _ _ r77_111.eq_1
def s77_112 : GC := .seq (.ops r77_111) s77_110
def s77_112_w {E nt rd fr h Q} := @wp_unf E nt rd fr h Q _ _ s77_112.eq_1
def r77_113 : List GO := [⟨none, some 38, .move (.tmp 0)⟩,
  ⟨none, some 39, .slice 9 (.tmp 38) (some (.const (.int .i64 1))) none none⟩,
  ⟨none, some 0, .assign (.tmp 39)⟩]
def r77_113_w {E fr h Q} := @opsW_unf E fr h Q _ _ r77_113.eq_1
def s77_114 : GC := .ops r77_113
def s77_114_w {E nt rd fr h Q} := @wp_unf E nt rd fr h Q _ _ s77_114.eq_1
def r77_115 : List GO := [⟨none, some 1, .assign (.const (.int .i64 8))⟩]
def r77_115_w {E fr h Q} := @opsW_unf E fr h Q _ _ r77_115.eq_1
def s77_116 : GC := .seq (.ops r77_115) s77_114
def s77_116_w {E nt rd fr h Q} := @wp_unf E nt rd fr h Q _ _ s77_116.eq_1
def s77_117 : GC := .cond (.tmp 64) s77_112 s77_116
def s77_117_w {E nt rd fr h Q} := @wp_unf E nt rd fr h Q _ _ s77_117.eq_1
def r77_118 : List GO := [⟨none, some 65, .move (.tmp 0)⟩,
  ⟨none, some 66, .call ⟨.builtin .len, ⟨[.tmp 65]⟩, ⟨[9]⟩⟩⟩,
  ⟨none, some 67, .binOp .geq 3 (.tmp 66) (.const (.int .i64 3)) 3⟩,
  ⟨none, some 68, .move (.tmp 67)⟩,
  ⟨some (68, true), some 69, .move (.tmp 0)⟩,
  ⟨some (68, true), some 70, .index 9 (.tmp 69) (.const (.int .i64 1))⟩,
  ⟨some (68, true), some 71, .call ⟨.value (.func 98), ⟨[.tmp 70]⟩, ⟨[5]⟩⟩⟩,
  ⟨some (68, true), some 72, .binOp .eql 5 (.tmp 71) (.const (.int .u8 120)) 5⟩,
  ⟨none, some 73, .pick (.tmp 68) (.tmp 72) (.const (.bool false))⟩,
  ⟨none, some 64, .assign (.tmp 73)⟩]
def r77_118_w {E fr h Q} := @opsW_unf E fr h Q _ _ r77_118.eq_1
def s77_119 : GC := .seq (.ops r77_118) s77_117
def s77_119_w {E nt rd fr h Q} := @wp_unf E nt rd fr h Q _ _ s77_119.eq_1
def s77_120 : GC := .cond (.tmp 52) s77_108 s77_119
def s77_120_w {E nt rd fr h Q} := @wp_unf E nt rd fr h Q _ _ s77_120.eq_1
def r77_121 : List GO := [⟨none, some 53, .move (.tmp 0)⟩,
  ⟨none, some 54, .call ⟨.builtin .len, ⟨[.tmp 53]⟩, ⟨[9]⟩⟩⟩,
  ⟨none, some 55, .binOp .geq 3 (.tmp 54) (.const (.int .i64 3)) 3⟩,
  ⟨none, some 56, .move (.tmp 55)⟩,
  ⟨some (56, true), some 57, .move (.tmp 0)⟩,
  ⟨some (56, true), some 58, .index 9 (.tmp 57) (.const (.int .i64 1))⟩,
  ⟨some (56, true), some 59, .call ⟨.value (.func 98), ⟨[.tmp 58]⟩, ⟨[5]⟩⟩⟩,
  ⟨some (56, true), some 60, .binOp .eql 5 (.tmp 59) (.const (.int .u8 111)) 5⟩,
  ⟨none, some 61, .pick (.tmp 56) (.tmp 60) (.const (.bool false))⟩,
  ⟨none, some 52, .assign (.tmp 61)⟩]
def r77_121_w {E fr h Q} := @opsW_unf E fr h Q _ _ r77_121.eq_1
def s77_122 : GC := .seq (.ops r77_121) s77_120
def s77_122_w {E nt rd fr h Q} := @wp_unf E nt rd fr h Q _ _ s77_122.eq_1
def s77_123 : GC := .cond (.tmp 40) s77_104 s77_122
def s77_123_w {E nt rd fr h Q} := @wp_unf E nt rd fr h Q _ _ s77_123.eq_1
def r77_124 : List GO := [⟨none, some 41, .move (.tmp 0)⟩,
  ⟨none, some 42, .call ⟨.builtin .len, ⟨[.tmp 41]⟩, ⟨[9]⟩⟩⟩,
  ⟨none, some 43, .binOp .geq 3 (.tmp 42) (.const (.int .i64 3)) 3⟩,
  ⟨none, some 44, .move (.tmp 43)⟩,
  ⟨some (44, true), some 45, .move (.tmp 0)⟩,
  ⟨some (44, true), some 46, .index 9 (.tmp 45) (.const (.int .i64 1))⟩,
  ⟨some (44, true), some 47, .call ⟨.value (.func 98), ⟨[.tmp 46]⟩, ⟨[5]⟩⟩⟩,
  ⟨some (44, true), some 48, .binOp .eql 5 (.tmp 47) (.const (.int .u8 98)) 5⟩,
  ⟨none, some 49, .pick (.tmp 44) (.tmp 48) (.const (.bool false))⟩,
  ⟨none, some 40, .assign (.tmp 49)⟩]
def r77_124_w {E fr h Q} := @opsW_unf E fr h Q _ _ r77_124.eq_1
def s77_125 : GC := .seq (.ops r77_124) s77_123
def s77_125_w {E nt rd fr h Q} := @wp_unf E nt rd fr h Q _ _ s77_125.eq_1
def s77_126 : GC := .block 1 s77_125
def s77_126_w {E nt rd fr h Q} := @wp_unf E nt rd fr h Q _ _ s77_126.eq_1
def s77_127 : GC := .cond (.tmp 37) s77_126 .skip
def s77_127_w {E nt rd fr h Q} := @wp_unf E nt rd fr h Q _ _ s77_127.eq_1
def r77_128 : List GO := [⟨none, some 35, .move (.tmp 0)⟩,
  ⟨none, some 36, .index 9 (.tmp 35) (.const (.int .i64 0))⟩,
  ⟨none, some 37, .binOp .eql 5 (.tmp 36) (.const (.int .u8 48)) 5⟩]
def r77_128_w {E fr h Q} := @opsW_unf E fr h Q _ _ r77_128.eq_1
def s77_129 : GC := .seq (.ops r77_128) s77_127
def s77_129_w {E nt rd fr h Q} := @wp_unf E nt rd fr h Q _ _ s77_129.eq_1
def r77_130 : List GO := [⟨none, some 1, .assign (.const (.int .i64 10))⟩]
def r77_130_w {E fr h Q} := @opsW_unf E fr h Q _ _ r77_130.eq_1
def s77_131 : GC := .seq (.ops r77_130) s77_129
def s77_131_w {E nt rd fr h Q} := @wp_unf E nt rd fr h Q _ _ s77_131.eq_1
def r77_132 : List GO := [⟨none, some 24, .makeInterface 107 (.const (.int .i64 3))⟩,
  ⟨none, some 6, .assign (.const (.int .u64 0))⟩,
  ⟨none, some 7, .assign (.tmp 24)⟩]
def r77_132_w {E fr h Q} := @opsW_unf E fr h Q _ _ r77_132.eq_1
def s77_133 : GC := .seq (.ops r77_132) .ret
def s77_133_w {E nt rd fr h Q} := @wp_unf E nt rd fr h Q _ _ s77_133.eq_1
def s77_134 : GC := .cond (.tmp 32) s77_131 s77_133
def s77_134_w {E nt rd fr h Q} := @wp_unf E nt rd fr h Q _ _ s77_134.eq_1
def r77_135 : List GO := [⟨none, some 33, .move (.tmp 1)⟩,
  ⟨none, some 34, .binOp .eql 3 (.tmp 33) (.const (.int .i64 0)) 3⟩,
  ⟨none, some 32, .assign (.tmp 34)⟩]
def r77_135_w {E fr h Q} := @opsW_unf E fr h Q _ _ r77_135.eq_1
def s77_136 : GC := .seq (.ops r77_135) s77_134
def s77_136_w {E nt rd fr h Q} := @wp_unf E nt rd fr h Q _ _ s77_136.eq_1
def s77_137 : GC := .cond (.tmp 25) .skip s77_136
def s77_137_w {E nt rd fr h Q} := @wp_unf E nt rd fr h Q _ _ s77_137.eq_1
def r77_138 : List GO := [⟨none, some 26, .move (.tmp 1)⟩,
  ⟨none, some 27, .binOp .leq 3 (.const (.int .i64 2)) (.tmp 26) 3⟩,
  ⟨none, some 28, .move (.tmp 27)⟩,
  ⟨some (28, true), some 29, .move (.tmp 1)⟩,
  ⟨some (28, true), some 30, .binOp .leq 3 (.tmp 29) (.const (.int .i64 36)) 3⟩,
  ⟨none, some 31, .pick (.tmp 28) (.tmp 30) (.const (.bool false))⟩,
  ⟨none, some 25, .assign (.tmp 31)⟩]
def r77_138_w {E fr h Q} := @opsW_unf E fr h Q _ _ r77_138.eq_1
def s77_139 : GC := .seq (.ops r77_138) s77_137
def s77_139_w {E nt rd fr h Q} := @wp_unf E nt rd fr h Q _ _ s77_139.eq_1
def s77_140 : GC := .seq (.block 0 s77_139) s77_100
def s77_140_w {E nt rd fr h Q} := @wp_unf E nt rd fr h Q _ _ s77_140.eq_1
def r77_141 : List GO := [⟨none, some 23, .move (.tmp 0)⟩,
  ⟨none, some 9, .assign (.tmp 23)⟩]
def r77_141_w {E fr h Q} := @opsW_unf E fr h Q _ _ r77_141.eq_1
def s77_142 : GC := .seq (.ops r77_141) s77_140
def s77_142_w {E nt rd fr h Q} := @wp_unf E nt rd fr h Q _ _ s77_142.eq_1
def r77_143 : List GO := [⟨none, some 21, .move (.tmp 1)⟩,
  ⟨none, some 22, .binOp .eql 3 (.tmp 21) (.const (.int .i64 0)) 3⟩,
  ⟨none, some 8, .assign (.tmp 22)⟩]
def r77_143_w {E fr h Q} := @opsW_unf E fr h Q _ _ r77_143.eq_1
def s77_144 : GC := .seq (.ops r77_143) s77_142
def s77_144_w {E nt rd fr h Q} := @wp_unf E nt rd fr h Q _ _ s77_144.eq_1
def r77_145 : List GO := [⟨none, some 20, .makeInterface 107 (.const (.int .i64 2))⟩,
  ⟨none, some 6, .assign (.const (.int .u64 0))⟩,
  ⟨none, some 7, .assign (.tmp 20)⟩]
def r77_145_w {E fr h Q} := @opsW_unf E fr h Q _ _ r77_145.eq_1
def s77_146 : GC := .seq (.ops r77_145) .ret
def s77_146_w {E nt rd fr h Q} := @wp_unf E nt rd fr h Q _ _ s77_146.eq_1
def s77_147 : GC := .cond (.tmp 19) s77_146 .skip
def s77_147_w {E nt rd fr h Q} := @wp_unf E nt rd fr h Q _ _ s77_147.eq_1
def r77_148 : List GO := [⟨none, some 18, .move (.tmp 0)⟩,
  ⟨none, some 19, .binOp .eql 9 (.tmp 18) (.const (.string ⟨⟨[]⟩⟩)) 9⟩]
def r77_148_w {E fr h Q} := @opsW_unf E fr h Q _ _ r77_148.eq_1
def s77_149 : GC := .seq (.ops r77_148) s77_147
def s77_149_w {E nt rd fr h Q} := @wp_unf E nt rd fr h Q _ _ s77_149.eq_1
def s77_150 : GC := .seq (s77_149) s77_144
def s77_150_w {E nt rd fr h Q} := @wp_unf E nt rd fr h Q _ _ s77_150.eq_1
def r77_151 : List GO := [⟨none, some 6, .assign (.const (.int .u64 0))⟩,
  ⟨none, some 7, .assign (.const (.nilIface))⟩]
def r77_151_w {E fr h Q} := @opsW_unf E fr h Q _ _ r77_151.eq_1
def s77_152 : GC := .seq (.ops r77_151) s77_150
def s77_152_w {E nt rd fr h Q} := @wp_unf E nt rd fr h Q _ _ s77_152.eq_1
theorem c77 : Tryd.f77.body.bind (clean env 172) = some s77_152 := by kernel_rfl
theorem e77 : env.funs.get 77 = some Tryd.f77 := by kernel_rfl
theorem F77 {args : List Value} {h : Heap} {K : Value → Heap → Prop} (hl : args.length = 3) (w : s77_152.wp env 172 none (setAll args 0 .leaf) h (resK env [.tmp 6, .tmp 7] K)) : Ret env (.func 77) args h K :=
  Ret.of_body' rfl e77 c77 rfl rfl (by rw [hl]; decide) w
/-! math.ldexp -/
def r79_0 : List GO := [⟨none, some 59, .move (.tmp 7)⟩,
  ⟨none, some 60, .move (.tmp 6)⟩,
  ⟨none, some 61, .call ⟨.value (.func 10), ⟨[.tmp 60]⟩, ⟨[23]⟩⟩⟩,
  ⟨none, some 62, .binOp .mul 27 (.tmp 59) (.tmp 61) 27⟩,
  ⟨none, some 4, .assign (.tmp 62)⟩]
def r79_0_w {E fr h Q} := @opsW_unf E fr h Q _ _ r79_0.eq_1
def s79_1 : GC := .seq (.ops r79_0) .ret
def s79_1_w {E nt rd fr h Q} := @wp_unf E nt rd fr h Q _ _ s79_1.eq_1
def r79_2 : List GO := [⟨none, some 53, .move (.tmp 6)⟩,
  ⟨none, some 54, .move (.tmp 1)⟩,
  ⟨none, some 55, .binOp .add 3 (.tmp 54) (.const (.int .i64 1023)) 3⟩,
  ⟨none, some 56, .convert 3 23 (.tmp 55)⟩,
  ⟨none, some 57, .binOp .shl 23 (.tmp 56) (.const (.int .u64 52)) 69⟩,
  ⟨none, some 58, .binOp .or 23 (.tmp 53) (.tmp 57) 23⟩,
  ⟨none, some 6, .assign (.tmp 58)⟩]
def r79_2_w {E fr h Q} := @opsW_unf E fr h Q _ _ r79_2.eq_1
def s79_3 : GC := .seq (.ops r79_2) s79_1
def s79_3_w {E nt rd fr h Q} := @wp_unf E nt rd fr h Q _ _ s79_3.eq_1
def r79_4 : List GO := [⟨none, some 51, .move (.tmp 6)⟩,
  ⟨none, some 52, .binOp .andNot 23 (.tmp 51) (.const (.int .u64 9218868437227405312)) 23⟩,
  ⟨none, some 6, .assign (.tmp 52)⟩]
def r79_4_w {E fr h Q} := @opsW_unf E fr h Q _ _ r79_4.eq_1
def s79_5 : GC := .seq (.ops r79_4) s79_3
def s79_5_w {E nt rd fr h Q} := @wp_unf E nt rd fr h Q _ _ s79_5.eq_1
def r79_6 : List GO := [⟨none, some 7, .assign (.const (.float .f64 4368491638549381120))⟩]
def r79_6_w {E fr h Q} := @opsW_unf E fr h Q _ _ r79_6.eq_1
def s79_7 : GC := .ops r79_6
def s79_7_w {E nt rd fr h Q} := @wp_unf E nt rd fr h Q _ _ s79_7.eq_1
def r79_8 : List GO := [⟨none, some 49, .move (.tmp 1)⟩,
  ⟨none, some 50, .binOp .add 3 (.tmp 49) (.const (.int .i64 53)) 3⟩,
  ⟨none, some 1, .assign (.tmp 50)⟩]
def r79_8_w {E fr h Q} := @opsW_unf E fr h Q _ _ r79_8.eq_1
def s79_9 : GC := .seq (.ops r79_8) s79_7
def s79_9_w {E nt rd fr h Q} := @wp_unf E nt rd fr h Q _ _ s79_9.eq_1
def s79_10 : GC := .cond (.tmp 48) s79_9 .skip
def s79_10_w {E nt rd fr h Q} := @wp_unf E nt rd fr h Q _ _ s79_10.eq_1
def r79_11 : List GO := [⟨none, some 47, .move (.tmp 1)⟩,
  ⟨none, some 48, .binOp .lss 3 (.tmp 47) (.const (.int .i64 (-1022))) 3⟩]
def r79_11_w {E fr h Q} := @opsW_unf E fr h Q _ _ r79_11.eq_1
def s79_12 : GC := .seq (.ops r79_11) s79_10
def s79_12_w {E nt rd fr h Q} := @wp_unf E nt rd fr h Q _ _ s79_12.eq_1
def s79_13 : GC := .seq (s79_12) s79_5
def s79_13_w {E nt rd fr h Q} := @wp_unf E nt rd fr h Q _ _ s79_13.eq_1
def r79_14 : List GO := [⟨none, some 7, .assign (.const (.float .f64 4607182418800017408))⟩]
def r79_14_w {E fr h Q} := @opsW_unf E fr h Q _ _ r79_14.eq_1
def s79_15 : GC := .seq (.ops r79_14) s79_13
def s79_15_w {E nt rd fr h Q} := @wp_unf E nt rd fr h Q _ _ s79_15.eq_1
def r79_16 : List GO := [⟨none, some 46, .call ⟨.value (.func 38), ⟨[.const (.int .i64 1)]⟩, ⟨[3]⟩⟩⟩,
  ⟨none, some 4, .assign (.tmp 46)⟩]
def r79_16_w {E fr h Q} := @opsW_unf E fr h Q _ _ r79_16.eq_1
def s79_17 : GC := .seq (.ops r79_16) .ret
def s79_17_w {E nt rd fr h Q} := @wp_unf E nt rd fr h Q _ _ s79_17.eq_1
def r79_18 : List GO := [⟨none, some 45, .call ⟨.value (.func 38), ⟨[.const (.int .i64 (-1))]⟩, ⟨[3]⟩⟩⟩,
  ⟨none, some 4, .assign (.tmp 45)⟩]
def r79_18_w {E fr h Q} := @opsW_unf E fr h Q _ _ r79_18.eq_1
def s79_19 : GC := .seq (.ops r79_18) .ret
def s79_19_w {E nt rd fr h Q} := @wp_unf E nt rd fr h Q _ _ s79_19.eq_1
def s79_20 : GC := .cond (.tmp 44) s79_19 .skip
def s79_20_w {E nt rd fr h Q} := @wp_unf E nt rd fr h Q _ _ s79_20.eq_1
def r79_21 : List GO := [⟨none, some 43, .move (.tmp 0)⟩,
  ⟨none, some 44, .binOp .lss 27 (.tmp 43) (.const (.float .f64 0)) 27⟩]
def r79_21_w {E fr h Q} := @opsW_unf E fr h Q _ _ r79_21.eq_1
def s79_22 : GC := .seq (.ops r79_21) s79_20
def s79_22_w {E nt rd fr h Q} := @wp_unf E nt rd fr h Q _ _ s79_22.eq_1
def s79_23 : GC := .seq (s79_22) s79_17
def s79_23_w {E nt rd fr h Q} := @wp_unf E nt rd fr h Q _ _ s79_23.eq_1
def s79_24 : GC := .cond (.tmp 42) s79_23 .skip
def s79_24_w {E nt rd fr h Q} := @wp_unf E nt rd fr h Q _ _ s79_24.eq_1
def r79_25 : List GO := [⟨none, some 41, .move (.tmp 1)⟩,
  ⟨none, some 42, .binOp .gtr 3 (.tmp 41) (.const (.int .i64 1023)) 3⟩]
def r79_25_w {E fr h Q} := @opsW_unf E fr h Q _ _ r79_25.eq_1
def s79_26 : GC := .seq (.ops r79_25) s79_24
def s79_26_w {E nt rd fr h Q} := @wp_unf E nt rd fr h Q _ _ s79_26.eq_1
def s79_27 : GC := .seq (s79_26) s79_15
def s79_27_w {E nt rd fr h Q} := @wp_unf E nt rd fr h Q _ _ s79_27.eq_1
def r79_28 : List GO := [⟨none, some 39, .move (.tmp 0)⟩,
  ⟨none, some 40, .call ⟨.value (.func 39), ⟨[.const (.float .f64 0), .tmp 39]⟩, ⟨[27, 27]⟩⟩⟩,
  ⟨none, some 4, .assign (.tmp 40)⟩]
def r79_28_w {E fr h Q} := @opsW_unf E fr h Q _ _ r79_28.eq_1
def s79_29 : GC := .seq (.ops r79_28) .ret
def s79_29_w {E nt rd fr h Q} := @wp_unf E nt rd fr h Q _ _ s79_29.eq_1
def s79_30 : GC := .cond (.tmp 38) s79_29 .skip
def s79_30_w {E nt rd fr h Q} := @wp_unf E nt rd fr h Q _ _ s79_30.eq_1
def r79_31 : List GO := [⟨none, some 37, .move (.tmp 1)⟩,
  ⟨none, some 38, .binOp .lss 3 (.tmp 37) (.const (.int .i64 (-1075))) 3⟩]
def r79_31_w {E fr h Q} := @opsW_unf E fr h Q _ _ r79_31.eq_1
def s79_32 : GC := .seq (.ops r79_31) s79_30
def s79_32_w {E nt rd fr h Q} := @wp_unf E nt rd fr h Q _ _ s79_32.eq_1
def s79_33 : GC := .seq (s79_32) s79_27
def s79_33_w {E nt rd fr h Q} := @wp_unf E nt rd fr h Q _ _ s79_33.eq_1
def r79_34 : List GO := [⟨none, some 30, .move (.tmp 1)⟩,
  ⟨none, some 31, .move (.tmp 6)⟩,
  ⟨none, some 32, .binOp .shr 23 (.tmp 31) (.const (.int .u64 52)) 69⟩,
  ⟨none, some 33, .convert 23 3 (.tmp 32)⟩,
  ⟨none, some 34, .binOp .and 3 (.tmp 33) (.const (.int .i64 2047)) 3⟩,
  ⟨none, some 35, .binOp .sub 3 (.tmp 34) (.const (.int .i64 1023)) 3⟩,
  ⟨none, some 36, .binOp .add 3 (.tmp 30) (.tmp 35) 3⟩,
  ⟨none, some 1, .assign (.tmp 36)⟩]
def r79_34_w {E fr h Q} := @opsW_unf E fr h Q _ _ r79_34.eq_1
def s79_35 : GC := .seq (.ops r79_34) s79_33
def s79_35_w {E nt rd fr h Q} := @wp_unf E nt rd fr h Q _ _ s79_35.eq_1
def r79_36 : List GO := [⟨none, some 28, .move (.tmp 0)⟩,
  ⟨none, some 29, .call ⟨.value (.func 18), ⟨[.tmp 28]⟩, ⟨[27]⟩⟩⟩,
  ⟨none, some 6, .assign (.tmp 29)⟩]
def r79_36_w {E fr h Q} := @opsW_unf E fr h Q _ _ r79_36.eq_1
def s79_37 : GC := .seq (.ops r79_36) s79_35
def s79_37_w {E nt rd fr h Q} := @wp_unf E nt rd fr h Q _ _ s79_37.eq_1
def r79_38 : List GO := [⟨none, some 25, .move (.tmp 1)⟩,
  ⟨none, some 26, .move (.tmp 5)⟩,
  ⟨none, some 27, .binOp .add 3 (.tmp 25) (.tmp 26) 3⟩,
  ⟨none, some 1, .assign (.tmp 27)⟩]
def r79_38_w {E fr h Q} := @opsW_unf E fr h Q _ _ r79_38.eq_1
def s79_39 : GC := .seq (.ops r79_38) s79_37
def s79_39_w {E nt rd fr h Q} := @wp_unf E nt rd fr h Q _ _ s79_39.eq_1
def r79_40 : List GO := [⟨none, some 21, .move (.tmp 0)⟩,
  ⟨none, some 22, .call ⟨.value (.func 100), ⟨[.tmp 21]⟩, ⟨[27]⟩⟩⟩,
  ⟨none, some 20, .move (.tmp 22)⟩,
  ⟨none, some 23, .extract (.tmp 20) 0⟩,
  ⟨none, some 24, .extract (.tmp 20) 1⟩,
  ⟨none, some 0, .assign (.tmp 23)⟩,
  ⟨none, some 5, .assign (.tmp 24)⟩]
def r79_40_w {E fr h Q} := @opsW_unf E fr h Q _ _ r79_40.eq_1
def s79_41 : GC := .seq (.ops r79_40) s79_39
def s79_41_w {E nt rd fr h Q} := @wp_unf E nt rd fr h Q _ _ s79_41.eq_1
def r79_42 : List GO := [⟨none, some 11, .move (.tmp 0)⟩,
  ⟨none, some 4, .assign (.tmp 11)⟩]
def r79_42_w {E fr h Q} := @opsW_unf E fr h Q _ _ r79_42.eq_1
def s79_43 : GC := .seq (.ops r79_42) .ret
def s79_43_w {E nt rd fr h Q} := @wp_unf E nt rd fr h Q _ _ s79_43.eq_1
def r79_44 : List GO := [⟨none, some 19, .move (.tmp 0)⟩,
  ⟨none, some 4, .assign (.tmp 19)⟩]
def r79_44_w {E fr h Q} := @opsW_unf E fr h Q _ _ r79_44.eq_1
def s79_45 : GC := .seq (.ops r79_44) .ret
def s79_45_w {E nt rd fr h Q} := @wp_unf E nt rd fr h Q _ _ s79_45.eq_1
def s79_46 : GC := .cond (.tmp 12) s79_45 .skip
def s79_46_w {E nt rd fr h Q} := @wp_unf E nt rd fr h Q _ _ s79_46.eq_1
def r79_47 : List GO := [⟨none, some 13, .move (.tmp 0)⟩,
  ⟨none, some 14, .call ⟨.value (.func 71), ⟨[.tmp 13, .const (.int .i64 0)]⟩, ⟨[27, 3]⟩⟩⟩,
  ⟨none, some 15, .move (.tmp 14)⟩,
  ⟨some (15, false), some 16, .move (.tmp 0)⟩,
  ⟨some (15, false), some 17, .call ⟨.value (.func 63), ⟨[.tmp 16]⟩, ⟨[27]⟩⟩⟩,
  ⟨none, some 18, .pick (.tmp 15) (.const (.bool true)) (.tmp 17)⟩,
  ⟨none, some 12, .assign (.tmp 18)⟩]
def r79_47_w {E fr h Q} := @opsW_unf E fr h Q _ _ r79_47.eq_1
def s79_48 : GC := .seq (.ops r79_47) s79_46
def s79_48_w {E nt rd fr h Q} := @wp_unf E nt rd fr h Q _ _ s79_48.eq_1
def s79_49 : GC := .cond (.tmp 8) s79_43 s79_48
def s79_49_w {E nt rd fr h Q} := @wp_unf E nt rd fr h Q _ _ s79_49.eq_1
def r79_50 : List GO := [⟨none, some 9, .move (.tmp 0)⟩,
  ⟨none, some 10, .binOp .eql 27 (.tmp 9) (.const (.float .f64 0)) 27⟩,
  ⟨none, some 8, .assign (.tmp 10)⟩]
def r79_50_w {E fr h Q} := @opsW_unf E fr h Q _ _ r79_50.eq_1
def s79_51 : GC := .seq (.ops r79_50) s79_49
def s79_51_w {E nt rd fr h Q} := @wp_unf E nt rd fr h Q _ _ s79_51.eq_1
def s79_52 : GC := .seq (.block 0 s79_51) s79_41
def s79_52_w {E nt rd fr h Q} := @wp_unf E nt rd fr h Q _ _ s79_52.eq_1
def r79_53 : List GO := [⟨none, some 4, .assign (.const (.float .f64 0))⟩]
def r79_53_w {E fr h Q} := @opsW_unf E fr h Q _ _ r79_53.eq_1
def s79_54 : GC := .seq (.ops r79_53) s79_52
def s79_54_w {E nt rd fr h Q} := @wp_unf E nt rd fr h Q _ _ s79_54.eq_1
theorem c79 : Tryd.f79.body.bind (clean env 63) = some s79_54 := by kernel_rfl
theorem e79 : env.funs.get 79 = some Tryd.f79 := by kernel_rfl
theorem F79 {args : List Value} {h : Heap} {K : Value → Heap → Prop} (hl : args.length = 2) (w : s79_54.wp env 63 none (setAll args 0 .leaf) h (resK env [.tmp 4] K)) : Ret env (.func 79) args h K :=
  Ret.of_body' rfl e79 c79 rfl rfl (by rw [hl]; decide) w
/-! internal/strconv.FormatInt -/
def r83_0 : List GO := [⟨none, some 53, .move (.tmp 9)⟩,
  ⟨none, some 4, .assign (.tmp 53)⟩]
def r83_0_w {E fr h Q} := @opsW_unf E fr h Q _ _ r83_0.eq_1
def s83_1 : GC := .seq (.ops r83_0) .ret
def s83_1_w {E nt rd fr h Q} := @wp_unf E nt rd fr h Q _ _ s83_1.eq_1
def r83_2 : List GO := [⟨none, some 45, .move (.tmp 0)⟩,
  ⟨none, some 46, .convert 2 23 (.tmp 45)⟩,
  ⟨none, some 47, .move (.tmp 1)⟩,
  ⟨none, some 48, .move (.tmp 0)⟩,
  ⟨none, some 49, .binOp .lss 2 (.tmp 48) (.const (.int .i64 0)) 2⟩,
  ⟨none, some 50, .call ⟨.value (.func 87), ⟨[.const (.slice none 0 0), .tmp 46, .tmp 47, .tmp 49, .const (.bool false)]⟩, ⟨[87, 23, 3, 4, 4]⟩⟩⟩,
  ⟨none, some 44, .move (.tmp 50)⟩,
  ⟨none, some 51, .extract (.tmp 44) 0⟩,
  ⟨none, some 52, .extract (.tmp 44) 1⟩,
  ⟨none, some 8, .assign (.tmp 51)⟩,
  ⟨none, some 9, .assign (.tmp 52)⟩]
def r83_2_w {E fr h Q} := @opsW_unf E fr h Q _ _ r83_2.eq_1
def s83_3 : GC := .seq (.ops r83_2) s83_1
def s83_3_w {E nt rd fr h Q} := @wp_unf E nt rd fr h Q _ _ s83_3.eq_1
def r83_4 : List GO := [⟨none, some 40, .move (.tmp 7)⟩,
  ⟨none, some 41, .binOp .add 3 (.const (.int .i64 1)) (.tmp 40) 3⟩,
  ⟨none, some 42, .slice 99 (.tmp 5) (some (.const (.int .i64 1))) (some (.tmp 41)) none⟩,
  ⟨none, some 43, .convert 87 9 (.tmp 42)⟩,
  ⟨none, some 4, .assign (.tmp 43)⟩]
def r83_4_w {E fr h Q} := @opsW_unf E fr h Q _ _ r83_4.eq_1
def s83_5 : GC := .seq (.ops r83_4) .ret
def s83_5_w {E nt rd fr h Q} := @wp_unf E nt rd fr h Q _ _ s83_5.eq_1
def r83_6 : List GO := [⟨none, some 36, .move (.tmp 7)⟩,
  ⟨none, some 37, .binOp .add 3 (.const (.int .i64 1)) (.tmp 36) 3⟩,
  ⟨none, some 38, .slice 99 (.tmp 5) none (some (.tmp 37)) none⟩,
  ⟨none, some 39, .convert 87 9 (.tmp 38)⟩,
  ⟨none, some 4, .assign (.tmp 39)⟩]
def r83_6_w {E fr h Q} := @opsW_unf E fr h Q _ _ r83_6.eq_1
def s83_7 : GC := .seq (.ops r83_6) .ret
def s83_7_w {E nt rd fr h Q} := @wp_unf E nt rd fr h Q _ _ s83_7.eq_1
def r83_8 : List GO := [⟨none, some 35, .indexAddr 99 (.tmp 5) (.const (.int .i64 0))⟩,
  ⟨none, none, .store 5 (.tmp 35) (.const (.int .u8 45))⟩]
def r83_8_w {E fr h Q} := @opsW_unf E fr h Q _ _ r83_8.eq_1
def s83_9 : GC := .seq (.ops r83_8) s83_7
def s83_9_w {E nt rd fr h Q} := @wp_unf E nt rd fr h Q _ _ s83_9.eq_1
def s83_10 : GC := .cond (.tmp 34) s83_9 .skip
def s83_10_w {E nt rd fr h Q} := @wp_unf E nt rd fr h Q _ _ s83_10.eq_1
def r83_11 : List GO := [⟨none, some 33, .move (.tmp 0)⟩,
  ⟨none, some 34, .binOp .lss 2 (.tmp 33) (.const (.int .i64 0)) 2⟩]
def r83_11_w {E fr h Q} := @opsW_unf E fr h Q _ _ r83_11.eq_1
def s83_12 : GC := .seq (.ops r83_11) s83_10
def s83_12_w {E nt rd fr h Q} := @wp_unf E nt rd fr h Q _ _ s83_12.eq_1
def s83_13 : GC := .seq (s83_12) s83_5
def s83_13_w {E nt rd fr h Q} := @wp_unf E nt rd fr h Q _ _ s83_13.eq_1
def r83_14 : List GO := [⟨none, some 28, .move (.tmp 7)⟩,
  ⟨none, some 29, .binOp .add 3 (.const (.int .i64 1)) (.tmp 28) 3⟩,
  ⟨none, some 30, .slice 99 (.tmp 5) (some (.const (.int .i64 1))) (some (.tmp 29)) none⟩,
  ⟨none, some 31, .move (.tmp 6)⟩,
  ⟨none, some 32, .call ⟨.value (.func 86), ⟨[.tmp 30, .tmp 31]⟩, ⟨[87, 23]⟩⟩⟩]
def r83_14_w {E fr h Q} := @opsW_unf E fr h Q _ _ r83_14.eq_1
def s83_15 : GC := .seq (.ops r83_14) s83_13
def s83_15_w {E nt rd fr h Q} := @wp_unf E nt rd fr h Q _ _ s83_15.eq_1
def r83_16 : List GO := [⟨none, some 26, .move (.tmp 6)⟩,
  ⟨none, some 27, .call ⟨.value (.func 85), ⟨[.tmp 26]⟩, ⟨[23]⟩⟩⟩,
  ⟨none, some 7, .assign (.tmp 27)⟩]
def r83_16_w {E fr h Q} := @opsW_unf E fr h Q _ _ r83_16.eq_1
def s83_17 : GC := .seq (.ops r83_16) s83_15
def s83_17_w {E nt rd fr h Q} := @wp_unf E nt rd fr h Q _ _ s83_17.eq_1
def r83_18 : List GO := [⟨none, some 24, .move (.tmp 6)⟩,
  ⟨none, some 25, .unOp .neg 23 (.tmp 24)⟩,
  ⟨none, some 6, .assign (.tmp 25)⟩]
def r83_18_w {E fr h Q} := @opsW_unf E fr h Q _ _ r83_18.eq_1
def s83_19 : GC := .ops r83_18
def s83_19_w {E nt rd fr h Q} := @wp_unf E nt rd fr h Q _ _ s83_19.eq_1
def s83_20 : GC := .cond (.tmp 23) s83_19 .skip
def s83_20_w {E nt rd fr h Q} := @wp_unf E nt rd fr h Q _ _ s83_20.eq_1
def r83_21 : List GO := [⟨none, some 22, .move (.tmp 0)⟩,
  ⟨none, some 23, .binOp .lss 2 (.tmp 22) (.const (.int .i64 0)) 2⟩]
def r83_21_w {E fr h Q} := @opsW_unf E fr h Q _ _ r83_21.eq_1
def s83_22 : GC := .seq (.ops r83_21) s83_20
def s83_22_w {E nt rd fr h Q} := @wp_unf E nt rd fr h Q _ _ s83_22.eq_1
def s83_23 : GC := .seq (s83_22) s83_17
def s83_23_w {E nt rd fr h Q} := @wp_unf E nt rd fr h Q _ _ s83_23.eq_1
def r83_24 : List GO := [⟨none, some 20, .move (.tmp 0)⟩,
  ⟨none, some 21, .convert 2 23 (.tmp 20)⟩,
  ⟨none, some 6, .assign (.tmp 21)⟩]
def r83_24_w {E fr h Q} := @opsW_unf E fr h Q _ _ r83_24.eq_1
def s83_25 : GC := .seq (.ops r83_24) s83_23
def s83_25_w {E nt rd fr h Q} := @wp_unf E nt rd fr h Q _ _ s83_25.eq_1
def r83_26 : List GO := [⟨none, some 5, .alloc 99⟩]
def r83_26_w {E fr h Q} := @opsW_unf E fr h Q _ _ r83_26.eq_1
def s83_27 : GC := .seq (.ops r83_26) s83_25
def s83_27_w {E nt rd fr h Q} := @wp_unf E nt rd fr h Q _ _ s83_27.eq_1
def r83_28 : List GO := [⟨none, some 18, .move (.tmp 0)⟩,
  ⟨none, some 19, .call ⟨.value (.func 84), ⟨[.tmp 18]⟩, ⟨[3]⟩⟩⟩,
  ⟨none, some 4, .assign (.tmp 19)⟩]
def r83_28_w {E fr h Q} := @opsW_unf E fr h Q _ _ r83_28.eq_1
def s83_29 : GC := .seq (.ops r83_28) .ret
def s83_29_w {E nt rd fr h Q} := @wp_unf E nt rd fr h Q _ _ s83_29.eq_1
def s83_30 : GC := .cond (.tmp 17) s83_29 .skip
def s83_30_w {E nt rd fr h Q} := @wp_unf E nt rd fr h Q _ _ s83_30.eq_1
def r83_31 : List GO := [⟨none, some 12, .move (.tmp 0)⟩,
  ⟨none, some 13, .binOp .leq 2 (.const (.int .i64 0)) (.tmp 12) 2⟩,
  ⟨none, some 14, .move (.tmp 13)⟩,
  ⟨some (14, true), some 15, .move (.tmp 0)⟩,
  ⟨some (14, true), some 16, .binOp .lss 2 (.tmp 15) (.const (.int .i64 100)) 2⟩,
  ⟨none, some 17, .pick (.tmp 14) (.tmp 16) (.const (.bool false))⟩]
def r83_31_w {E fr h Q} := @opsW_unf E fr h Q _ _ r83_31.eq_1
def s83_32 : GC := .seq (.ops r83_31) s83_30
def s83_32_w {E nt rd fr h Q} := @wp_unf E nt rd fr h Q _ _ s83_32.eq_1
def s83_33 : GC := .seq (s83_32) s83_27
def s83_33_w {E nt rd fr h Q} := @wp_unf E nt rd fr h Q _ _ s83_33.eq_1
def s83_34 : GC := .cond (.tmp 11) s83_33 .skip
def s83_34_w {E nt rd fr h Q} := @wp_unf E nt rd fr h Q _ _ s83_34.eq_1
def r83_35 : List GO := [⟨none, some 10, .move (.tmp 1)⟩,
  ⟨none, some 11, .binOp .eql 3 (.tmp 10) (.const (.int .i64 10)) 3⟩]
def r83_35_w {E fr h Q} := @opsW_unf E fr h Q _ _ r83_35.eq_1
def s83_36 : GC := .seq (.ops r83_35) s83_34
def s83_36_w {E nt rd fr h Q} := @wp_unf E nt rd fr h Q _ _ s83_36.eq_1
def s83_37 : GC := .seq (s83_36) s83_3
def s83_37_w {E nt rd fr h Q} := @wp_unf E nt rd fr h Q _ _ s83_37.eq_1
def r83_38 : List GO := [⟨none, some 4, .assign (.const (.string ⟨⟨[]⟩⟩))⟩]
def r83_38_w {E fr h Q} := @opsW_unf E fr h Q _ _ r83_38.eq_1
def s83_39 : GC := .seq (.ops r83_38) s83_37
def s83_39_w {E nt rd fr h Q} := @wp_unf E nt rd fr h Q _ _ s83_39.eq_1
theorem c83 : Tryd.f83.body.bind (clean env 54) = some s83_39 := by kernel_rfl
theorem e83 : env.funs.get 83 = some Tryd.f83 := by kernel_rfl
theorem F83 {args : List Value} {h : Heap} {K : Value → Heap → Prop} (hl : args.length = 2) (w : s83_39.wp env 54 none (setAll args 0 .leaf) h (resK env [.tmp 4] K)) : Ret env (.func 83) args h K :=
  Ret.of_body' rfl e83 c83 rfl rfl (by rw [hl]; decide) w
/-! internal/strconv.numDigits -/
def r85_0 : List GO := [⟨none, some 7, .move (.tmp 3)⟩,
  ⟨none, some 8, .move (.tmp 0)⟩,
  ⟨none, some 9, .move (.tmp 3)⟩,
  ⟨none, some 10, .indexAddr 117 (.global 2) (.tmp 9)⟩,
  ⟨none, some 11, .load 23 (.tmp 10)⟩,
  ⟨none, some 12, .binOp .geq 23 (.tmp 8) (.tmp 11) 23⟩,
  ⟨none, some 13, .call ⟨.value (.func 104), ⟨[.tmp 12]⟩, ⟨[4]⟩⟩⟩,
  ⟨none, some 14, .binOp .add 3 (.tmp 7) (.tmp 13) 3⟩,
  ⟨none, some 2, .assign (.tmp 14)⟩]
def r85_0_w {E fr h Q} := @opsW_unf E fr h Q _ _ r85_0.eq_1
def s85_1 : GC := .seq (.ops r85_0) .ret
def s85_1_w {E nt rd fr h Q} := @wp_unf E nt rd fr h Q _ _ s85_1.eq_1
def r85_2 : List GO := [⟨none, some 4, .move (.tmp 0)⟩,
  ⟨none, some 5, .call ⟨.value (.func 103), ⟨[.tmp 4]⟩, ⟨[23]⟩⟩⟩,
  ⟨none, some 6, .call ⟨.value (.func 102), ⟨[.tmp 5]⟩, ⟨[3]⟩⟩⟩,
  ⟨none, some 3, .assign (.tmp 6)⟩]
def r85_2_w {E fr h Q} := @opsW_unf E fr h Q _ _ r85_2.eq_1
def s85_3 : GC := .seq (.ops r85_2) s85_1
def s85_3_w {E nt rd fr h Q} := @wp_unf E nt rd fr h Q _ _ s85_3.eq_1
def r85_4 : List GO := [⟨none, some 2, .assign (.const (.int .i64 0))⟩]
def r85_4_w {E fr h Q} := @opsW_unf E fr h Q _ _ r85_4.eq_1
def s85_5 : GC := .seq (.ops r85_4) s85_3
def s85_5_w {E nt rd fr h Q} := @wp_unf E nt rd fr h Q _ _ s85_5.eq_1
theorem c85 : Tryd.f85.body.bind (clean env 15) = some s85_5 := by kernel_rfl
theorem e85 : env.funs.get 85 = some Tryd.f85 := by kernel_rfl
theorem F85 {args : List Value} {h : Heap} {K : Value → Heap → Prop} (hl : args.length = 1) (w : s85_5.wp env 15 none (setAll args 0 .leaf) h (resK env [.tmp 2] K)) : Ret env (.func 85) args h K :=
  Ret.of_body' rfl e85 c85 rfl rfl (by rw [hl]; decide) w
/-! math.Abs -/
def r90_0 : List GO := [⟨none, some 3, .move (.tmp 0)⟩,
  ⟨none, some 4, .call ⟨.value (.func 18), ⟨[.tmp 3]⟩, ⟨[27]⟩⟩⟩,
  ⟨none, some 5, .binOp .andNot 23 (.tmp 4) (.const (.int .u64 9223372036854775808)) 23⟩,
  ⟨none, some 6, .call ⟨.value (.func 10), ⟨[.tmp 5]⟩, ⟨[23]⟩⟩⟩,
  ⟨none, some 2, .assign (.tmp 6)⟩]
def r90_0_w {E fr h Q} := @opsW_unf E fr h Q _ _ r90_0.eq_1
def s90_1 : GC := .seq (.ops r90_0) .ret
def s90_1_w {E nt rd fr h Q} := @wp_unf E nt rd fr h Q _ _ s90_1.eq_1
def r90_2 : List GO := [⟨none, some 2, .assign (.const (.float .f64 0))⟩]
def r90_2_w {E fr h Q} := @opsW_unf E fr h Q _ _ r90_2.eq_1
def s90_3 : GC := .seq (.ops r90_2) s90_1
def s90_3_w {E nt rd fr h Q} := @wp_unf E nt rd fr h Q _ _ s90_3.eq_1
theorem c90 : Tryd.f90.body.bind (clean env 7) = some s90_3 := by kernel_rfl
theorem e90 : env.funs.get 90 = some Tryd.f90 := by kernel_rfl
theorem F90 {args : List Value} {h : Heap} {K : Value → Heap → Prop} (hl : args.length = 1) (w : s90_3.wp env 7 none (setAll args 0 .leaf) h (resK env [.tmp 2] K)) : Ret env (.func 90) args h K :=
  Ret.of_body' rfl e90 c90 rfl rfl (by rw [hl]; decide) w
/-! math.normalize -/
def r100_0 : List GO := [⟨none, some 9, .move (.tmp 0)⟩,
  ⟨none, some 2, .assign (.tmp 9)⟩,
  ⟨none, some 3, .assign (.const (.int .i64 0))⟩]
def r100_0_w {E fr h Q} := @opsW_unf E fr h Q _ _ r100_0.eq_1
def s100_1 : GC := .seq (.ops r100_0) .ret
def s100_1_w {E nt rd fr h Q} := @wp_unf E nt rd fr h Q _ _ s100_1.eq_1
def r100_2 : List GO := [⟨none, some 7, .move (.tmp 0)⟩,
  ⟨none, some 8, .binOp .mul 27 (.tmp 7) (.const (.float .f64 4841369599423283200)) 27⟩,
  ⟨none, some 2, .assign (.tmp 8)⟩,
  ⟨none, some 3, .assign (.const (.int .i64 (-52)))⟩]
def r100_2_w {E fr h Q} := @opsW_unf E fr h Q _ _ r100_2.eq_1
def s100_3 : GC := .seq (.ops r100_2) .ret
def s100_3_w {E nt rd fr h Q} := @wp_unf E nt rd fr h Q _ _ s100_3.eq_1
def s100_4 : GC := .cond (.tmp 6) s100_3 .skip
def s100_4_w {E nt rd fr h Q} := @wp_unf E nt rd fr h Q _ _ s100_4.eq_1
def r100_5 : List GO := [⟨none, some 4, .move (.tmp 0)⟩,
  ⟨none, some 5, .call ⟨.value (.func 90), ⟨[.tmp 4]⟩, ⟨[27]⟩⟩⟩,
  ⟨none, some 6, .binOp .lss 27 (.tmp 5) (.const (.float .f64 4503599627370496)) 27⟩]
def r100_5_w {E fr h Q} := @opsW_unf E fr h Q _ _ r100_5.eq_1
def s100_6 : GC := .seq (.ops r100_5) s100_4
def s100_6_w {E nt rd fr h Q} := @wp_unf E nt rd fr h Q _ _ s100_6.eq_1
def s100_7 : GC := .seq (s100_6) s100_1
def s100_7_w {E nt rd fr h Q} := @wp_unf E nt rd fr h Q _ _ s100_7.eq_1
def r100_8 : List GO := [⟨none, some 2, .assign (.const (.float .f64 0))⟩,
  ⟨none, some 3, .assign (.const (.int .i64 0))⟩]
def r100_8_w {E fr h Q} := @opsW_unf E fr h Q _ _ r100_8.eq_1
def s100_9 : GC := .seq (.ops r100_8) s100_7
def s100_9_w {E nt rd fr h Q} := @wp_unf E nt rd fr h Q _ _ s100_9.eq_1
theorem c100 : Tryd.f100.body.bind (clean env 10) = some s100_9 := by kernel_rfl
theorem e100 : env.funs.get 100 = some Tryd.f100 := by kernel_rfl
theorem F100 {args : List Value} {h : Heap} {K : Value → Heap → Prop} (hl : args.length = 1) (w : s100_9.wp env 10 none (setAll args 0 .leaf) h (resK env [.tmp 2, .tmp 3] K)) : Ret env (.func 100) args h K :=
  Ret.of_body' rfl e100 c100 rfl rfl (by rw [hl]; decide) w
/-! internal/strconv.log10Pow2 -/
def r102_0 : List GO := [⟨none, some 3, .move (.tmp 0)⟩,
  ⟨none, some 4, .binOp .mul 3 (.tmp 3) (.const (.int .i64 78913)) 3⟩,
  ⟨none, some 5, .binOp .shr 3 (.tmp 4) (.const (.int .u64 18)) 69⟩,
  ⟨none, some 2, .assign (.tmp 5)⟩]
def r102_0_w {E fr h Q} := @opsW_unf E fr h Q _ _ r102_0.eq_1
def s102_1 : GC := .seq (.ops r102_0) .ret
def s102_1_w {E nt rd fr h Q} := @wp_unf E nt rd fr h Q _ _ s102_1.eq_1
def r102_2 : List GO := [⟨none, some 2, .assign (.const (.int .i64 0))⟩]
def r102_2_w {E fr h Q} := @opsW_unf E fr h Q _ _ r102_2.eq_1
def s102_3 : GC := .seq (.ops r102_2) s102_1
def s102_3_w {E nt rd fr h Q} := @wp_unf E nt rd fr h Q _ _ s102_3.eq_1
theorem c102 : Tryd.f102.body.bind (clean env 6) = some s102_3 := by kernel_rfl
theorem e102 : env.funs.get 102 = some Tryd.f102 := by kernel_rfl
theorem F102 {args : List Value} {h : Heap} {K : Value → Heap → Prop} (hl : args.length = 1) (w : s102_3.wp env 6 none (setAll args 0 .leaf) h (resK env [.tmp 2] K)) : Ret env (.func 102) args h K :=
  Ret.of_body' rfl e102 c102 rfl rfl (by rw [hl]; decide) w
/-! internal/strconv.bool2[int] -/
def r104_0 : List GO := [⟨none, some 2, .assign (.const (.int .i64 0))⟩]
def r104_0_w {E fr h Q} := @opsW_unf E fr h Q _ _ r104_0.eq_1
def s104_1 : GC := .seq (.ops r104_0) .ret
def s104_1_w {E nt rd fr h Q} := @wp_unf E nt rd fr h Q _ _ s104_1.eq_1
def r104_2 : List GO := [⟨none, some 2, .assign (.const (.int .i64 1))⟩]
def r104_2_w {E fr h Q} := @opsW_unf E fr h Q _ _ r104_2.eq_1
def s104_3 : GC := .seq (.ops r104_2) .ret
def s104_3_w {E nt rd fr h Q} := @wp_unf E nt rd fr h Q _ _ s104_3.eq_1
def s104_4 : GC := .cond (.tmp 3) s104_3 .skip
def s104_4_w {E nt rd fr h Q} := @wp_unf E nt rd fr h Q _ _ s104_4.eq_1
def r104_5 : List GO := [⟨none, some 3, .move (.tmp 0)⟩]
def r104_5_w {E fr h Q} := @opsW_unf E fr h Q _ _ r104_5.eq_1
def s104_6 : GC := .seq (.ops r104_5) s104_4
def s104_6_w {E nt rd fr h Q} := @wp_unf E nt rd fr h Q _ _ s104_6.eq_1
def s104_7 : GC := .seq (s104_6) s104_1
def s104_7_w {E nt rd fr h Q} := @wp_unf E nt rd fr h Q _ _ s104_7.eq_1
def r104_8 : List GO := [⟨none, some 2, .assign (.const (.int .i64 0))⟩]
def r104_8_w {E fr h Q} := @opsW_unf E fr h Q _ _ r104_8.eq_1
def s104_9 : GC := .seq (.ops r104_8) s104_7
def s104_9_w {E nt rd fr h Q} := @wp_unf E nt rd fr h Q _ _ s104_9.eq_1
theorem c104 : Tryd.f104.body.bind (clean env 4) = some s104_9 := by kernel_rfl
theorem e104 : env.funs.get 104 = some Tryd.f104 := by kernel_rfl
theorem F104 {args : List Value} {h : Heap} {K : Value → Heap → Prop} (hl : args.length = 1) (w : s104_9.wp env 4 none (setAll args 0 .leaf) h (resK env [.tmp 2] K)) : Ret env (.func 104) args h K :=
  Ret.of_body' rfl e104 c104 rfl rfl (by rw [hl]; decide) w

end Go.Proofs.YtjcmcoabckkjoaaDoor.Li

namespace Go.Proofs.YtjcmcoabckkjoaaDoor.Li
open Go.Ev
set_option maxRecDepth 100000
set_option linter.defProp false
/-! helmsman/helmsmanlaw31.ShareReads -/
def r7_0 : List GO := [⟨none, some 21, .move (.tmp 4)⟩,
  ⟨none, some 22, .move (.tmp 6)⟩,
  ⟨none, some 23, .binOp .eql 3 (.tmp 21) (.tmp 22) 3⟩,
  ⟨none, some 24, .move (.tmp 23)⟩,
  ⟨some (24, true), some 25, .move (.tmp 3)⟩,
  ⟨some (24, true), some 26, .move (.tmp 5)⟩,
  ⟨some (24, true), some 27, .call ⟨.value (.func 12), ⟨[.tmp 25, .tmp 26]⟩, ⟨[27, 27]⟩⟩⟩,
  ⟨none, some 28, .pick (.tmp 24) (.tmp 27) (.const (.bool false))⟩,
  ⟨none, some 29, .move (.tmp 28)⟩,
  ⟨some (29, true), some 30, .move (.tmp 4)⟩,
  ⟨some (29, true), some 31, .binOp .neq 50 (.tmp 30) (.const (.int .i64 0)) 50⟩,
  ⟨some (29, true), some 32, .move (.tmp 31)⟩,
  ⟨some (32, false), some 33, .move (.tmp 3)⟩,
  ⟨some (32, false), some 34, .call ⟨.value (.func 36), ⟨[.tmp 33]⟩, ⟨[27]⟩⟩⟩,
  ⟨some (32, false), some 35, .move (.tmp 0)⟩,
  ⟨some (32, false), some 36, .binOp .eql 9 (.tmp 34) (.tmp 35) 9⟩,
  ⟨some (29, true), some 37, .pick (.tmp 32) (.const (.bool true)) (.tmp 36)⟩,
  ⟨none, some 38, .pick (.tmp 29) (.tmp 37) (.const (.bool false))⟩,
  ⟨none, some 39, .move (.tmp 38)⟩,
  ⟨some (39, true), some 40, .call ⟨.value (.func 8), ⟨[]⟩, ⟨[]⟩⟩⟩,
  ⟨none, some 41, .pick (.tmp 39) (.tmp 40) (.const (.bool false))⟩,
  ⟨none, some 2, .assign (.tmp 41)⟩]
def r7_0_w {E fr h Q} := @opsW_unf E fr h Q _ _ r7_0.eq_1
def s7_1 : GC := .seq (.ops r7_0) .ret
def s7_1_w {E nt rd fr h Q} := @wp_unf E nt rd fr h Q _ _ s7_1.eq_1
def r7_2 : List GO := [⟨none, some 17, .move (.tmp 0)⟩,
  ⟨none, some 18, .call ⟨.value (.func 37), ⟨[.tmp 17]⟩, ⟨[9]⟩⟩⟩,
  ⟨none, some 16, .move (.tmp 18)⟩,
  ⟨none, some 19, .extract (.tmp 16) 0⟩,
  ⟨none, some 20, .extract (.tmp 16) 1⟩,
  ⟨none, some 5, .assign (.tmp 19)⟩,
  ⟨none, some 6, .assign (.tmp 20)⟩]
def r7_2_w {E fr h Q} := @opsW_unf E fr h Q _ _ r7_2.eq_1
def s7_3 : GC := .seq (.ops r7_2) s7_1
def s7_3_w {E nt rd fr h Q} := @wp_unf E nt rd fr h Q _ _ s7_3.eq_1
def r7_4 : List GO := [⟨none, some 12, .move (.tmp 0)⟩,
  ⟨none, some 13, .call ⟨.value (.func 35), ⟨[.tmp 12]⟩, ⟨[9]⟩⟩⟩,
  ⟨none, some 11, .move (.tmp 13)⟩,
  ⟨none, some 14, .extract (.tmp 11) 0⟩,
  ⟨none, some 15, .extract (.tmp 11) 1⟩,
  ⟨none, some 3, .assign (.tmp 14)⟩,
  ⟨none, some 4, .assign (.tmp 15)⟩]
def r7_4_w {E fr h Q} := @opsW_unf E fr h Q _ _ r7_4.eq_1
def s7_5 : GC := .seq (.ops r7_4) s7_3
def s7_5_w {E nt rd fr h Q} := @wp_unf E nt rd fr h Q _ _ s7_5.eq_1
def r7_6 : List GO := [⟨none, some 10, .call ⟨.value (.func 8), ⟨[]⟩, ⟨[]⟩⟩⟩,
  ⟨none, some 2, .assign (.tmp 10)⟩]
def r7_6_w {E fr h Q} := @opsW_unf E fr h Q _ _ r7_6.eq_1
def s7_7 : GC := .seq (.ops r7_6) .ret
def s7_7_w {E nt rd fr h Q} := @wp_unf E nt rd fr h Q _ _ s7_7.eq_1
def s7_8 : GC := .cond (.tmp 9) s7_7 .skip
def s7_8_w {E nt rd fr h Q} := @wp_unf E nt rd fr h Q _ _ s7_8.eq_1
def r7_9 : List GO := [⟨none, some 7, .move (.tmp 0)⟩,
  ⟨none, some 8, .call ⟨.builtin .len, ⟨[.tmp 7]⟩, ⟨[9]⟩⟩⟩,
  ⟨none, some 9, .binOp .gtr 3 (.tmp 8) (.const (.int .i64 60)) 3⟩]
def r7_9_w {E fr h Q} := @opsW_unf E fr h Q _ _ r7_9.eq_1
def s7_10 : GC := .seq (.ops r7_9) s7_8
def s7_10_w {E nt rd fr h Q} := @wp_unf E nt rd fr h Q _ _ s7_10.eq_1
def s7_11 : GC := .seq (s7_10) s7_5
def s7_11_w {E nt rd fr h Q} := @wp_unf E nt rd fr h Q _ _ s7_11.eq_1
def r7_12 : List GO := [⟨none, some 2, .assign (.const (.bool false))⟩]
def r7_12_w {E fr h Q} := @opsW_unf E fr h Q _ _ r7_12.eq_1
def s7_13 : GC := .seq (.ops r7_12) s7_11
def s7_13_w {E nt rd fr h Q} := @wp_unf E nt rd fr h Q _ _ s7_13.eq_1
theorem c7 : Tryd.f7.body.bind (clean env 42) = some s7_13 := by kernel_rfl
theorem e7 : env.funs.get 7 = some Tryd.f7 := by kernel_rfl
theorem F7 {args : List Value} {h : Heap} {K : Value → Heap → Prop} (hl : args.length = 1) (w : s7_13.wp env 42 none (setAll args 0 .leaf) h (resK env [.tmp 2] K)) : Ret env (.func 7) args h K :=
  Ret.of_body' rfl e7 c7 rfl rfl (by rw [hl]; decide) w
/-! helmsman/helmsmanref31.Of -/
def r37_0 : List GO := [⟨none, some 159, .move (.tmp 5)⟩,
  ⟨none, some 160, .move (.tmp 15)⟩,
  ⟨none, some 161, .binOp .add 3 (.tmp 160) (.const (.int .i64 1023)) 3⟩,
  ⟨none, some 162, .convert 3 23 (.tmp 161)⟩,
  ⟨none, some 163, .binOp .mul 23 (.tmp 162) (.const (.int .u64 4503599627370496)) 23⟩,
  ⟨none, some 164, .binOp .add 23 (.tmp 159) (.tmp 163) 23⟩,
  ⟨none, some 165, .move (.tmp 6)⟩,
  ⟨none, some 166, .binOp .add 23 (.tmp 164) (.tmp 165) 23⟩,
  ⟨none, some 167, .binOp .sub 23 (.tmp 166) (.const (.int .u64 4503599627370496)) 23⟩,
  ⟨none, some 168, .call ⟨.value (.func 10), ⟨[.tmp 167]⟩, ⟨[23]⟩⟩⟩,
  ⟨none, some 2, .assign (.tmp 168)⟩,
  ⟨none, some 3, .assign (.const (.int .i64 0))⟩]
def r37_0_w {E fr h Q} := @opsW_unf E fr h Q _ _ r37_0.eq_1
def s37_1 : GC := .seq (.ops r37_0) .ret
def s37_1_w {E nt rd fr h Q} := @wp_unf E nt rd fr h Q _ _ s37_1.eq_1
def r37_2 : List GO := [⟨none, some 155, .move (.tmp 17)⟩,
  ⟨none, some 156, .binOp .add 3 (.tmp 155) (.const (.int .i64 1)) 3⟩,
  ⟨none, some 17, .assign (.tmp 156)⟩]
def r37_2_w {E fr h Q} := @opsW_unf E fr h Q _ _ r37_2.eq_1
def s37_3 : GC := .ops r37_2
def s37_3_w {E nt rd fr h Q} := @wp_unf E nt rd fr h Q _ _ s37_3.eq_1
def r37_4 : List GO := [⟨none, some 157, .move (.tmp 6)⟩,
  ⟨none, some 158, .binOp .mul 23 (.const (.int .u64 2)) (.tmp 157) 23⟩,
  ⟨none, some 6, .assign (.tmp 158)⟩]
def r37_4_w {E fr h Q} := @opsW_unf E fr h Q _ _ r37_4.eq_1
def s37_5 : GC := .ops r37_4
def s37_5_w {E nt rd fr h Q} := @wp_unf E nt rd fr h Q _ _ s37_5.eq_1
def s37_6 : GC := .seq (.block 5 s37_5) s37_3
def s37_6_w {E nt rd fr h Q} := @wp_unf E nt rd fr h Q _ _ s37_6.eq_1
def s37_7 : GC := .cond (.tmp 154) .skip (.exit 4)
def s37_7_w {E nt rd fr h Q} := @wp_unf E nt rd fr h Q _ _ s37_7.eq_1
def r37_8 : List GO := [⟨none, some 153, .move (.tmp 17)⟩,
  ⟨none, some 154, .binOp .lss 3 (.tmp 153) (.const (.int .i64 53)) 3⟩]
def r37_8_w {E fr h Q} := @opsW_unf E fr h Q _ _ r37_8.eq_1
def s37_9 : GC := .seq (.ops r37_8) s37_7
def s37_9_w {E nt rd fr h Q} := @wp_unf E nt rd fr h Q _ _ s37_9.eq_1
def s37_10 : GC := .seq (s37_9) s37_6
def s37_10_w {E nt rd fr h Q} := @wp_unf E nt rd fr h Q _ _ s37_10.eq_1
def s37_11 : GC := .loop s37_10
def s37_11_w {E nt rd fr h Q} := @wp_unf E nt rd fr h Q _ _ s37_11.eq_1
def s37_12 : GC := .block 4 s37_11
def s37_12_w {E nt rd fr h Q} := @wp_unf E nt rd fr h Q _ _ s37_12.eq_1
def r37_13 : List GO := [⟨none, some 152, .move (.tmp 13)⟩,
  ⟨none, some 17, .assign (.tmp 152)⟩]
def r37_13_w {E fr h Q} := @opsW_unf E fr h Q _ _ r37_13.eq_1
def s37_14 : GC := .seq (.ops r37_13) s37_12
def s37_14_w {E nt rd fr h Q} := @wp_unf E nt rd fr h Q _ _ s37_14.eq_1
def s37_15 : GC := .seq (s37_14) s37_1
def s37_15_w {E nt rd fr h Q} := @wp_unf E nt rd fr h Q _ _ s37_15.eq_1
def r37_16 : List GO := [⟨none, some 148, .move (.tmp 5)⟩,
  ⟨none, some 149, .move (.tmp 6)⟩,
  ⟨none, some 150, .binOp .add 23 (.tmp 148) (.tmp 149) 23⟩,
  ⟨none, some 151, .call ⟨.value (.func 10), ⟨[.tmp 150]⟩, ⟨[23]⟩⟩⟩,
  ⟨none, some 2, .assign (.tmp 151)⟩,
  ⟨none, some 3, .assign (.const (.int .i64 0))⟩]
def r37_16_w {E fr h Q} := @opsW_unf E fr h Q _ _ r37_16.eq_1
def s37_17 : GC := .seq (.ops r37_16) .ret
def s37_17_w {E nt rd fr h Q} := @wp_unf E nt rd fr h Q _ _ s37_17.eq_1
def r37_18 : List GO := [⟨none, some 144, .move (.tmp 16)⟩,
  ⟨none, some 145, .binOp .add 3 (.tmp 144) (.const (.int .i64 1)) 3⟩,
  ⟨none, some 16, .assign (.tmp 145)⟩]
def r37_18_w {E fr h Q} := @opsW_unf E fr h Q _ _ r37_18.eq_1
def s37_19 : GC := .ops r37_18
def s37_19_w {E nt rd fr h Q} := @wp_unf E nt rd fr h Q _ _ s37_19.eq_1
def r37_20 : List GO := [⟨none, some 146, .move (.tmp 6)⟩,
  ⟨none, some 147, .binOp .mul 23 (.const (.int .u64 2)) (.tmp 146) 23⟩,
  ⟨none, some 6, .assign (.tmp 147)⟩]
def r37_20_w {E fr h Q} := @opsW_unf E fr h Q _ _ r37_20.eq_1
def s37_21 : GC := .ops r37_20
def s37_21_w {E nt rd fr h Q} := @wp_unf E nt rd fr h Q _ _ s37_21.eq_1
def s37_22 : GC := .seq (.block 3 s37_21) s37_19
def s37_22_w {E nt rd fr h Q} := @wp_unf E nt rd fr h Q _ _ s37_22.eq_1
def s37_23 : GC := .cond (.tmp 143) .skip (.exit 2)
def s37_23_w {E nt rd fr h Q} := @wp_unf E nt rd fr h Q _ _ s37_23.eq_1
def r37_24 : List GO := [⟨none, some 141, .move (.tmp 16)⟩,
  ⟨none, some 142, .move (.tmp 9)⟩,
  ⟨none, some 143, .binOp .lss 3 (.tmp 141) (.tmp 142) 3⟩]
def r37_24_w {E fr h Q} := @opsW_unf E fr h Q _ _ r37_24.eq_1
def s37_25 : GC := .seq (.ops r37_24) s37_23
def s37_25_w {E nt rd fr h Q} := @wp_unf E nt rd fr h Q _ _ s37_25.eq_1
def s37_26 : GC := .seq (s37_25) s37_22
def s37_26_w {E nt rd fr h Q} := @wp_unf E nt rd fr h Q _ _ s37_26.eq_1
def s37_27 : GC := .loop s37_26
def s37_27_w {E nt rd fr h Q} := @wp_unf E nt rd fr h Q _ _ s37_27.eq_1
def s37_28 : GC := .block 2 s37_27
def s37_28_w {E nt rd fr h Q} := @wp_unf E nt rd fr h Q _ _ s37_28.eq_1
def r37_29 : List GO := [⟨none, some 16, .assign (.const (.int .i64 (-1074)))⟩]
def r37_29_w {E fr h Q} := @opsW_unf E fr h Q _ _ r37_29.eq_1
def s37_30 : GC := .seq (.ops r37_29) s37_28
def s37_30_w {E nt rd fr h Q} := @wp_unf E nt rd fr h Q _ _ s37_30.eq_1
def s37_31 : GC := .seq (s37_30) s37_17
def s37_31_w {E nt rd fr h Q} := @wp_unf E nt rd fr h Q _ _ s37_31.eq_1
def s37_32 : GC := .cond (.tmp 140) s37_31 .skip
def s37_32_w {E nt rd fr h Q} := @wp_unf E nt rd fr h Q _ _ s37_32.eq_1
def r37_33 : List GO := [⟨none, some 139, .move (.tmp 15)⟩,
  ⟨none, some 140, .binOp .lss 3 (.tmp 139) (.const (.int .i64 (-1022))) 3⟩]
def r37_33_w {E fr h Q} := @opsW_unf E fr h Q _ _ r37_33.eq_1
def s37_34 : GC := .seq (.ops r37_33) s37_32
def s37_34_w {E nt rd fr h Q} := @wp_unf E nt rd fr h Q _ _ s37_34.eq_1
def s37_35 : GC := .seq (s37_34) s37_15
def s37_35_w {E nt rd fr h Q} := @wp_unf E nt rd fr h Q _ _ s37_35.eq_1
def r37_36 : List GO := [⟨none, some 2, .assign (.const (.float .f64 0))⟩,
  ⟨none, some 3, .assign (.const (.int .i64 16))⟩]
def r37_36_w {E fr h Q} := @opsW_unf E fr h Q _ _ r37_36.eq_1
def s37_37 : GC := .seq (.ops r37_36) .ret
def s37_37_w {E nt rd fr h Q} := @wp_unf E nt rd fr h Q _ _ s37_37.eq_1
def s37_38 : GC := .cond (.tmp 138) s37_37 .skip
def s37_38_w {E nt rd fr h Q} := @wp_unf E nt rd fr h Q _ _ s37_38.eq_1
def r37_39 : List GO := [⟨none, some 133, .move (.tmp 15)⟩,
  ⟨none, some 134, .binOp .gtr 3 (.tmp 133) (.const (.int .i64 1023)) 3⟩,
  ⟨none, some 135, .move (.tmp 134)⟩,
  ⟨some (135, false), some 136, .move (.tmp 9)⟩,
  ⟨some (135, false), some 137, .binOp .lss 3 (.tmp 136) (.const (.int .i64 (-1074))) 3⟩,
  ⟨none, some 138, .pick (.tmp 135) (.const (.bool true)) (.tmp 137)⟩]
def r37_39_w {E fr h Q} := @opsW_unf E fr h Q _ _ r37_39.eq_1
def s37_40 : GC := .seq (.ops r37_39) s37_38
def s37_40_w {E nt rd fr h Q} := @wp_unf E nt rd fr h Q _ _ s37_40.eq_1
def s37_41 : GC := .seq (s37_40) s37_35
def s37_41_w {E nt rd fr h Q} := @wp_unf E nt rd fr h Q _ _ s37_41.eq_1
def r37_42 : List GO := [⟨none, some 129, .move (.tmp 9)⟩,
  ⟨none, some 130, .move (.tmp 13)⟩,
  ⟨none, some 131, .binOp .add 3 (.tmp 129) (.tmp 130) 3⟩,
  ⟨none, some 132, .binOp .sub 3 (.tmp 131) (.const (.int .i64 1)) 3⟩,
  ⟨none, some 15, .assign (.tmp 132)⟩]
def r37_42_w {E fr h Q} := @opsW_unf E fr h Q _ _ r37_42.eq_1
def s37_43 : GC := .seq (.ops r37_42) s37_41
def s37_43_w {E nt rd fr h Q} := @wp_unf E nt rd fr h Q _ _ s37_43.eq_1
def r37_44 : List GO := [⟨none, some 125, .move (.tmp 14)⟩,
  ⟨none, some 126, .binOp .quo 23 (.tmp 125) (.const (.int .u64 2)) 23⟩,
  ⟨none, some 14, .assign (.tmp 126)⟩]
def r37_44_w {E fr h Q} := @opsW_unf E fr h Q _ _ r37_44.eq_1
def s37_45 : GC := .ops r37_44
def s37_45_w {E nt rd fr h Q} := @wp_unf E nt rd fr h Q _ _ s37_45.eq_1
def r37_46 : List GO := [⟨none, some 127, .move (.tmp 13)⟩,
  ⟨none, some 128, .binOp .add 3 (.tmp 127) (.const (.int .i64 1)) 3⟩,
  ⟨none, some 13, .assign (.tmp 128)⟩]
def r37_46_w {E fr h Q} := @opsW_unf E fr h Q _ _ r37_46.eq_1
def s37_47 : GC := .ops r37_46
def s37_47_w {E nt rd fr h Q} := @wp_unf E nt rd fr h Q _ _ s37_47.eq_1
def s37_48 : GC := .seq (.block 1 s37_47) s37_45
def s37_48_w {E nt rd fr h Q} := @wp_unf E nt rd fr h Q _ _ s37_48.eq_1
def s37_49 : GC := .cond (.tmp 124) .skip (.exit 0)
def s37_49_w {E nt rd fr h Q} := @wp_unf E nt rd fr h Q _ _ s37_49.eq_1
def r37_50 : List GO := [⟨none, some 123, .move (.tmp 14)⟩,
  ⟨none, some 124, .binOp .gtr 23 (.tmp 123) (.const (.int .u64 0)) 23⟩]
def r37_50_w {E fr h Q} := @opsW_unf E fr h Q _ _ r37_50.eq_1
def s37_51 : GC := .seq (.ops r37_50) s37_49
def s37_51_w {E nt rd fr h Q} := @wp_unf E nt rd fr h Q _ _ s37_51.eq_1
def s37_52 : GC := .seq (s37_51) s37_48
def s37_52_w {E nt rd fr h Q} := @wp_unf E nt rd fr h Q _ _ s37_52.eq_1
def s37_53 : GC := .loop s37_52
def s37_53_w {E nt rd fr h Q} := @wp_unf E nt rd fr h Q _ _ s37_53.eq_1
def s37_54 : GC := .block 0 s37_53
def s37_54_w {E nt rd fr h Q} := @wp_unf E nt rd fr h Q _ _ s37_54.eq_1
def r37_55 : List GO := [⟨none, some 122, .move (.tmp 6)⟩,
  ⟨none, some 14, .assign (.tmp 122)⟩]
def r37_55_w {E fr h Q} := @opsW_unf E fr h Q _ _ r37_55.eq_1
def s37_56 : GC := .seq (.ops r37_55) s37_54
def s37_56_w {E nt rd fr h Q} := @wp_unf E nt rd fr h Q _ _ s37_56.eq_1
def s37_57 : GC := .seq (s37_56) s37_43
def s37_57_w {E nt rd fr h Q} := @wp_unf E nt rd fr h Q _ _ s37_57.eq_1
def r37_58 : List GO := [⟨none, some 13, .assign (.const (.int .i64 0))⟩]
def r37_58_w {E fr h Q} := @opsW_unf E fr h Q _ _ r37_58.eq_1
def s37_59 : GC := .seq (.ops r37_58) s37_57
def s37_59_w {E nt rd fr h Q} := @wp_unf E nt rd fr h Q _ _ s37_59.eq_1
def r37_60 : List GO := [⟨none, some 120, .move (.tmp 9)⟩,
  ⟨none, some 121, .unOp .neg 3 (.tmp 120)⟩,
  ⟨none, some 9, .assign (.tmp 121)⟩]
def r37_60_w {E fr h Q} := @opsW_unf E fr h Q _ _ r37_60.eq_1
def s37_61 : GC := .ops r37_60
def s37_61_w {E nt rd fr h Q} := @wp_unf E nt rd fr h Q _ _ s37_61.eq_1
def s37_62 : GC := .cond (.tmp 119) s37_61 .skip
def s37_62_w {E nt rd fr h Q} := @wp_unf E nt rd fr h Q _ _ s37_62.eq_1
def r37_63 : List GO := [⟨none, some 116, .move (.tmp 0)⟩,
  ⟨none, some 117, .move (.tmp 7)⟩,
  ⟨none, some 118, .index 9 (.tmp 116) (.tmp 117)⟩,
  ⟨none, some 119, .binOp .eql 5 (.tmp 118) (.const (.int .u8 47)) 5⟩]
def r37_63_w {E fr h Q} := @opsW_unf E fr h Q _ _ r37_63.eq_1
def s37_64 : GC := .seq (.ops r37_63) s37_62
def s37_64_w {E nt rd fr h Q} := @wp_unf E nt rd fr h Q _ _ s37_64.eq_1
def r37_65 : List GO := [⟨none, some 114, .move (.tmp 10)⟩,
  ⟨none, some 115, .convert 23 3 (.tmp 114)⟩,
  ⟨none, some 9, .assign (.tmp 115)⟩]
def r37_65_w {E fr h Q} := @opsW_unf E fr h Q _ _ r37_65.eq_1
def s37_66 : GC := .seq (.ops r37_65) s37_64
def s37_66_w {E nt rd fr h Q} := @wp_unf E nt rd fr h Q _ _ s37_66.eq_1
def r37_67 : List GO := [⟨none, some 2, .assign (.const (.float .f64 0))⟩,
  ⟨none, some 3, .assign (.const (.int .i64 16))⟩]
def r37_67_w {E fr h Q} := @opsW_unf E fr h Q _ _ r37_67.eq_1
def s37_68 : GC := .seq (.ops r37_67) .ret
def s37_68_w {E nt rd fr h Q} := @wp_unf E nt rd fr h Q _ _ s37_68.eq_1
def s37_69 : GC := .cond (.tmp 113) s37_68 .skip
def s37_69_w {E nt rd fr h Q} := @wp_unf E nt rd fr h Q _ _ s37_69.eq_1
def r37_70 : List GO := [⟨none, some 98, .move (.tmp 12)⟩,
  ⟨none, some 99, .unOp .not 4 (.tmp 98)⟩,
  ⟨none, some 100, .move (.tmp 99)⟩,
  ⟨some (100, false), some 101, .move (.tmp 11)⟩,
  ⟨some (100, false), some 102, .move (.tmp 0)⟩,
  ⟨some (100, false), some 103, .call ⟨.builtin .len, ⟨[.tmp 102]⟩, ⟨[9]⟩⟩⟩,
  ⟨some (100, false), some 104, .binOp .neq 3 (.tmp 101) (.tmp 103) 3⟩,
  ⟨none, some 105, .pick (.tmp 100) (.const (.bool true)) (.tmp 104)⟩,
  ⟨none, some 106, .move (.tmp 105)⟩,
  ⟨some (106, false), some 107, .move (.tmp 10)⟩,
  ⟨some (106, false), some 108, .binOp .eql 23 (.tmp 107) (.const (.int .u64 0)) 23⟩,
  ⟨none, some 109, .pick (.tmp 106) (.const (.bool true)) (.tmp 108)⟩,
  ⟨none, some 110, .move (.tmp 109)⟩,
  ⟨some (110, false), some 111, .move (.tmp 10)⟩,
  ⟨some (110, false), some 112, .binOp .gtr 23 (.tmp 111) (.const (.int .u64 3000)) 23⟩,
  ⟨none, some 113, .pick (.tmp 110) (.const (.bool true)) (.tmp 112)⟩]
def r37_70_w {E fr h Q} := @opsW_unf E fr h Q _ _ r37_70.eq_1
def s37_71 : GC := .seq (.ops r37_70) s37_69
def s37_71_w {E nt rd fr h Q} := @wp_unf E nt rd fr h Q _ _ s37_71.eq_1
def s37_72 : GC := .seq (s37_71) s37_66
def s37_72_w {E nt rd fr h Q} := @wp_unf E nt rd fr h Q _ _ s37_72.eq_1
def r37_73 : List GO := [⟨none, some 91, .move (.tmp 0)⟩,
  ⟨none, some 92, .move (.tmp 7)⟩,
  ⟨none, some 93, .binOp .add 3 (.tmp 92) (.const (.int .i64 3)) 3⟩,
  ⟨none, some 94, .call ⟨.value (.func 61), ⟨[.tmp 91, .tmp 93]⟩, ⟨[9, 3]⟩⟩⟩,
  ⟨none, some 90, .move (.tmp 94)⟩,
  ⟨none, some 95, .extract (.tmp 90) 0⟩,
  ⟨none, some 96, .extract (.tmp 90) 1⟩,
  ⟨none, some 97, .extract (.tmp 90) 2⟩,
  ⟨none, some 10, .assign (.tmp 95)⟩,
  ⟨none, some 11, .assign (.tmp 96)⟩,
  ⟨none, some 12, .assign (.tmp 97)⟩]
def r37_73_w {E fr h Q} := @opsW_unf E fr h Q _ _ r37_73.eq_1
def s37_74 : GC := .seq (.ops r37_73) s37_72
def s37_74_w {E nt rd fr h Q} := @wp_unf E nt rd fr h Q _ _ s37_74.eq_1
def r37_75 : List GO := [⟨none, some 2, .assign (.const (.float .f64 0))⟩,
  ⟨none, some 3, .assign (.const (.int .i64 16))⟩]
def r37_75_w {E fr h Q} := @opsW_unf E fr h Q _ _ r37_75.eq_1
def s37_76 : GC := .seq (.ops r37_75) .ret
def s37_76_w {E nt rd fr h Q} := @wp_unf E nt rd fr h Q _ _ s37_76.eq_1
def s37_77 : GC := .cond (.tmp 89) s37_76 .skip
def s37_77_w {E nt rd fr h Q} := @wp_unf E nt rd fr h Q _ _ s37_77.eq_1
def r37_78 : List GO := [⟨none, some 64, .move (.tmp 0)⟩,
  ⟨none, some 65, .call ⟨.builtin .len, ⟨[.tmp 64]⟩, ⟨[9]⟩⟩⟩,
  ⟨none, some 66, .move (.tmp 7)⟩,
  ⟨none, some 67, .binOp .sub 3 (.tmp 65) (.tmp 66) 3⟩,
  ⟨none, some 68, .binOp .lss 3 (.tmp 67) (.const (.int .i64 4)) 3⟩,
  ⟨none, some 69, .move (.tmp 68)⟩,
  ⟨some (69, false), some 70, .move (.tmp 0)⟩,
  ⟨some (69, false), some 71, .move (.tmp 7)⟩,
  ⟨some (69, false), some 72, .binOp .add 3 (.tmp 71) (.const (.int .i64 1)) 3⟩,
  ⟨some (69, false), some 73, .move (.tmp 7)⟩,
  ⟨some (69, false), some 74, .binOp .add 3 (.tmp 73) (.const (.int .i64 3)) 3⟩,
  ⟨some (69, false), some 75, .slice 9 (.tmp 70) (some (.tmp 72)) (some (.tmp 74)) none⟩,
  ⟨some (69, false), some 76, .binOp .neq 9 (.tmp 75) (.const (.string ⟨⟨[50, 94]⟩⟩)) 9⟩,
  ⟨none, some 77, .pick (.tmp 69) (.const (.bool true)) (.tmp 76)⟩,
  ⟨none, some 78, .move (.tmp 77)⟩,
  ⟨some (78, false), some 79, .move (.tmp 0)⟩,
  ⟨some (78, false), some 80, .move (.tmp 7)⟩,
  ⟨some (78, false), some 81, .index 9 (.tmp 79) (.tmp 80)⟩,
  ⟨some (78, false), some 82, .binOp .neq 5 (.tmp 81) (.const (.int .u8 42)) 5⟩,
  ⟨some (78, false), some 83, .move (.tmp 82)⟩,
  ⟨some (83, true), some 84, .move (.tmp 0)⟩,
  ⟨some (83, true), some 85, .move (.tmp 7)⟩,
  ⟨some (83, true), some 86, .index 9 (.tmp 84) (.tmp 85)⟩,
  ⟨some (83, true), some 87, .binOp .neq 5 (.tmp 86) (.const (.int .u8 47)) 5⟩,
  ⟨some (78, false), some 88, .pick (.tmp 83) (.tmp 87) (.const (.bool false))⟩,
  ⟨none, some 89, .pick (.tmp 78) (.const (.bool true)) (.tmp 88)⟩]
def r37_78_w {E fr h Q} := @opsW_unf E fr h Q _ _ r37_78.eq_1
def s37_79 : GC := .seq (.ops r37_78) s37_77
def s37_79_w {E nt rd fr h Q} := @wp_unf E nt rd fr h Q _ _ s37_79.eq_1
def s37_80 : GC := .seq (s37_79) s37_74
def s37_80_w {E nt rd fr h Q} := @wp_unf E nt rd fr h Q _ _ s37_80.eq_1
def s37_81 : GC := .cond (.tmp 63) s37_80 .skip
def s37_81_w {E nt rd fr h Q} := @wp_unf E nt rd fr h Q _ _ s37_81.eq_1
def r37_82 : List GO := [⟨none, some 60, .move (.tmp 7)⟩,
  ⟨none, some 61, .move (.tmp 0)⟩,
  ⟨none, some 62, .call ⟨.builtin .len, ⟨[.tmp 61]⟩, ⟨[9]⟩⟩⟩,
  ⟨none, some 63, .binOp .lss 3 (.tmp 60) (.tmp 62) 3⟩]
def r37_82_w {E fr h Q} := @opsW_unf E fr h Q _ _ r37_82.eq_1
def s37_83 : GC := .seq (.ops r37_82) s37_81
def s37_83_w {E nt rd fr h Q} := @wp_unf E nt rd fr h Q _ _ s37_83.eq_1
def s37_84 : GC := .seq (s37_83) s37_59
def s37_84_w {E nt rd fr h Q} := @wp_unf E nt rd fr h Q _ _ s37_84.eq_1
def r37_85 : List GO := [⟨none, some 9, .assign (.const (.int .i64 0))⟩]
def r37_85_w {E fr h Q} := @opsW_unf E fr h Q _ _ r37_85.eq_1
def s37_86 : GC := .seq (.ops r37_85) s37_84
def s37_86_w {E nt rd fr h Q} := @wp_unf E nt rd fr h Q _ _ s37_86.eq_1
def r37_87 : List GO := [⟨none, some 2, .assign (.const (.float .f64 0))⟩,
  ⟨none, some 3, .assign (.const (.int .i64 16))⟩]
def r37_87_w {E fr h Q} := @opsW_unf E fr h Q _ _ r37_87.eq_1
def s37_88 : GC := .seq (.ops r37_87) .ret
def s37_88_w {E nt rd fr h Q} := @wp_unf E nt rd fr h Q _ _ s37_88.eq_1
def s37_89 : GC := .cond (.tmp 59) s37_88 .skip
def s37_89_w {E nt rd fr h Q} := @wp_unf E nt rd fr h Q _ _ s37_89.eq_1
def r37_90 : List GO := [⟨none, some 49, .move (.tmp 8)⟩,
  ⟨none, some 50, .unOp .not 4 (.tmp 49)⟩,
  ⟨none, some 51, .move (.tmp 50)⟩,
  ⟨some (51, false), some 52, .move (.tmp 6)⟩,
  ⟨some (51, false), some 53, .binOp .rem 23 (.tmp 52) (.const (.int .u64 2)) 23⟩,
  ⟨some (51, false), some 54, .binOp .eql 23 (.tmp 53) (.const (.int .u64 0)) 23⟩,
  ⟨none, some 55, .pick (.tmp 51) (.const (.bool true)) (.tmp 54)⟩,
  ⟨none, some 56, .move (.tmp 55)⟩,
  ⟨some (56, false), some 57, .move (.tmp 6)⟩,
  ⟨some (56, false), some 58, .binOp .geq 23 (.tmp 57) (.const (.int .u64 9007199254740992)) 23⟩,
  ⟨none, some 59, .pick (.tmp 56) (.const (.bool true)) (.tmp 58)⟩]
def r37_90_w {E fr h Q} := @opsW_unf E fr h Q _ _ r37_90.eq_1
def s37_91 : GC := .seq (.ops r37_90) s37_89
def s37_91_w {E nt rd fr h Q} := @wp_unf E nt rd fr h Q _ _ s37_91.eq_1
def s37_92 : GC := .seq (s37_91) s37_86
def s37_92_w {E nt rd fr h Q} := @wp_unf E nt rd fr h Q _ _ s37_92.eq_1
def r37_93 : List GO := [⟨none, some 43, .move (.tmp 0)⟩,
  ⟨none, some 44, .move (.tmp 4)⟩,
  ⟨none, some 45, .call ⟨.value (.func 61), ⟨[.tmp 43, .tmp 44]⟩, ⟨[9, 3]⟩⟩⟩,
  ⟨none, some 42, .move (.tmp 45)⟩,
  ⟨none, some 46, .extract (.tmp 42) 0⟩,
  ⟨none, some 47, .extract (.tmp 42) 1⟩,
  ⟨none, some 48, .extract (.tmp 42) 2⟩,
  ⟨none, some 6, .assign (.tmp 46)⟩,
  ⟨none, some 7, .assign (.tmp 47)⟩,
  ⟨none, some 8, .assign (.tmp 48)⟩]
def r37_93_w {E fr h Q} := @opsW_unf E fr h Q _ _ r37_93.eq_1
def s37_94 : GC := .seq (.ops r37_93) s37_92
def s37_94_w {E nt rd fr h Q} := @wp_unf E nt rd fr h Q _ _ s37_94.eq_1
def r37_95 : List GO := [⟨none, some 40, .move (.tmp 5)⟩,
  ⟨none, some 41, .call ⟨.value (.func 10), ⟨[.tmp 40]⟩, ⟨[23]⟩⟩⟩,
  ⟨none, some 2, .assign (.tmp 41)⟩,
  ⟨none, some 3, .assign (.const (.int .i64 0))⟩]
def r37_95_w {E fr h Q} := @opsW_unf E fr h Q _ _ r37_95.eq_1
def s37_96 : GC := .seq (.ops r37_95) .ret
def s37_96_w {E nt rd fr h Q} := @wp_unf E nt rd fr h Q _ _ s37_96.eq_1
def s37_97 : GC := .cond (.tmp 39) s37_96 .skip
def s37_97_w {E nt rd fr h Q} := @wp_unf E nt rd fr h Q _ _ s37_97.eq_1
def r37_98 : List GO := [⟨none, some 36, .move (.tmp 0)⟩,
  ⟨none, some 37, .move (.tmp 4)⟩,
  ⟨none, some 38, .slice 9 (.tmp 36) (some (.tmp 37)) none none⟩,
  ⟨none, some 39, .binOp .eql 9 (.tmp 38) (.const (.string ⟨⟨[48]⟩⟩)) 9⟩]
def r37_98_w {E fr h Q} := @opsW_unf E fr h Q _ _ r37_98.eq_1
def s37_99 : GC := .seq (.ops r37_98) s37_97
def s37_99_w {E nt rd fr h Q} := @wp_unf E nt rd fr h Q _ _ s37_99.eq_1
def s37_100 : GC := .seq (s37_99) s37_94
def s37_100_w {E nt rd fr h Q} := @wp_unf E nt rd fr h Q _ _ s37_100.eq_1
def r37_101 : List GO := [⟨none, some 35, .call ⟨.value (.func 10), ⟨[.const (.int .u64 9221120237041090561)]⟩, ⟨[23]⟩⟩⟩,
  ⟨none, some 2, .assign (.tmp 35)⟩,
  ⟨none, some 3, .assign (.const (.int .i64 0))⟩]
def r37_101_w {E fr h Q} := @opsW_unf E fr h Q _ _ r37_101.eq_1
def s37_102 : GC := .seq (.ops r37_101) .ret
def s37_102_w {E nt rd fr h Q} := @wp_unf E nt rd fr h Q _ _ s37_102.eq_1
def s37_103 : GC := .cond (.tmp 34) s37_102 .skip
def s37_103_w {E nt rd fr h Q} := @wp_unf E nt rd fr h Q _ _ s37_103.eq_1
def r37_104 : List GO := [⟨none, some 33, .move (.tmp 0)⟩,
  ⟨none, some 34, .binOp .eql 9 (.tmp 33) (.const (.string ⟨⟨[110, 97, 110]⟩⟩)) 9⟩]
def r37_104_w {E fr h Q} := @opsW_unf E fr h Q _ _ r37_104.eq_1
def s37_105 : GC := .seq (.ops r37_104) s37_103
def s37_105_w {E nt rd fr h Q} := @wp_unf E nt rd fr h Q _ _ s37_105.eq_1
def s37_106 : GC := .seq (s37_105) s37_100
def s37_106_w {E nt rd fr h Q} := @wp_unf E nt rd fr h Q _ _ s37_106.eq_1
def r37_107 : List GO := [⟨none, some 30, .move (.tmp 5)⟩,
  ⟨none, some 31, .binOp .add 23 (.tmp 30) (.const (.int .u64 9218868437227405312)) 23⟩,
  ⟨none, some 32, .call ⟨.value (.func 10), ⟨[.tmp 31]⟩, ⟨[23]⟩⟩⟩,
  ⟨none, some 2, .assign (.tmp 32)⟩,
  ⟨none, some 3, .assign (.const (.int .i64 0))⟩]
def r37_107_w {E fr h Q} := @opsW_unf E fr h Q _ _ r37_107.eq_1
def s37_108 : GC := .seq (.ops r37_107) .ret
def s37_108_w {E nt rd fr h Q} := @wp_unf E nt rd fr h Q _ _ s37_108.eq_1
def s37_109 : GC := .cond (.tmp 29) s37_108 .skip
def s37_109_w {E nt rd fr h Q} := @wp_unf E nt rd fr h Q _ _ s37_109.eq_1
def r37_110 : List GO := [⟨none, some 26, .move (.tmp 0)⟩,
  ⟨none, some 27, .move (.tmp 4)⟩,
  ⟨none, some 28, .slice 9 (.tmp 26) (some (.tmp 27)) none none⟩,
  ⟨none, some 29, .binOp .eql 9 (.tmp 28) (.const (.string ⟨⟨[105, 110, 102]⟩⟩)) 9⟩]
def r37_110_w {E fr h Q} := @opsW_unf E fr h Q _ _ r37_110.eq_1
def s37_111 : GC := .seq (.ops r37_110) s37_109
def s37_111_w {E nt rd fr h Q} := @wp_unf E nt rd fr h Q _ _ s37_111.eq_1
def s37_112 : GC := .seq (s37_111) s37_106
def s37_112_w {E nt rd fr h Q} := @wp_unf E nt rd fr h Q _ _ s37_112.eq_1
def r37_113 : List GO := [⟨none, some 5, .assign (.const (.int .u64 9223372036854775808))⟩]
def r37_113_w {E fr h Q} := @opsW_unf E fr h Q _ _ r37_113.eq_1
def s37_114 : GC := .ops r37_113
def s37_114_w {E nt rd fr h Q} := @wp_unf E nt rd fr h Q _ _ s37_114.eq_1
def r37_115 : List GO := [⟨none, some 4, .assign (.const (.int .i64 1))⟩]
def r37_115_w {E fr h Q} := @opsW_unf E fr h Q _ _ r37_115.eq_1
def s37_116 : GC := .seq (.ops r37_115) s37_114
def s37_116_w {E nt rd fr h Q} := @wp_unf E nt rd fr h Q _ _ s37_116.eq_1
def s37_117 : GC := .cond (.tmp 25) s37_116 .skip
def s37_117_w {E nt rd fr h Q} := @wp_unf E nt rd fr h Q _ _ s37_117.eq_1
def r37_118 : List GO := [⟨none, some 18, .move (.tmp 0)⟩,
  ⟨none, some 19, .call ⟨.builtin .len, ⟨[.tmp 18]⟩, ⟨[9]⟩⟩⟩,
  ⟨none, some 20, .binOp .gtr 3 (.tmp 19) (.const (.int .i64 0)) 3⟩,
  ⟨none, some 21, .move (.tmp 20)⟩,
  ⟨some (21, true), some 22, .move (.tmp 0)⟩,
  ⟨some (21, true), some 23, .index 9 (.tmp 22) (.const (.int .i64 0))⟩,
  ⟨some (21, true), some 24, .binOp .eql 5 (.tmp 23) (.const (.int .u8 45)) 5⟩,
  ⟨none, some 25, .pick (.tmp 21) (.tmp 24) (.const (.bool false))⟩]
def r37_118_w {E fr h Q} := @opsW_unf E fr h Q _ _ r37_118.eq_1
def s37_119 : GC := .seq (.ops r37_118) s37_117
def s37_119_w {E nt rd fr h Q} := @wp_unf E nt rd fr h Q _ _ s37_119.eq_1
def s37_120 : GC := .seq (s37_119) s37_112
def s37_120_w {E nt rd fr h Q} := @wp_unf E nt rd fr h Q _ _ s37_120.eq_1
def r37_121 : List GO := [⟨none, some 5, .assign (.const (.int .u64 0))⟩]
def r37_121_w {E fr h Q} := @opsW_unf E fr h Q _ _ r37_121.eq_1
def s37_122 : GC := .seq (.ops r37_121) s37_120
def s37_122_w {E nt rd fr h Q} := @wp_unf E nt rd fr h Q _ _ s37_122.eq_1
def r37_123 : List GO := [⟨none, some 4, .assign (.const (.int .i64 0))⟩]
def r37_123_w {E fr h Q} := @opsW_unf E fr h Q _ _ r37_123.eq_1
def s37_124 : GC := .seq (.ops r37_123) s37_122
def s37_124_w {E nt rd fr h Q} := @wp_unf E nt rd fr h Q _ _ s37_124.eq_1
def r37_125 : List GO := [⟨none, some 2, .assign (.const (.float .f64 0))⟩,
  ⟨none, some 3, .assign (.const (.int .i64 0))⟩]
def r37_125_w {E fr h Q} := @opsW_unf E fr h Q _ _ r37_125.eq_1
def s37_126 : GC := .seq (.ops r37_125) s37_124
def s37_126_w {E nt rd fr h Q} := @wp_unf E nt rd fr h Q _ _ s37_126.eq_1
theorem c37 : Tryd.f37.body.bind (clean env 169) = some s37_126 := by kernel_rfl
theorem e37 : env.funs.get 37 = some Tryd.f37 := by kernel_rfl
theorem F37 {args : List Value} {h : Heap} {K : Value → Heap → Prop} (hl : args.length = 1) (w : s37_126.wp env 169 none (setAll args 0 .leaf) h (resK env [.tmp 2, .tmp 3] K)) : Ret env (.func 37) args h K :=
  Ret.of_body' rfl e37 c37 rfl rfl (by rw [hl]; decide) w
/-! helmsman/helmsmanref31.digits -/
def r61_0 : List GO := [⟨none, some 42, .move (.tmp 7)⟩,
  ⟨none, some 43, .move (.tmp 8)⟩,
  ⟨none, some 44, .move (.tmp 8)⟩,
  ⟨none, some 45, .move (.tmp 1)⟩,
  ⟨none, some 46, .binOp .gtr 3 (.tmp 44) (.tmp 45) 3⟩,
  ⟨none, some 47, .move (.tmp 46)⟩,
  ⟨some (47, true), some 48, .move (.tmp 0)⟩,
  ⟨some (47, true), some 49, .move (.tmp 1)⟩,
  ⟨some (47, true), some 50, .index 9 (.tmp 48) (.tmp 49)⟩,
  ⟨some (47, true), some 51, .binOp .neq 5 (.tmp 50) (.const (.int .u8 48)) 5⟩,
  ⟨some (47, true), some 52, .move (.tmp 51)⟩,
  ⟨some (52, false), some 53, .move (.tmp 8)⟩,
  ⟨some (52, false), some 54, .move (.tmp 1)⟩,
  ⟨some (52, false), some 55, .binOp .add 3 (.tmp 54) (.const (.int .i64 1)) 3⟩,
  ⟨some (52, false), some 56, .binOp .eql 3 (.tmp 53) (.tmp 55) 3⟩,
  ⟨some (47, true), some 57, .pick (.tmp 52) (.const (.bool true)) (.tmp 56)⟩,
  ⟨none, some 58, .pick (.tmp 47) (.tmp 57) (.const (.bool false))⟩,
  ⟨none, some 4, .assign (.tmp 42)⟩,
  ⟨none, some 5, .assign (.tmp 43)⟩,
  ⟨none, some 6, .assign (.tmp 58)⟩]
def r61_0_w {E fr h Q} := @opsW_unf E fr h Q _ _ r61_0.eq_1
def s61_1 : GC := .seq (.ops r61_0) .ret
def s61_1_w {E nt rd fr h Q} := @wp_unf E nt rd fr h Q _ _ s61_1.eq_1
def r61_2 : List GO := [⟨none, some 40, .move (.tmp 8)⟩,
  ⟨none, some 41, .binOp .add 3 (.tmp 40) (.const (.int .i64 1)) 3⟩,
  ⟨none, some 8, .assign (.tmp 41)⟩]
def r61_2_w {E fr h Q} := @opsW_unf E fr h Q _ _ r61_2.eq_1
def s61_3 : GC := .ops r61_2
def s61_3_w {E nt rd fr h Q} := @wp_unf E nt rd fr h Q _ _ s61_3.eq_1
def r61_4 : List GO := [⟨none, some 32, .move (.tmp 7)⟩,
  ⟨none, some 33, .binOp .mul 23 (.const (.int .u64 10)) (.tmp 32) 23⟩,
  ⟨none, some 34, .move (.tmp 0)⟩,
  ⟨none, some 35, .move (.tmp 8)⟩,
  ⟨none, some 36, .index 9 (.tmp 34) (.tmp 35)⟩,
  ⟨none, some 37, .binOp .sub 5 (.tmp 36) (.const (.int .u8 48)) 5⟩,
  ⟨none, some 38, .convert 5 23 (.tmp 37)⟩,
  ⟨none, some 39, .binOp .add 23 (.tmp 33) (.tmp 38) 23⟩,
  ⟨none, some 7, .assign (.tmp 39)⟩]
def r61_4_w {E fr h Q} := @opsW_unf E fr h Q _ _ r61_4.eq_1
def s61_5 : GC := .seq (.ops r61_4) s61_3
def s61_5_w {E nt rd fr h Q} := @wp_unf E nt rd fr h Q _ _ s61_5.eq_1
def s61_6 : GC := .block 1 s61_5
def s61_6_w {E nt rd fr h Q} := @wp_unf E nt rd fr h Q _ _ s61_6.eq_1
def s61_7 : GC := .cond (.tmp 31) .skip (.exit 0)
def s61_7_w {E nt rd fr h Q} := @wp_unf E nt rd fr h Q _ _ s61_7.eq_1
def r61_8 : List GO := [⟨none, some 10, .move (.tmp 8)⟩,
  ⟨none, some 11, .move (.tmp 0)⟩,
  ⟨none, some 12, .call ⟨.builtin .len, ⟨[.tmp 11]⟩, ⟨[9]⟩⟩⟩,
  ⟨none, some 13, .binOp .lss 3 (.tmp 10) (.tmp 12) 3⟩,
  ⟨none, some 14, .move (.tmp 13)⟩,
  ⟨some (14, true), some 15, .move (.tmp 0)⟩,
  ⟨some (14, true), some 16, .move (.tmp 8)⟩,
  ⟨some (14, true), some 17, .index 9 (.tmp 15) (.tmp 16)⟩,
  ⟨some (14, true), some 18, .binOp .geq 5 (.tmp 17) (.const (.int .u8 48)) 5⟩,
  ⟨none, some 19, .pick (.tmp 14) (.tmp 18) (.const (.bool false))⟩,
  ⟨none, some 20, .move (.tmp 19)⟩,
  ⟨some (20, true), some 21, .move (.tmp 0)⟩,
  ⟨some (20, true), some 22, .move (.tmp 8)⟩,
  ⟨some (20, true), some 23, .index 9 (.tmp 21) (.tmp 22)⟩,
  ⟨some (20, true), some 24, .binOp .leq 5 (.tmp 23) (.const (.int .u8 57)) 5⟩,
  ⟨none, some 25, .pick (.tmp 20) (.tmp 24) (.const (.bool false))⟩,
  ⟨none, some 26, .move (.tmp 25)⟩,
  ⟨some (26, true), some 27, .move (.tmp 8)⟩,
  ⟨some (26, true), some 28, .move (.tmp 1)⟩,
  ⟨some (26, true), some 29, .binOp .sub 3 (.tmp 27) (.tmp 28) 3⟩,
  ⟨some (26, true), some 30, .binOp .lss 3 (.tmp 29) (.const (.int .i64 17)) 3⟩,
  ⟨none, some 31, .pick (.tmp 26) (.tmp 30) (.const (.bool false))⟩]
def r61_8_w {E fr h Q} := @opsW_unf E fr h Q _ _ r61_8.eq_1
def s61_9 : GC := .seq (.ops r61_8) s61_7
def s61_9_w {E nt rd fr h Q} := @wp_unf E nt rd fr h Q _ _ s61_9.eq_1
def s61_10 : GC := .seq (s61_9) s61_6
def s61_10_w {E nt rd fr h Q} := @wp_unf E nt rd fr h Q _ _ s61_10.eq_1
def s61_11 : GC := .loop s61_10
def s61_11_w {E nt rd fr h Q} := @wp_unf E nt rd fr h Q _ _ s61_11.eq_1
def s61_12 : GC := .seq (.block 0 s61_11) s61_1
def s61_12_w {E nt rd fr h Q} := @wp_unf E nt rd fr h Q _ _ s61_12.eq_1
def r61_13 : List GO := [⟨none, some 9, .move (.tmp 1)⟩,
  ⟨none, some 8, .assign (.tmp 9)⟩]
def r61_13_w {E fr h Q} := @opsW_unf E fr h Q _ _ r61_13.eq_1
def s61_14 : GC := .seq (.ops r61_13) s61_12
def s61_14_w {E nt rd fr h Q} := @wp_unf E nt rd fr h Q _ _ s61_14.eq_1
def r61_15 : List GO := [⟨none, some 7, .assign (.const (.int .u64 0))⟩]
def r61_15_w {E fr h Q} := @opsW_unf E fr h Q _ _ r61_15.eq_1
def s61_16 : GC := .seq (.ops r61_15) s61_14
def s61_16_w {E nt rd fr h Q} := @wp_unf E nt rd fr h Q _ _ s61_16.eq_1
def r61_17 : List GO := [⟨none, some 4, .assign (.const (.int .u64 0))⟩,
  ⟨none, some 5, .assign (.const (.int .i64 0))⟩,
  ⟨none, some 6, .assign (.const (.bool false))⟩]
def r61_17_w {E fr h Q} := @opsW_unf E fr h Q _ _ r61_17.eq_1
def s61_18 : GC := .seq (.ops r61_17) s61_16
def s61_18_w {E nt rd fr h Q} := @wp_unf E nt rd fr h Q _ _ s61_18.eq_1
theorem c61 : Tryd.f61.body.bind (clean env 59) = some s61_18 := by kernel_rfl
theorem e61 : env.funs.get 61 = some Tryd.f61 := by kernel_rfl
theorem F61 {args : List Value} {h : Heap} {K : Value → Heap → Prop} (hl : args.length = 2) (w : s61_18.wp env 59 none (setAll args 0 .leaf) h (resK env [.tmp 4, .tmp 5, .tmp 6] K)) : Ret env (.func 61) args h K :=
  Ret.of_body' rfl e61 c61 rfl rfl (by rw [hl]; decide) w
/-! internal/strconv.lower -/
def r98_0 : List GO := [⟨none, some 3, .move (.tmp 0)⟩,
  ⟨none, some 4, .binOp .or 5 (.tmp 3) (.const (.int .u8 32)) 5⟩,
  ⟨none, some 2, .assign (.tmp 4)⟩]
def r98_0_w {E fr h Q} := @opsW_unf E fr h Q _ _ r98_0.eq_1
def s98_1 : GC := .seq (.ops r98_0) .ret
def s98_1_w {E nt rd fr h Q} := @wp_unf E nt rd fr h Q _ _ s98_1.eq_1
def r98_2 : List GO := [⟨none, some 2, .assign (.const (.int .u8 0))⟩]
def r98_2_w {E fr h Q} := @opsW_unf E fr h Q _ _ r98_2.eq_1
def s98_3 : GC := .seq (.ops r98_2) s98_1
def s98_3_w {E nt rd fr h Q} := @wp_unf E nt rd fr h Q _ _ s98_3.eq_1
theorem c98 : Tryd.f98.body.bind (clean env 5) = some s98_3 := by kernel_rfl
theorem e98 : env.funs.get 98 = some Tryd.f98 := by kernel_rfl
theorem F98 {args : List Value} {h : Heap} {K : Value → Heap → Prop} (hl : args.length = 1) (w : s98_3.wp env 5 none (setAll args 0 .leaf) h (resK env [.tmp 2] K)) : Ret env (.func 98) args h K :=
  Ret.of_body' rfl e98 c98 rfl rfl (by rw [hl]; decide) w

end Go.Proofs.YtjcmcoabckkjoaaDoor.Li

