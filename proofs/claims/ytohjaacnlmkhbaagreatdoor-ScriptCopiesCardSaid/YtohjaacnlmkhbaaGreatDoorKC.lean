/- THE CODE OF THE FUNCTIONS THAT THE LAW REACHES, AS PLAIN LEAN. Conditions: none. -/
import Derived.Test.YtohjaacnlmkhbaaGreatDoorZTa
import Derived.Test.YtohjaacnlmkhbaaGreatDoorKA
import Derived.Test.YtohjaacnlmkhbaaGreatDoorChecked
import Derived.KernelRfl
set_option linter.unusedSimpArgs false
set_option linter.unusedVariables false
namespace Go.Proofs.YtohjaacnlmkhbaaGreatDoor
open Go.Ev
set_option maxRecDepth 100000
set_option linter.defProp false
noncomputable def env : Env := envOf Tryz.prog 3 (extTab tabs ext5 7)
section
variable {fr : Fr} {h : Heap} {K : Value → Heap → Prop} {x y z : Operand} {ps : List (Nat × Operand)}
theorem callE : ∀ {f : FuncId} {xs : List Operand} {ts : Array TypeId}, opW env (.call ⟨.value (.func f), ⟨xs⟩, ts⟩) fr h K = evsK env fr xs fun us => Ret env (.func f) us h K := opW_call rfl
theorem agl_28 : ∀ {v : Value} {K : Value → Prop}, agL env 28 v h K = ldNK h 16 v K := agL_many (by kernel_rfl)
theorem ld_28 : opW env (.load 28 x) fr h K = evK env fr x fun v => ldNK h 16 v fun u => K u h := opW_loadN (by kernel_rfl)
theorem al_28 : opW env (.alloc 28) fr h K = K (.pointer (some ⟨h.n, 0, none⟩)) (newBlk h (.cells [.int .i64 0, .int .i64 0, .int .i64 0, .int .i64 0, .int .i64 0, .int .i64 0, .int .i64 0, .int .i64 0, .int .i64 0, .int .i64 0, .int .u64 0, .int .u64 0, .int .u64 0, .int .u64 0, .slice none 0 0, .slice none 0 0] 28 true)) := opW_alloc (v := .agg ⟨[.int .i64 0, .int .i64 0, .int .i64 0, .int .i64 0, .int .i64 0, .int .i64 0, .int .i64 0, .int .i64 0, .int .i64 0, .int .i64 0, .int .u64 0, .int .u64 0, .int .u64 0, .int .u64 0, .slice none 0 0, .slice none 0 0]⟩) (by kernel_rfl) rfl rfl
theorem st_28 : opW env (.store 28 x y) fr h K = evK env fr x fun p => evK env fr y fun v => stK 16 p v h K := opW_store (by kernel_rfl)
theorem fa_28_1 : opW env (.fieldAddr 28 x 1) fr h K = evK env fr x fun v => fldAK 15 v fun u => K u h := opW_fieldAddr (by kernel_rfl)
theorem ld_26 : opW env (.load 26 x) fr h K = evK env fr x fun v => ld1K h v fun u => K u h := opW_load1 (by kernel_rfl)
theorem len_26 : opW env (.call ⟨.builtin .len, ⟨[x]⟩, ⟨[26]⟩⟩) fr h K = evK env fr x fun v => lenK v fun u => K u h := opW_lenS (by kernel_rfl)
theorem ia_26 : opW env (.indexAddr 26 x y) fr h K = evK env fr x fun v => evK env fr y fun i => idxSK 4 v i fun u => K u h := opW_indexAddrS (by kernel_rfl)
theorem fa_35_1 : opW env (.fieldAddr 35 x 1) fr h K = evK env fr x fun v => fldAK 1 v fun u => K u h := opW_fieldAddr (by kernel_rfl)
theorem ld_3 : opW env (.load 3 x) fr h K = evK env fr x fun v => ld1K h v fun u => K u h := opW_load1 (by kernel_rfl)
theorem st_3 : opW env (.store 3 x y) fr h K = evK env fr x fun p => evK env fr y fun v => stK 1 p v h K := opW_store (by kernel_rfl)
theorem fa_28_0 : opW env (.fieldAddr 28 x 0) fr h K = evK env fr x fun v => fldAK 0 v fun u => K u h := opW_fieldAddr (by kernel_rfl)
theorem fa_25_14 : opW env (.fieldAddr 25 x 14) fr h K = evK env fr x fun v => fldAK 14 v fun u => K u h := opW_fieldAddr (by kernel_rfl)
theorem ld_23 : opW env (.load 23 x) fr h K = evK env fr x fun v => ld1K h v fun u => K u h := opW_load1 (by kernel_rfl)
theorem len_23 : opW env (.call ⟨.builtin .len, ⟨[x]⟩, ⟨[23]⟩⟩) fr h K = evK env fr x fun v => lenK v fun u => K u h := opW_lenS (by kernel_rfl)
theorem ia_23 : opW env (.indexAddr 23 x y) fr h K = evK env fr x fun v => evK env fr y fun i => idxSK 1 v i fun u => K u h := opW_indexAddrS (by kernel_rfl)
theorem ld_36 : opW env (.load 36 x) fr h K = evK env fr x fun v => ld1K h v fun u => K u h := opW_load1 (by kernel_rfl)
theorem len_36 : opW env (.call ⟨.builtin .len, ⟨[x]⟩, ⟨[36]⟩⟩) fr h K = evK env fr x fun v => lenK v fun u => K u h := opW_lenS (by kernel_rfl)
theorem ia_36 : opW env (.indexAddr 36 x y) fr h K = evK env fr x fun v => evK env fr y fun i => idxSK 1 v i fun u => K u h := opW_indexAddrS (by kernel_rfl)
theorem ld_5 : opW env (.load 5 x) fr h K = evK env fr x fun v => ld1K h v fun u => K u h := opW_load1 (by kernel_rfl)
theorem st_5 : opW env (.store 5 x y) fr h K = evK env fr x fun p => evK env fr y fun v => stK 1 p v h K := opW_store (by kernel_rfl)
theorem ld_25 : opW env (.load 25 x) fr h K = evK env fr x fun v => ldNK h 15 v fun u => K u h := opW_loadN (by kernel_rfl)
theorem ap_36_36 : opW env (.call ⟨.builtin .append, ⟨[x, y]⟩, ⟨[36, 36]⟩⟩) fr h K = evK env fr x fun s => evK env fr y fun v => appK 5 1 s v h K := opW_append (zs := [.int .u8 0]) (by kernel_rfl) (by kernel_rfl)
theorem bsl_23_1 : opW env (.buildSlice 23 1 ⟨ps⟩) fr h K = evpK env fr ps fun l => bsK 36 1 [.slice none 0 0] 1 l h K := opW_buildSlice (by kernel_rfl) (by decide)
theorem ap_23_23 : opW env (.call ⟨.builtin .append, ⟨[x, y]⟩, ⟨[23, 23]⟩⟩) fr h K = evK env fr x fun s => evK env fr y fun v => appK 36 1 s v h K := opW_append (zs := [.slice none 0 0]) (by kernel_rfl) (by kernel_rfl)
theorem st_23 : opW env (.store 23 x y) fr h K = evK env fr x fun p => evK env fr y fun v => stK 1 p v h K := opW_store (by kernel_rfl)
theorem ap_26_26 : opW env (.call ⟨.builtin .append, ⟨[x, y]⟩, ⟨[26, 26]⟩⟩) fr h K = evK env fr x fun s => evK env fr y fun v => appK 35 4 s v h K := opW_append (zs := [.int .i64 0, .int .i64 0, .int .i64 0, .int .i64 0]) (by kernel_rfl) (by kernel_rfl)
theorem st_26 : opW env (.store 26 x y) fr h K = evK env fr x fun p => evK env fr y fun v => stK 1 p v h K := opW_store (by kernel_rfl)
theorem agl_26 : ∀ {v : Value} {K : Value → Prop}, agL env 26 v h K = ld1K h v K := agL_one (by kernel_rfl)
theorem bd_28 : opW env (.build 28 ⟨ps⟩) fr h K = evpK env fr ps fun l => bdK [.int .i64 0, .int .i64 0, .int .i64 0, .int .i64 0, .int .i64 0, .int .i64 0, .int .i64 0, .int .i64 0, .int .i64 0, .int .i64 0, .int .u64 0, .int .u64 0, .int .u64 0, .int .u64 0, .slice none 0 0, .slice none 0 0] [(0, 15), (15, 1)] l fun u => K u h := opW_build (by kernel_rfl)
theorem ld_35 : opW env (.load 35 x) fr h K = evK env fr x fun v => ldNK h 4 v fun u => K u h := opW_loadN (by kernel_rfl)
theorem eqA_35 : ∀ {a0 b0 a1 b1 a2 b2 a3 b3 : Int}, aeq env 100 35 (.agg ⟨[.int .i64 a0, .int .i64 a1, .int .i64 a2, .int .i64 a3]⟩) (.agg ⟨[.int .i64 b0, .int .i64 b1, .int .i64 b2, .int .i64 b3]⟩) = some (decide ((a0 = b0) ∧ ((a1 = b1) ∧ ((a2 = b2) ∧ ((a3 = b3) ∧ (True)))))) := by
  intro a0 b0 a1 b1 a2 b2 a3 b3
  have e : aeq env 100 35 (.agg ⟨[.int .i64 a0, .int .i64 a1, .int .i64 a2, .int .i64 a3]⟩) (.agg ⟨[.int .i64 b0, .int .i64 b1, .int .i64 b2, .int .i64 b3]⟩) = bindB (some (a0 == b0)) (bindB (some (a1 == b1)) (bindB (some (a2 == b2)) (bindB (some (a3 == b3)) (some true)))) := by kernel_rfl
  rw [e]; simp only [bindB_some, beqI, Bool.decide_and, decide_true]
theorem neqA_35 : ∀ {a0 b0 a1 b1 a2 b2 a3 b3 : Int} {c : Bool} {K : Value → Prop}, binK env .neq 35 c (.agg ⟨[.int .i64 a0, .int .i64 a1, .int .i64 a2, .int .i64 a3]⟩) (.agg ⟨[.int .i64 b0, .int .i64 b1, .int .i64 b2, .int .i64 b3]⟩) K = brK ((a0 = b0) ∧ ((a1 = b1) ∧ ((a2 = b2) ∧ ((a3 = b3) ∧ (True))))) (K (.bool false)) (K (.bool true)) := bin_neqP (by kernel_rfl) eqA_35
theorem eqlA_35 : ∀ {a0 b0 a1 b1 a2 b2 a3 b3 : Int} {c : Bool} {K : Value → Prop}, binK env .eql 35 c (.agg ⟨[.int .i64 a0, .int .i64 a1, .int .i64 a2, .int .i64 a3]⟩) (.agg ⟨[.int .i64 b0, .int .i64 b1, .int .i64 b2, .int .i64 b3]⟩) K = brK ((a0 = b0) ∧ ((a1 = b1) ∧ ((a2 = b2) ∧ ((a3 = b3) ∧ (True))))) (K (.bool true)) (K (.bool false)) := bin_eqlP (by kernel_rfl) eqA_35
theorem agl_25 : ∀ {v : Value} {K : Value → Prop}, agL env 25 v h K = ldNK h 15 v K := agL_many (by kernel_rfl)
theorem agl_23 : ∀ {v : Value} {K : Value → Prop}, agL env 23 v h K = ld1K h v K := agL_one (by kernel_rfl)
theorem al_25 : opW env (.alloc 25) fr h K = K (.pointer (some ⟨h.n, 0, none⟩)) (newBlk h (.cells [.int .i64 0, .int .i64 0, .int .i64 0, .int .i64 0, .int .i64 0, .int .i64 0, .int .i64 0, .int .i64 0, .int .i64 0, .int .i64 0, .int .u64 0, .int .u64 0, .int .u64 0, .int .u64 0, .slice none 0 0] 25 true)) := opW_alloc (v := .agg ⟨[.int .i64 0, .int .i64 0, .int .i64 0, .int .i64 0, .int .i64 0, .int .i64 0, .int .i64 0, .int .i64 0, .int .i64 0, .int .i64 0, .int .u64 0, .int .u64 0, .int .u64 0, .int .u64 0, .slice none 0 0]⟩) (by kernel_rfl) rfl rfl
theorem st_25 : opW env (.store 25 x y) fr h K = evK env fr x fun p => evK env fr y fun v => stK 15 p v h K := opW_store (by kernel_rfl)
theorem eqN_26 : ∀ {c : Bool} {a : Option Addr} {n m : Nat} {K : Value → Prop}, binK env .eql 26 c (.slice a n m) (.slice none 0 0) K = K (.bool a.isNone) := bin_eqlNil (by kernel_rfl)
theorem bsl_26_0 : opW env (.buildSlice 26 0 ⟨ps⟩) fr h K = evpK env fr ps fun l => bsK 35 4 [.int .i64 0, .int .i64 0, .int .i64 0, .int .i64 0] 0 l h K := opW_buildSlice (by kernel_rfl) (by decide)
theorem len_95 : opW env (.call ⟨.builtin .len, ⟨[x]⟩, ⟨[95]⟩⟩) fr h K = evK env fr x fun v => lenK v fun u => K u h := opW_lenS (by kernel_rfl)
theorem ia_95 : opW env (.indexAddr 95 x y) fr h K = evK env fr x fun v => evK env fr y fun i => idxSK 1 v i fun u => K u h := opW_indexAddrS (by kernel_rfl)
theorem len_97 : opW env (.call ⟨.builtin .len, ⟨[x]⟩, ⟨[97]⟩⟩) fr h K = evK env fr x fun v => lenK v fun u => K u h := opW_lenS (by kernel_rfl)
theorem ia_97 : opW env (.indexAddr 97 x y) fr h K = evK env fr x fun v => evK env fr y fun i => idxSK 1 v i fun u => K u h := opW_indexAddrS (by kernel_rfl)
theorem ld_22 : opW env (.load 22 x) fr h K = evK env fr x fun v => ld1K h v fun u => K u h := opW_load1 (by kernel_rfl)
theorem cv_36_9 : opW env (.convert 36 9 x) fr h K = evK env fr x fun v => bstrK h v fun u => K u h := opW_bstr (by kernel_rfl)
theorem al_101 : opW env (.alloc 101) fr h K = K (.pointer (some ⟨h.n, 0, none⟩)) (newBlk h (.cells [.string ⟨⟨[]⟩⟩, .nilIface, .int .i64 0, .int .i64 0, .string ⟨⟨[]⟩⟩, .nilIface, .int .i64 0, .int .i64 0, .string ⟨⟨[]⟩⟩, .nilIface, .int .i64 0, .int .i64 0, .string ⟨⟨[]⟩⟩, .nilIface, .int .i64 0, .int .i64 0, .string ⟨⟨[]⟩⟩, .nilIface, .int .i64 0, .int .i64 0, .string ⟨⟨[]⟩⟩, .nilIface, .int .i64 0, .int .i64 0, .string ⟨⟨[]⟩⟩, .nilIface, .int .i64 0, .int .i64 0, .string ⟨⟨[]⟩⟩, .nilIface, .int .i64 0, .int .i64 0, .string ⟨⟨[]⟩⟩, .nilIface, .int .i64 0, .int .i64 0, .string ⟨⟨[]⟩⟩, .nilIface, .int .i64 0, .int .i64 0, .string ⟨⟨[]⟩⟩, .nilIface, .int .i64 0, .int .i64 0, .string ⟨⟨[]⟩⟩, .nilIface, .int .i64 0, .int .i64 0, .string ⟨⟨[]⟩⟩, .nilIface, .int .i64 0, .int .i64 0, .string ⟨⟨[]⟩⟩, .nilIface, .int .i64 0, .int .i64 0] 101 true)) := opW_alloc (v := .agg ⟨[.string ⟨⟨[]⟩⟩, .nilIface, .int .i64 0, .int .i64 0, .string ⟨⟨[]⟩⟩, .nilIface, .int .i64 0, .int .i64 0, .string ⟨⟨[]⟩⟩, .nilIface, .int .i64 0, .int .i64 0, .string ⟨⟨[]⟩⟩, .nilIface, .int .i64 0, .int .i64 0, .string ⟨⟨[]⟩⟩, .nilIface, .int .i64 0, .int .i64 0, .string ⟨⟨[]⟩⟩, .nilIface, .int .i64 0, .int .i64 0, .string ⟨⟨[]⟩⟩, .nilIface, .int .i64 0, .int .i64 0, .string ⟨⟨[]⟩⟩, .nilIface, .int .i64 0, .int .i64 0, .string ⟨⟨[]⟩⟩, .nilIface, .int .i64 0, .int .i64 0, .string ⟨⟨[]⟩⟩, .nilIface, .int .i64 0, .int .i64 0, .string ⟨⟨[]⟩⟩, .nilIface, .int .i64 0, .int .i64 0, .string ⟨⟨[]⟩⟩, .nilIface, .int .i64 0, .int .i64 0, .string ⟨⟨[]⟩⟩, .nilIface, .int .i64 0, .int .i64 0, .string ⟨⟨[]⟩⟩, .nilIface, .int .i64 0, .int .i64 0]⟩) (by kernel_rfl) rfl rfl
theorem st_101 : opW env (.store 101 x y) fr h K = evK env fr x fun p => evK env fr y fun v => stK 56 p v h K := opW_store (by kernel_rfl)
theorem ia_101 : opW env (.indexAddr 101 x y) fr h K = evK env fr x fun v => evK env fr y fun i => idxAK 14 4 v i fun u => K u h := opW_indexAddrA (by kernel_rfl)
theorem fa_100_1 : opW env (.fieldAddr 100 x 1) fr h K = evK env fr x fun v => fldAK 1 v fun u => K u h := opW_fieldAddr (by kernel_rfl)
theorem ld_20 : opW env (.load 20 x) fr h K = evK env fr x fun v => ld1K h v fun u => K u h := opW_load1 (by kernel_rfl)
theorem eqN_36 : ∀ {c : Bool} {a : Option Addr} {n m : Nat} {K : Value → Prop}, binK env .eql 36 c (.slice a n m) (.slice none 0 0) K = K (.bool a.isNone) := bin_eqlNil (by kernel_rfl)
theorem bsl_36_0 : opW env (.buildSlice 36 0 ⟨ps⟩) fr h K = evpK env fr ps fun l => bsK 5 1 [.int .u8 0] 0 l h K := opW_buildSlice (by kernel_rfl) (by decide)
theorem fa_25_0 : opW env (.fieldAddr 25 x 0) fr h K = evK env fr x fun v => fldAK 0 v fun u => K u h := opW_fieldAddr (by kernel_rfl)
theorem fa_25_1 : opW env (.fieldAddr 25 x 1) fr h K = evK env fr x fun v => fldAK 1 v fun u => K u h := opW_fieldAddr (by kernel_rfl)
theorem fa_25_2 : opW env (.fieldAddr 25 x 2) fr h K = evK env fr x fun v => fldAK 2 v fun u => K u h := opW_fieldAddr (by kernel_rfl)
theorem fa_25_3 : opW env (.fieldAddr 25 x 3) fr h K = evK env fr x fun v => fldAK 3 v fun u => K u h := opW_fieldAddr (by kernel_rfl)
theorem fa_25_4 : opW env (.fieldAddr 25 x 4) fr h K = evK env fr x fun v => fldAK 4 v fun u => K u h := opW_fieldAddr (by kernel_rfl)
theorem fa_25_5 : opW env (.fieldAddr 25 x 5) fr h K = evK env fr x fun v => fldAK 5 v fun u => K u h := opW_fieldAddr (by kernel_rfl)
theorem fa_25_6 : opW env (.fieldAddr 25 x 6) fr h K = evK env fr x fun v => fldAK 6 v fun u => K u h := opW_fieldAddr (by kernel_rfl)
theorem fa_25_7 : opW env (.fieldAddr 25 x 7) fr h K = evK env fr x fun v => fldAK 7 v fun u => K u h := opW_fieldAddr (by kernel_rfl)
theorem fa_25_8 : opW env (.fieldAddr 25 x 8) fr h K = evK env fr x fun v => fldAK 8 v fun u => K u h := opW_fieldAddr (by kernel_rfl)
theorem fa_25_9 : opW env (.fieldAddr 25 x 9) fr h K = evK env fr x fun v => fldAK 9 v fun u => K u h := opW_fieldAddr (by kernel_rfl)
theorem bsl_95_10 : opW env (.buildSlice 95 10 ⟨ps⟩) fr h K = evpK env fr ps fun l => bsK 3 1 [.int .i64 0] 10 l h K := opW_buildSlice (by kernel_rfl) (by decide)
theorem fa_25_10 : opW env (.fieldAddr 25 x 10) fr h K = evK env fr x fun v => fldAK 10 v fun u => K u h := opW_fieldAddr (by kernel_rfl)
theorem fa_25_11 : opW env (.fieldAddr 25 x 11) fr h K = evK env fr x fun v => fldAK 11 v fun u => K u h := opW_fieldAddr (by kernel_rfl)
theorem fa_25_12 : opW env (.fieldAddr 25 x 12) fr h K = evK env fr x fun v => fldAK 12 v fun u => K u h := opW_fieldAddr (by kernel_rfl)
theorem fa_25_13 : opW env (.fieldAddr 25 x 13) fr h K = evK env fr x fun v => fldAK 13 v fun u => K u h := opW_fieldAddr (by kernel_rfl)
theorem bsl_97_4 : opW env (.buildSlice 97 4 ⟨ps⟩) fr h K = evpK env fr ps fun l => bsK 22 1 [.int .u64 0] 4 l h K := opW_buildSlice (by kernel_rfl) (by decide)
theorem agl_101 : ∀ {v : Value} {K : Value → Prop}, agL env 101 v h K = ldNK h 56 v K := agL_many (by kernel_rfl)
theorem mi_106 : opW env (.makeInterface 106 x) fr h K = evK env fr x fun v => K (.iface 106 v) h := opW_makeIface (by kernel_rfl)
theorem bd_100 : opW env (.build 100 ⟨ps⟩) fr h K = evpK env fr ps fun l => bdK [.string ⟨⟨[]⟩⟩, .nilIface, .int .i64 0, .int .i64 0] [(0, 1), (1, 1), (2, 1), (3, 1)] l fun u => K u h := opW_build (by kernel_rfl)
theorem mi_107 : opW env (.makeInterface 107 x) fr h K = evK env fr x fun v => K (.iface 107 v) h := opW_makeIface (by kernel_rfl)
theorem bd_101 : opW env (.build 101 ⟨ps⟩) fr h K = evpK env fr ps fun l => bdaK [.string ⟨⟨[]⟩⟩, .nilIface, .int .i64 0, .int .i64 0, .string ⟨⟨[]⟩⟩, .nilIface, .int .i64 0, .int .i64 0, .string ⟨⟨[]⟩⟩, .nilIface, .int .i64 0, .int .i64 0, .string ⟨⟨[]⟩⟩, .nilIface, .int .i64 0, .int .i64 0, .string ⟨⟨[]⟩⟩, .nilIface, .int .i64 0, .int .i64 0, .string ⟨⟨[]⟩⟩, .nilIface, .int .i64 0, .int .i64 0, .string ⟨⟨[]⟩⟩, .nilIface, .int .i64 0, .int .i64 0, .string ⟨⟨[]⟩⟩, .nilIface, .int .i64 0, .int .i64 0, .string ⟨⟨[]⟩⟩, .nilIface, .int .i64 0, .int .i64 0, .string ⟨⟨[]⟩⟩, .nilIface, .int .i64 0, .int .i64 0, .string ⟨⟨[]⟩⟩, .nilIface, .int .i64 0, .int .i64 0, .string ⟨⟨[]⟩⟩, .nilIface, .int .i64 0, .int .i64 0, .string ⟨⟨[]⟩⟩, .nilIface, .int .i64 0, .int .i64 0, .string ⟨⟨[]⟩⟩, .nilIface, .int .i64 0, .int .i64 0] 4 l fun u => K u h := opW_buildA (by kernel_rfl)
theorem ta_106 : ∀ {s : TypeId}, opW env (.typeAssert x s 106 true) fr h K = evK env fr x fun v => taK 106 (.pointer none) v fun u => K u h := opW_typeAssertC (by kernel_rfl)
theorem ta_107 : ∀ {s : TypeId}, opW env (.typeAssert x s 107 true) fr h K = evK env fr x fun v => taK 107 (.pointer none) v fun u => K u h := opW_typeAssertC (by kernel_rfl)
end
/-! helmsman/helmsmanlaw26.ScriptCopies -/
def r3_0 : List GO := [⟨none, some 95, .load 28 (.tmp 5)⟩,
  ⟨none, some 96, .load 28 (.tmp 2)⟩,
  ⟨none, some 97, .call ⟨.value (.func 10), ⟨[.tmp 95, .tmp 96]⟩, ⟨[28, 28]⟩⟩⟩,
  ⟨none, some 98, .move (.tmp 97)⟩,
  ⟨some (98, true), some 99, .call ⟨.value (.func 7), ⟨[]⟩, ⟨[]⟩⟩⟩,
  ⟨none, some 100, .pick (.tmp 98) (.tmp 99) (.const (.bool false))⟩,
  ⟨none, some 4, .assign (.tmp 100)⟩]
def r3_0_w {E fr h Q} := @opsW_unf E fr h Q _ _ r3_0.eq_1
def s3_1 : GC := .seq (.ops r3_0) .ret
def s3_1_w {E nt rd fr h Q} := @wp_unf E nt rd fr h Q _ _ s3_1.eq_1
def r3_2 : List GO := [⟨none, some 71, .move (.tmp 8)⟩,
  ⟨none, some 72, .binOp .add 3 (.tmp 71) (.const (.int .i64 1)) 3⟩,
  ⟨none, some 8, .assign (.tmp 72)⟩]
def r3_2_w {E fr h Q} := @opsW_unf E fr h Q _ _ r3_2.eq_1
def s3_3 : GC := .ops r3_2
def s3_3_w {E nt rd fr h Q} := @wp_unf E nt rd fr h Q _ _ s3_3.eq_1
def r3_4 : List GO := [⟨none, some 82, .move (.tmp 9)⟩,
  ⟨none, some 83, .binOp .add 3 (.tmp 82) (.const (.int .i64 1)) 3⟩,
  ⟨none, some 9, .assign (.tmp 83)⟩]
def r3_4_w {E fr h Q} := @opsW_unf E fr h Q _ _ r3_4.eq_1
def s3_5 : GC := .ops r3_4
def s3_5_w {E nt rd fr h Q} := @wp_unf E nt rd fr h Q _ _ s3_5.eq_1
def r3_6 : List GO := [⟨none, some 84, .fieldAddr 28 (.tmp 6) 0⟩,
  ⟨none, some 85, .fieldAddr 25 (.tmp 84) 14⟩,
  ⟨none, some 86, .load 23 (.tmp 85)⟩,
  ⟨none, some 87, .move (.tmp 8)⟩,
  ⟨none, some 88, .indexAddr 23 (.tmp 86) (.tmp 87)⟩,
  ⟨none, some 89, .load 36 (.tmp 88)⟩,
  ⟨none, some 90, .move (.tmp 9)⟩,
  ⟨none, some 91, .indexAddr 36 (.tmp 89) (.tmp 90)⟩,
  ⟨none, some 92, .load 5 (.tmp 91)⟩,
  ⟨none, some 93, .binOp .add 5 (.tmp 92) (.const (.int .u8 1)) 5⟩,
  ⟨none, some 94, .indexAddr 36 (.tmp 89) (.tmp 90)⟩,
  ⟨none, none, .store 5 (.tmp 94) (.tmp 93)⟩]
def r3_6_w {E fr h Q} := @opsW_unf E fr h Q _ _ r3_6.eq_1
def s3_7 : GC := .ops r3_6
def s3_7_w {E nt rd fr h Q} := @wp_unf E nt rd fr h Q _ _ s3_7.eq_1
def s3_8 : GC := .seq (.block 5 s3_7) s3_5
def s3_8_w {E nt rd fr h Q} := @wp_unf E nt rd fr h Q _ _ s3_8.eq_1
def s3_9 : GC := .cond (.tmp 81) .skip (.exit 4)
def s3_9_w {E nt rd fr h Q} := @wp_unf E nt rd fr h Q _ _ s3_9.eq_1
def r3_10 : List GO := [⟨none, some 73, .move (.tmp 9)⟩,
  ⟨none, some 74, .fieldAddr 28 (.tmp 6) 0⟩,
  ⟨none, some 75, .fieldAddr 25 (.tmp 74) 14⟩,
  ⟨none, some 76, .load 23 (.tmp 75)⟩,
  ⟨none, some 77, .move (.tmp 8)⟩,
  ⟨none, some 78, .indexAddr 23 (.tmp 76) (.tmp 77)⟩,
  ⟨none, some 79, .load 36 (.tmp 78)⟩,
  ⟨none, some 80, .call ⟨.builtin .len, ⟨[.tmp 79]⟩, ⟨[36]⟩⟩⟩,
  ⟨none, some 81, .binOp .lss 3 (.tmp 73) (.tmp 80) 3⟩]
def r3_10_w {E fr h Q} := @opsW_unf E fr h Q _ _ r3_10.eq_1
def s3_11 : GC := .seq (.ops r3_10) s3_9
def s3_11_w {E nt rd fr h Q} := @wp_unf E nt rd fr h Q _ _ s3_11.eq_1
def s3_12 : GC := .seq (s3_11) s3_8
def s3_12_w {E nt rd fr h Q} := @wp_unf E nt rd fr h Q _ _ s3_12.eq_1
def s3_13 : GC := .loop s3_12
def s3_13_w {E nt rd fr h Q} := @wp_unf E nt rd fr h Q _ _ s3_13.eq_1
def s3_14 : GC := .block 4 s3_13
def s3_14_w {E nt rd fr h Q} := @wp_unf E nt rd fr h Q _ _ s3_14.eq_1
def r3_15 : List GO := [⟨none, some 9, .assign (.const (.int .i64 0))⟩]
def r3_15_w {E fr h Q} := @opsW_unf E fr h Q _ _ r3_15.eq_1
def s3_16 : GC := .seq (.ops r3_15) s3_14
def s3_16_w {E nt rd fr h Q} := @wp_unf E nt rd fr h Q _ _ s3_16.eq_1
def s3_17 : GC := .seq (.block 3 s3_16) s3_3
def s3_17_w {E nt rd fr h Q} := @wp_unf E nt rd fr h Q _ _ s3_17.eq_1
def s3_18 : GC := .cond (.tmp 70) .skip (.exit 2)
def s3_18_w {E nt rd fr h Q} := @wp_unf E nt rd fr h Q _ _ s3_18.eq_1
def r3_19 : List GO := [⟨none, some 65, .move (.tmp 8)⟩,
  ⟨none, some 66, .fieldAddr 28 (.tmp 6) 0⟩,
  ⟨none, some 67, .fieldAddr 25 (.tmp 66) 14⟩,
  ⟨none, some 68, .load 23 (.tmp 67)⟩,
  ⟨none, some 69, .call ⟨.builtin .len, ⟨[.tmp 68]⟩, ⟨[23]⟩⟩⟩,
  ⟨none, some 70, .binOp .lss 3 (.tmp 65) (.tmp 69) 3⟩]
def r3_19_w {E fr h Q} := @opsW_unf E fr h Q _ _ r3_19.eq_1
def s3_20 : GC := .seq (.ops r3_19) s3_18
def s3_20_w {E nt rd fr h Q} := @wp_unf E nt rd fr h Q _ _ s3_20.eq_1
def s3_21 : GC := .seq (s3_20) s3_17
def s3_21_w {E nt rd fr h Q} := @wp_unf E nt rd fr h Q _ _ s3_21.eq_1
def s3_22 : GC := .loop s3_21
def s3_22_w {E nt rd fr h Q} := @wp_unf E nt rd fr h Q _ _ s3_22.eq_1
def s3_23 : GC := .block 2 s3_22
def s3_23_w {E nt rd fr h Q} := @wp_unf E nt rd fr h Q _ _ s3_23.eq_1
def r3_24 : List GO := [⟨none, some 8, .assign (.const (.int .i64 0))⟩]
def r3_24_w {E fr h Q} := @opsW_unf E fr h Q _ _ r3_24.eq_1
def s3_25 : GC := .seq (.ops r3_24) s3_23
def s3_25_w {E nt rd fr h Q} := @wp_unf E nt rd fr h Q _ _ s3_25.eq_1
def s3_26 : GC := .seq (s3_25) s3_1
def s3_26_w {E nt rd fr h Q} := @wp_unf E nt rd fr h Q _ _ s3_26.eq_1
def r3_27 : List GO := [⟨none, some 54, .move (.tmp 7)⟩,
  ⟨none, some 55, .binOp .add 3 (.tmp 54) (.const (.int .i64 1)) 3⟩,
  ⟨none, some 7, .assign (.tmp 55)⟩]
def r3_27_w {E fr h Q} := @opsW_unf E fr h Q _ _ r3_27.eq_1
def s3_28 : GC := .ops r3_27
def s3_28_w {E nt rd fr h Q} := @wp_unf E nt rd fr h Q _ _ s3_28.eq_1
def r3_29 : List GO := [⟨none, some 56, .fieldAddr 28 (.tmp 6) 1⟩,
  ⟨none, some 57, .load 26 (.tmp 56)⟩,
  ⟨none, some 58, .move (.tmp 7)⟩,
  ⟨none, some 59, .indexAddr 26 (.tmp 57) (.tmp 58)⟩,
  ⟨none, some 60, .fieldAddr 35 (.tmp 59) 1⟩,
  ⟨none, some 61, .load 3 (.tmp 60)⟩,
  ⟨none, some 62, .binOp .add 3 (.tmp 61) (.const (.int .i64 1)) 3⟩,
  ⟨none, some 63, .indexAddr 26 (.tmp 57) (.tmp 58)⟩,
  ⟨none, some 64, .fieldAddr 35 (.tmp 63) 1⟩,
  ⟨none, none, .store 3 (.tmp 64) (.tmp 62)⟩]
def r3_29_w {E fr h Q} := @opsW_unf E fr h Q _ _ r3_29.eq_1
def s3_30 : GC := .ops r3_29
def s3_30_w {E nt rd fr h Q} := @wp_unf E nt rd fr h Q _ _ s3_30.eq_1
def s3_31 : GC := .seq (.block 1 s3_30) s3_28
def s3_31_w {E nt rd fr h Q} := @wp_unf E nt rd fr h Q _ _ s3_31.eq_1
def s3_32 : GC := .cond (.tmp 53) .skip (.exit 0)
def s3_32_w {E nt rd fr h Q} := @wp_unf E nt rd fr h Q _ _ s3_32.eq_1
def r3_33 : List GO := [⟨none, some 49, .move (.tmp 7)⟩,
  ⟨none, some 50, .fieldAddr 28 (.tmp 6) 1⟩,
  ⟨none, some 51, .load 26 (.tmp 50)⟩,
  ⟨none, some 52, .call ⟨.builtin .len, ⟨[.tmp 51]⟩, ⟨[26]⟩⟩⟩,
  ⟨none, some 53, .binOp .lss 3 (.tmp 49) (.tmp 52) 3⟩]
def r3_33_w {E fr h Q} := @opsW_unf E fr h Q _ _ r3_33.eq_1
def s3_34 : GC := .seq (.ops r3_33) s3_32
def s3_34_w {E nt rd fr h Q} := @wp_unf E nt rd fr h Q _ _ s3_34.eq_1
def s3_35 : GC := .seq (s3_34) s3_31
def s3_35_w {E nt rd fr h Q} := @wp_unf E nt rd fr h Q _ _ s3_35.eq_1
def s3_36 : GC := .loop s3_35
def s3_36_w {E nt rd fr h Q} := @wp_unf E nt rd fr h Q _ _ s3_36.eq_1
def s3_37 : GC := .block 0 s3_36
def s3_37_w {E nt rd fr h Q} := @wp_unf E nt rd fr h Q _ _ s3_37.eq_1
def r3_38 : List GO := [⟨none, some 7, .assign (.const (.int .i64 0))⟩]
def r3_38_w {E fr h Q} := @opsW_unf E fr h Q _ _ r3_38.eq_1
def s3_39 : GC := .seq (.ops r3_38) s3_37
def s3_39_w {E nt rd fr h Q} := @wp_unf E nt rd fr h Q _ _ s3_39.eq_1
def s3_40 : GC := .seq (s3_39) s3_26
def s3_40_w {E nt rd fr h Q} := @wp_unf E nt rd fr h Q _ _ s3_40.eq_1
def r3_41 : List GO := [⟨none, some 4, .assign (.const (.bool false))⟩]
def r3_41_w {E fr h Q} := @opsW_unf E fr h Q _ _ r3_41.eq_1
def s3_42 : GC := .seq (.ops r3_41) .ret
def s3_42_w {E nt rd fr h Q} := @wp_unf E nt rd fr h Q _ _ s3_42.eq_1
def s3_43 : GC := .cond (.tmp 48) s3_42 .skip
def s3_43_w {E nt rd fr h Q} := @wp_unf E nt rd fr h Q _ _ s3_43.eq_1
def p3_44 : List (GO × List GO) := [(⟨none, some 21, .load 28 (.tmp 6)⟩, []),
  (⟨none, some 22, .load 28 (.tmp 2)⟩, []),
  (⟨none, some 23, .call ⟨.value (.func 10), ⟨[.tmp 21, .tmp 22]⟩, ⟨[28, 28]⟩⟩⟩, []),
  (⟨none, some 24, .unOp .not 4 (.tmp 23)⟩, []),
  (⟨none, some 25, .move (.tmp 24)⟩, []),
  (⟨some (25, false), some 26, .load 28 (.tmp 6)⟩, []),
  (⟨some (25, false), some 27, .load 28 (.tmp 5)⟩, []),
  (⟨some (25, false), some 28, .call ⟨.value (.func 11), ⟨[.tmp 26, .tmp 27]⟩, ⟨[28, 28]⟩⟩⟩, []),
  (⟨some (25, false), some 29, .unOp .not 4 (.tmp 28)⟩, []),
  (⟨none, some 30, .pick (.tmp 25) (.const (.bool true)) (.tmp 29)⟩, []),
  (⟨none, some 31, .move (.tmp 30)⟩, []),
  (⟨some (31, false), some 32, .load 28 (.tmp 5)⟩, []),
  (⟨some (31, false), some 33, .load 28 (.tmp 3)⟩, []),
  (⟨some (31, false), some 35, .load 28 (.tmp 2)⟩, []),
  (⟨some (31, false), some 36, .load 28 (.tmp 3)⟩, []),
  (⟨some (31, false), some 34, .call ⟨.value (.func 11), ⟨[.tmp 32, .tmp 33]⟩, ⟨[28, 28]⟩⟩⟩, [⟨some (31, false), some 35, .load 28 (.tmp 2)⟩, ⟨some (31, false), some 36, .load 28 (.tmp 3)⟩]),
  (⟨some (31, false), some 37, .call ⟨.value (.func 10), ⟨[.tmp 35, .tmp 36]⟩, ⟨[28, 28]⟩⟩⟩, []),
  (⟨some (31, false), some 38, .binOp .neq 4 (.tmp 34) (.tmp 37) 4⟩, []),
  (⟨none, some 39, .pick (.tmp 31) (.const (.bool true)) (.tmp 38)⟩, []),
  (⟨none, some 40, .move (.tmp 39)⟩, []),
  (⟨some (40, false), some 41, .load 28 (.tmp 3)⟩, []),
  (⟨some (40, false), some 42, .load 28 (.tmp 5)⟩, []),
  (⟨some (40, false), some 44, .load 28 (.tmp 2)⟩, []),
  (⟨some (40, false), some 45, .load 28 (.tmp 3)⟩, []),
  (⟨some (40, false), some 43, .call ⟨.value (.func 11), ⟨[.tmp 41, .tmp 42]⟩, ⟨[28, 28]⟩⟩⟩, [⟨some (40, false), some 44, .load 28 (.tmp 2)⟩, ⟨some (40, false), some 45, .load 28 (.tmp 3)⟩]),
  (⟨some (40, false), some 46, .call ⟨.value (.func 10), ⟨[.tmp 44, .tmp 45]⟩, ⟨[28, 28]⟩⟩⟩, []),
  (⟨some (40, false), some 47, .binOp .neq 4 (.tmp 43) (.tmp 46) 4⟩, []),
  (⟨none, some 48, .pick (.tmp 40) (.const (.bool true)) (.tmp 47)⟩, [])]
def p3_44_w {E fr h Q} := @planW_unf E fr h Q _ _ p3_44.eq_1
def s3_45 : GC := .seq (.plan p3_44) s3_43
def s3_45_w {E nt rd fr h Q} := @wp_unf E nt rd fr h Q _ _ s3_45.eq_1
def s3_46 : GC := .seq (s3_45) s3_40
def s3_46_w {E nt rd fr h Q} := @wp_unf E nt rd fr h Q _ _ s3_46.eq_1
def r3_47 : List GO := [⟨none, some 19, .load 28 (.tmp 5)⟩,
  ⟨none, some 20, .call ⟨.value (.func 9), ⟨[.tmp 19]⟩, ⟨[28]⟩⟩⟩,
  ⟨none, some 6, .alloc 28⟩,
  ⟨none, none, .store 28 (.tmp 6) (.tmp 20)⟩]
def r3_47_w {E fr h Q} := @opsW_unf E fr h Q _ _ r3_47.eq_1
def s3_48 : GC := .seq (.ops r3_47) s3_46
def s3_48_w {E nt rd fr h Q} := @wp_unf E nt rd fr h Q _ _ s3_48.eq_1
def r3_49 : List GO := [⟨none, some 17, .load 28 (.tmp 2)⟩,
  ⟨none, some 18, .call ⟨.value (.func 8), ⟨[.tmp 17]⟩, ⟨[28]⟩⟩⟩,
  ⟨none, some 5, .alloc 28⟩,
  ⟨none, none, .store 28 (.tmp 5) (.tmp 18)⟩]
def r3_49_w {E fr h Q} := @opsW_unf E fr h Q _ _ r3_49.eq_1
def s3_50 : GC := .seq (.ops r3_49) s3_48
def s3_50_w {E nt rd fr h Q} := @wp_unf E nt rd fr h Q _ _ s3_50.eq_1
def r3_51 : List GO := [⟨none, some 16, .call ⟨.value (.func 7), ⟨[]⟩, ⟨[]⟩⟩⟩,
  ⟨none, some 4, .assign (.tmp 16)⟩]
def r3_51_w {E fr h Q} := @opsW_unf E fr h Q _ _ r3_51.eq_1
def s3_52 : GC := .seq (.ops r3_51) .ret
def s3_52_w {E nt rd fr h Q} := @wp_unf E nt rd fr h Q _ _ s3_52.eq_1
def s3_53 : GC := .cond (.tmp 15) s3_52 .skip
def s3_53_w {E nt rd fr h Q} := @wp_unf E nt rd fr h Q _ _ s3_53.eq_1
def r3_54 : List GO := [⟨none, some 10, .load 28 (.tmp 2)⟩,
  ⟨none, some 11, .call ⟨.value (.func 6), ⟨[.tmp 10]⟩, ⟨[28]⟩⟩⟩,
  ⟨none, some 12, .move (.tmp 11)⟩,
  ⟨some (12, false), some 13, .load 28 (.tmp 3)⟩,
  ⟨some (12, false), some 14, .call ⟨.value (.func 6), ⟨[.tmp 13]⟩, ⟨[28]⟩⟩⟩,
  ⟨none, some 15, .pick (.tmp 12) (.const (.bool true)) (.tmp 14)⟩]
def r3_54_w {E fr h Q} := @opsW_unf E fr h Q _ _ r3_54.eq_1
def s3_55 : GC := .seq (.ops r3_54) s3_53
def s3_55_w {E nt rd fr h Q} := @wp_unf E nt rd fr h Q _ _ s3_55.eq_1
def s3_56 : GC := .seq (s3_55) s3_50
def s3_56_w {E nt rd fr h Q} := @wp_unf E nt rd fr h Q _ _ s3_56.eq_1
def r3_57 : List GO := [⟨none, some 2, .box 28 (.tmp 0)⟩,
  ⟨none, some 3, .box 28 (.tmp 1)⟩,
  ⟨none, some 4, .assign (.const (.bool false))⟩]
def r3_57_w {E fr h Q} := @opsW_unf E fr h Q _ _ r3_57.eq_1
def s3_58 : GC := .seq (.ops r3_57) s3_56
def s3_58_w {E nt rd fr h Q} := @wp_unf E nt rd fr h Q _ _ s3_58.eq_1
theorem c3 : Tryz.f3.body.bind (clean env 101) = some s3_58 := by kernel_rfl
theorem e3 : env.funs.get 3 = some Tryz.f3 := by kernel_rfl
theorem F3 {args : List Value} {h : Heap} {K : Value → Heap → Prop} (hl : args.length = 2) (w : s3_58.wp env 101 none (setAll args 0 .leaf) h (resK env [.tmp 4] K)) : Ret env (.func 3) args h K :=
  Ret.of_body' rfl e3 c3 rfl rfl (by rw [hl]; decide) w
/-! helmsman/helmsmanlaw26.much -/
def r6_0 : List GO := [⟨none, some 3, .fieldAddr 28 (.tmp 1) 0⟩,
  ⟨none, some 4, .load 25 (.tmp 3)⟩,
  ⟨none, some 5, .call ⟨.value (.func 18), ⟨[.tmp 4]⟩, ⟨[25]⟩⟩⟩,
  ⟨none, some 6, .move (.tmp 5)⟩,
  ⟨some (6, false), some 7, .fieldAddr 28 (.tmp 1) 1⟩,
  ⟨some (6, false), some 8, .load 26 (.tmp 7)⟩,
  ⟨some (6, false), some 9, .call ⟨.builtin .len, ⟨[.tmp 8]⟩, ⟨[26]⟩⟩⟩,
  ⟨some (6, false), some 10, .binOp .gtr 3 (.tmp 9) (.const (.int .i64 300)) 3⟩,
  ⟨none, some 11, .pick (.tmp 6) (.const (.bool true)) (.tmp 10)⟩,
  ⟨none, some 2, .assign (.tmp 11)⟩]
def r6_0_w {E fr h Q} := @opsW_unf E fr h Q _ _ r6_0.eq_1
def s6_1 : GC := .seq (.ops r6_0) .ret
def s6_1_w {E nt rd fr h Q} := @wp_unf E nt rd fr h Q _ _ s6_1.eq_1
def r6_2 : List GO := [⟨none, some 1, .box 28 (.tmp 0)⟩,
  ⟨none, some 2, .assign (.const (.bool false))⟩]
def r6_2_w {E fr h Q} := @opsW_unf E fr h Q _ _ r6_2.eq_1
def s6_3 : GC := .seq (.ops r6_2) s6_1
def s6_3_w {E nt rd fr h Q} := @wp_unf E nt rd fr h Q _ _ s6_3.eq_1
theorem c6 : Tryz.f6.body.bind (clean env 12) = some s6_3 := by kernel_rfl
theorem e6 : env.funs.get 6 = some Tryz.f6 := by kernel_rfl
theorem F6 {args : List Value} {h : Heap} {K : Value → Heap → Prop} (hl : args.length = 1) (w : s6_3.wp env 12 none (setAll args 0 .leaf) h (resK env [.tmp 2] K)) : Ret env (.func 6) args h K :=
  Ret.of_body' rfl e6 c6 rfl rfl (by rw [hl]; decide) w
/-! helmsman/helmsmanlaw26.own -/
def r8_0 : List GO := [⟨none, some 30, .load 28 (.tmp 1)⟩,
  ⟨none, none, .store 28 (.tmp 2) (.tmp 30)⟩]
def r8_0_w {E fr h Q} := @opsW_unf E fr h Q _ _ r8_0.eq_1
def s8_1 : GC := .seq (.ops r8_0) .ret
def s8_1_w {E nt rd fr h Q} := @wp_unf E nt rd fr h Q _ _ s8_1.eq_1
def r8_2 : List GO := [⟨none, some 26, .fieldAddr 28 (.tmp 1) 1⟩,
  ⟨none, some 27, .load 26 (.tmp 26)⟩,
  ⟨none, some 28, .call ⟨.builtin .append, ⟨[.const (.slice none 0 0), .tmp 27]⟩, ⟨[26, 26]⟩⟩⟩,
  ⟨none, some 29, .fieldAddr 28 (.tmp 1) 1⟩,
  ⟨none, none, .store 26 (.tmp 29) (.tmp 28)⟩]
def r8_2_w {E fr h Q} := @opsW_unf E fr h Q _ _ r8_2.eq_1
def s8_3 : GC := .seq (.ops r8_2) s8_1
def s8_3_w {E nt rd fr h Q} := @wp_unf E nt rd fr h Q _ _ s8_3.eq_1
def r8_4 : List GO := [⟨none, some 23, .move (.tmp 3)⟩,
  ⟨none, some 24, .fieldAddr 28 (.tmp 1) 0⟩,
  ⟨none, some 25, .fieldAddr 25 (.tmp 24) 14⟩,
  ⟨none, none, .store 23 (.tmp 25) (.tmp 23)⟩]
def r8_4_w {E fr h Q} := @opsW_unf E fr h Q _ _ r8_4.eq_1
def s8_5 : GC := .seq (.ops r8_4) s8_3
def s8_5_w {E nt rd fr h Q} := @wp_unf E nt rd fr h Q _ _ s8_5.eq_1
def r8_6 : List GO := [⟨none, some 11, .move (.tmp 4)⟩,
  ⟨none, some 12, .binOp .add 3 (.tmp 11) (.const (.int .i64 1)) 3⟩,
  ⟨none, some 4, .assign (.tmp 12)⟩]
def r8_6_w {E fr h Q} := @opsW_unf E fr h Q _ _ r8_6.eq_1
def s8_7 : GC := .ops r8_6
def s8_7_w {E nt rd fr h Q} := @wp_unf E nt rd fr h Q _ _ s8_7.eq_1
def r8_8 : List GO := [⟨none, some 13, .move (.tmp 3)⟩,
  ⟨none, some 14, .fieldAddr 28 (.tmp 1) 0⟩,
  ⟨none, some 15, .fieldAddr 25 (.tmp 14) 14⟩,
  ⟨none, some 16, .load 23 (.tmp 15)⟩,
  ⟨none, some 17, .move (.tmp 4)⟩,
  ⟨none, some 18, .indexAddr 23 (.tmp 16) (.tmp 17)⟩,
  ⟨none, some 19, .load 36 (.tmp 18)⟩,
  ⟨none, some 20, .call ⟨.builtin .append, ⟨[.const (.slice none 0 0), .tmp 19]⟩, ⟨[36, 36]⟩⟩⟩,
  ⟨none, some 21, .buildSlice 23 1 ⟨[(0, .tmp 20)]⟩⟩,
  ⟨none, some 22, .call ⟨.builtin .append, ⟨[.tmp 13, .tmp 21]⟩, ⟨[23, 23]⟩⟩⟩,
  ⟨none, some 3, .assign (.tmp 22)⟩]
def r8_8_w {E fr h Q} := @opsW_unf E fr h Q _ _ r8_8.eq_1
def s8_9 : GC := .ops r8_8
def s8_9_w {E nt rd fr h Q} := @wp_unf E nt rd fr h Q _ _ s8_9.eq_1
def s8_10 : GC := .seq (.block 1 s8_9) s8_7
def s8_10_w {E nt rd fr h Q} := @wp_unf E nt rd fr h Q _ _ s8_10.eq_1
def s8_11 : GC := .cond (.tmp 10) .skip (.exit 0)
def s8_11_w {E nt rd fr h Q} := @wp_unf E nt rd fr h Q _ _ s8_11.eq_1
def r8_12 : List GO := [⟨none, some 5, .move (.tmp 4)⟩,
  ⟨none, some 6, .fieldAddr 28 (.tmp 1) 0⟩,
  ⟨none, some 7, .fieldAddr 25 (.tmp 6) 14⟩,
  ⟨none, some 8, .load 23 (.tmp 7)⟩,
  ⟨none, some 9, .call ⟨.builtin .len, ⟨[.tmp 8]⟩, ⟨[23]⟩⟩⟩,
  ⟨none, some 10, .binOp .lss 3 (.tmp 5) (.tmp 9) 3⟩]
def r8_12_w {E fr h Q} := @opsW_unf E fr h Q _ _ r8_12.eq_1
def s8_13 : GC := .seq (.ops r8_12) s8_11
def s8_13_w {E nt rd fr h Q} := @wp_unf E nt rd fr h Q _ _ s8_13.eq_1
def s8_14 : GC := .seq (s8_13) s8_10
def s8_14_w {E nt rd fr h Q} := @wp_unf E nt rd fr h Q _ _ s8_14.eq_1
def s8_15 : GC := .loop s8_14
def s8_15_w {E nt rd fr h Q} := @wp_unf E nt rd fr h Q _ _ s8_15.eq_1
def s8_16 : GC := .block 0 s8_15
def s8_16_w {E nt rd fr h Q} := @wp_unf E nt rd fr h Q _ _ s8_16.eq_1
def r8_17 : List GO := [⟨none, some 4, .assign (.const (.int .i64 0))⟩]
def r8_17_w {E fr h Q} := @opsW_unf E fr h Q _ _ r8_17.eq_1
def s8_18 : GC := .seq (.ops r8_17) s8_16
def s8_18_w {E nt rd fr h Q} := @wp_unf E nt rd fr h Q _ _ s8_18.eq_1
def s8_19 : GC := .seq (s8_18) s8_5
def s8_19_w {E nt rd fr h Q} := @wp_unf E nt rd fr h Q _ _ s8_19.eq_1
def r8_20 : List GO := [⟨none, some 3, .assign (.const (.slice none 0 0))⟩]
def r8_20_w {E fr h Q} := @opsW_unf E fr h Q _ _ r8_20.eq_1
def s8_21 : GC := .seq (.ops r8_20) s8_19
def s8_21_w {E nt rd fr h Q} := @wp_unf E nt rd fr h Q _ _ s8_21.eq_1
def r8_22 : List GO := [⟨none, some 1, .box 28 (.tmp 0)⟩,
  ⟨none, some 2, .alloc 28⟩]
def r8_22_w {E fr h Q} := @opsW_unf E fr h Q _ _ r8_22.eq_1
def s8_23 : GC := .seq (.ops r8_22) s8_21
def s8_23_w {E nt rd fr h Q} := @wp_unf E nt rd fr h Q _ _ s8_23.eq_1
theorem c8 : Tryz.f8.body.bind (clean env 31) = some s8_23 := by kernel_rfl
theorem e8 : env.funs.get 8 = some Tryz.f8 := by kernel_rfl
theorem F8 {args : List Value} {h : Heap} {K : Value → Heap → Prop} (hl : args.length = 1) (w : s8_23.wp env 31 none (setAll args 0 .leaf) h (resK env [.cell 2 28] K)) : Ret env (.func 8) args h K :=
  Ret.of_body' rfl e8 c8 rfl rfl (by rw [hl]; decide) w
/-! helmsman/script.Copy -/
def p9_0 : List (GO × List GO) := [(⟨none, some 3, .fieldAddr 28 (.tmp 1) 0⟩, []),
  (⟨none, some 4, .load 25 (.tmp 3)⟩, []),
  (⟨none, some 6, .fieldAddr 28 (.tmp 1) 1⟩, []),
  (⟨none, some 7, .load 26 (.tmp 6)⟩, []),
  (⟨none, some 5, .call ⟨.value (.func 20), ⟨[.tmp 4]⟩, ⟨[25]⟩⟩⟩, [⟨none, some 7, .load 26 (.tmp 6)⟩]),
  (⟨none, some 8, .call ⟨.value (.func 21), ⟨[.tmp 7]⟩, ⟨[26]⟩⟩⟩, []),
  (⟨none, some 9, .build 28 ⟨[(0, .tmp 5), (1, .tmp 8)]⟩⟩, []),
  (⟨none, none, .store 28 (.tmp 2) (.tmp 9)⟩, [])]
def p9_0_w {E fr h Q} := @planW_unf E fr h Q _ _ p9_0.eq_1
def s9_1 : GC := .seq (.plan p9_0) .ret
def s9_1_w {E nt rd fr h Q} := @wp_unf E nt rd fr h Q _ _ s9_1.eq_1
def r9_2 : List GO := [⟨none, some 1, .box 28 (.tmp 0)⟩,
  ⟨none, some 2, .alloc 28⟩]
def r9_2_w {E fr h Q} := @opsW_unf E fr h Q _ _ r9_2.eq_1
def s9_3 : GC := .seq (.ops r9_2) s9_1
def s9_3_w {E nt rd fr h Q} := @wp_unf E nt rd fr h Q _ _ s9_3.eq_1
theorem c9 : Tryz.f9.body.bind (clean env 10) = some s9_3 := by kernel_rfl
theorem e9 : env.funs.get 9 = some Tryz.f9 := by kernel_rfl
theorem F9 {args : List Value} {h : Heap} {K : Value → Heap → Prop} (hl : args.length = 1) (w : s9_3.wp env 10 none (setAll args 0 .leaf) h (resK env [.cell 2 28] K)) : Ret env (.func 9) args h K :=
  Ret.of_body' rfl e9 c9 rfl rfl (by rw [hl]; decide) w
/-! helmsman/helmsmanref26.Same -/
def r10_0 : List GO := [⟨none, some 4, .assign (.const (.bool true))⟩]
def r10_0_w {E fr h Q} := @opsW_unf E fr h Q _ _ r10_0.eq_1
def s10_1 : GC := .seq (.ops r10_0) .ret
def s10_1_w {E nt rd fr h Q} := @wp_unf E nt rd fr h Q _ _ s10_1.eq_1
def r10_2 : List GO := [⟨none, some 26, .move (.tmp 5)⟩,
  ⟨none, some 27, .binOp .add 3 (.tmp 26) (.const (.int .i64 1)) 3⟩,
  ⟨none, some 5, .assign (.tmp 27)⟩]
def r10_2_w {E fr h Q} := @opsW_unf E fr h Q _ _ r10_2.eq_1
def s10_3 : GC := .ops r10_2
def s10_3_w {E nt rd fr h Q} := @wp_unf E nt rd fr h Q _ _ s10_3.eq_1
def r10_4 : List GO := [⟨none, some 4, .assign (.const (.bool false))⟩]
def r10_4_w {E fr h Q} := @opsW_unf E fr h Q _ _ r10_4.eq_1
def s10_5 : GC := .seq (.ops r10_4) .ret
def s10_5_w {E nt rd fr h Q} := @wp_unf E nt rd fr h Q _ _ s10_5.eq_1
def s10_6 : GC := .cond (.tmp 38) s10_5 .skip
def s10_6_w {E nt rd fr h Q} := @wp_unf E nt rd fr h Q _ _ s10_6.eq_1
def p10_7 : List (GO × List GO) := [(⟨none, some 28, .fieldAddr 28 (.tmp 2) 1⟩, []),
  (⟨none, some 29, .load 26 (.tmp 28)⟩, []),
  (⟨none, some 30, .move (.tmp 5)⟩, []),
  (⟨none, some 31, .indexAddr 26 (.tmp 29) (.tmp 30)⟩, []),
  (⟨none, some 32, .load 35 (.tmp 31)⟩, []),
  (⟨none, some 33, .fieldAddr 28 (.tmp 3) 1⟩, []),
  (⟨none, some 34, .load 26 (.tmp 33)⟩, []),
  (⟨none, some 35, .move (.tmp 5)⟩, []),
  (⟨none, some 36, .indexAddr 26 (.tmp 34) (.tmp 35)⟩, []),
  (⟨none, some 37, .load 35 (.tmp 36)⟩, []),
  (⟨none, some 38, .binOp .neq 35 (.tmp 32) (.tmp 37) 35⟩, [])]
def p10_7_w {E fr h Q} := @planW_unf E fr h Q _ _ p10_7.eq_1
def s10_8 : GC := .seq (.plan p10_7) s10_6
def s10_8_w {E nt rd fr h Q} := @wp_unf E nt rd fr h Q _ _ s10_8.eq_1
def s10_9 : GC := .seq (.block 1 s10_8) s10_3
def s10_9_w {E nt rd fr h Q} := @wp_unf E nt rd fr h Q _ _ s10_9.eq_1
def s10_10 : GC := .cond (.tmp 25) .skip (.exit 0)
def s10_10_w {E nt rd fr h Q} := @wp_unf E nt rd fr h Q _ _ s10_10.eq_1
def r10_11 : List GO := [⟨none, some 21, .move (.tmp 5)⟩,
  ⟨none, some 22, .fieldAddr 28 (.tmp 2) 1⟩,
  ⟨none, some 23, .load 26 (.tmp 22)⟩,
  ⟨none, some 24, .call ⟨.builtin .len, ⟨[.tmp 23]⟩, ⟨[26]⟩⟩⟩,
  ⟨none, some 25, .binOp .lss 3 (.tmp 21) (.tmp 24) 3⟩]
def r10_11_w {E fr h Q} := @opsW_unf E fr h Q _ _ r10_11.eq_1
def s10_12 : GC := .seq (.ops r10_11) s10_10
def s10_12_w {E nt rd fr h Q} := @wp_unf E nt rd fr h Q _ _ s10_12.eq_1
def s10_13 : GC := .seq (s10_12) s10_9
def s10_13_w {E nt rd fr h Q} := @wp_unf E nt rd fr h Q _ _ s10_13.eq_1
def s10_14 : GC := .loop s10_13
def s10_14_w {E nt rd fr h Q} := @wp_unf E nt rd fr h Q _ _ s10_14.eq_1
def s10_15 : GC := .block 0 s10_14
def s10_15_w {E nt rd fr h Q} := @wp_unf E nt rd fr h Q _ _ s10_15.eq_1
def r10_16 : List GO := [⟨none, some 5, .assign (.const (.int .i64 0))⟩]
def r10_16_w {E fr h Q} := @opsW_unf E fr h Q _ _ r10_16.eq_1
def s10_17 : GC := .seq (.ops r10_16) s10_15
def s10_17_w {E nt rd fr h Q} := @wp_unf E nt rd fr h Q _ _ s10_17.eq_1
def s10_18 : GC := .seq (s10_17) s10_1
def s10_18_w {E nt rd fr h Q} := @wp_unf E nt rd fr h Q _ _ s10_18.eq_1
def r10_19 : List GO := [⟨none, some 4, .assign (.const (.bool false))⟩]
def r10_19_w {E fr h Q} := @opsW_unf E fr h Q _ _ r10_19.eq_1
def s10_20 : GC := .seq (.ops r10_19) .ret
def s10_20_w {E nt rd fr h Q} := @wp_unf E nt rd fr h Q _ _ s10_20.eq_1
def s10_21 : GC := .cond (.tmp 20) s10_20 .skip
def s10_21_w {E nt rd fr h Q} := @wp_unf E nt rd fr h Q _ _ s10_21.eq_1
def r10_22 : List GO := [⟨none, some 6, .fieldAddr 28 (.tmp 2) 0⟩,
  ⟨none, some 7, .load 25 (.tmp 6)⟩,
  ⟨none, some 8, .fieldAddr 28 (.tmp 3) 0⟩,
  ⟨none, some 9, .load 25 (.tmp 8)⟩,
  ⟨none, some 10, .call ⟨.value (.func 22), ⟨[.tmp 7, .tmp 9]⟩, ⟨[25, 25]⟩⟩⟩,
  ⟨none, some 11, .unOp .not 4 (.tmp 10)⟩,
  ⟨none, some 12, .move (.tmp 11)⟩,
  ⟨some (12, false), some 13, .fieldAddr 28 (.tmp 2) 1⟩,
  ⟨some (12, false), some 14, .load 26 (.tmp 13)⟩,
  ⟨some (12, false), some 15, .call ⟨.builtin .len, ⟨[.tmp 14]⟩, ⟨[26]⟩⟩⟩,
  ⟨some (12, false), some 16, .fieldAddr 28 (.tmp 3) 1⟩,
  ⟨some (12, false), some 17, .load 26 (.tmp 16)⟩,
  ⟨some (12, false), some 18, .call ⟨.builtin .len, ⟨[.tmp 17]⟩, ⟨[26]⟩⟩⟩,
  ⟨some (12, false), some 19, .binOp .neq 3 (.tmp 15) (.tmp 18) 3⟩,
  ⟨none, some 20, .pick (.tmp 12) (.const (.bool true)) (.tmp 19)⟩]
def r10_22_w {E fr h Q} := @opsW_unf E fr h Q _ _ r10_22.eq_1
def s10_23 : GC := .seq (.ops r10_22) s10_21
def s10_23_w {E nt rd fr h Q} := @wp_unf E nt rd fr h Q _ _ s10_23.eq_1
def s10_24 : GC := .seq (s10_23) s10_18
def s10_24_w {E nt rd fr h Q} := @wp_unf E nt rd fr h Q _ _ s10_24.eq_1
def r10_25 : List GO := [⟨none, some 2, .box 28 (.tmp 0)⟩,
  ⟨none, some 3, .box 28 (.tmp 1)⟩,
  ⟨none, some 4, .assign (.const (.bool false))⟩]
def r10_25_w {E fr h Q} := @opsW_unf E fr h Q _ _ r10_25.eq_1
def s10_26 : GC := .seq (.ops r10_25) s10_24
def s10_26_w {E nt rd fr h Q} := @wp_unf E nt rd fr h Q _ _ s10_26.eq_1
theorem c10 : Tryz.f10.body.bind (clean env 39) = some s10_26 := by kernel_rfl
theorem e10 : env.funs.get 10 = some Tryz.f10 := by kernel_rfl
theorem F10 {args : List Value} {h : Heap} {K : Value → Heap → Prop} (hl : args.length = 2) (w : s10_26.wp env 39 none (setAll args 0 .leaf) h (resK env [.tmp 4] K)) : Ret env (.func 10) args h K :=
  Ret.of_body' rfl e10 c10 rfl rfl (by rw [hl]; decide) w
/-! helmsman/script.Same -/
def r11_0 : List GO := [⟨none, some 5, .fieldAddr 28 (.tmp 2) 0⟩,
  ⟨none, some 6, .load 25 (.tmp 5)⟩,
  ⟨none, some 7, .fieldAddr 28 (.tmp 3) 0⟩,
  ⟨none, some 8, .load 25 (.tmp 7)⟩,
  ⟨none, some 9, .call ⟨.value (.func 23), ⟨[.tmp 6, .tmp 8]⟩, ⟨[25, 25]⟩⟩⟩,
  ⟨none, some 10, .move (.tmp 9)⟩,
  ⟨some (10, true), some 11, .fieldAddr 28 (.tmp 2) 1⟩,
  ⟨some (10, true), some 12, .load 26 (.tmp 11)⟩,
  ⟨some (10, true), some 13, .fieldAddr 28 (.tmp 3) 1⟩,
  ⟨some (10, true), some 14, .load 26 (.tmp 13)⟩,
  ⟨some (10, true), some 15, .call ⟨.value (.func 24), ⟨[.tmp 12, .tmp 14]⟩, ⟨[26, 26]⟩⟩⟩,
  ⟨none, some 16, .pick (.tmp 10) (.tmp 15) (.const (.bool false))⟩,
  ⟨none, some 4, .assign (.tmp 16)⟩]
def r11_0_w {E fr h Q} := @opsW_unf E fr h Q _ _ r11_0.eq_1
def s11_1 : GC := .seq (.ops r11_0) .ret
def s11_1_w {E nt rd fr h Q} := @wp_unf E nt rd fr h Q _ _ s11_1.eq_1
def r11_2 : List GO := [⟨none, some 2, .box 28 (.tmp 0)⟩,
  ⟨none, some 3, .box 28 (.tmp 1)⟩,
  ⟨none, some 4, .assign (.const (.bool false))⟩]
def r11_2_w {E fr h Q} := @opsW_unf E fr h Q _ _ r11_2.eq_1
def s11_3 : GC := .seq (.ops r11_2) s11_1
def s11_3_w {E nt rd fr h Q} := @wp_unf E nt rd fr h Q _ _ s11_3.eq_1
theorem c11 : Tryz.f11.body.bind (clean env 17) = some s11_3 := by kernel_rfl
theorem e11 : env.funs.get 11 = some Tryz.f11 := by kernel_rfl
theorem F11 {args : List Value} {h : Heap} {K : Value → Heap → Prop} (hl : args.length = 2) (w : s11_3.wp env 17 none (setAll args 0 .leaf) h (resK env [.tmp 4] K)) : Ret env (.func 11) args h K :=
  Ret.of_body' rfl e11 c11 rfl rfl (by rw [hl]; decide) w
/-! helmsman/helmsmanref18.Much -/
def r18_0 : List GO := [⟨none, some 24, .fieldAddr 25 (.tmp 1) 14⟩,
  ⟨none, some 25, .load 23 (.tmp 24)⟩,
  ⟨none, some 26, .call ⟨.builtin .len, ⟨[.tmp 25]⟩, ⟨[23]⟩⟩⟩,
  ⟨none, some 27, .binOp .gtr 3 (.tmp 26) (.const (.int .i64 40)) 3⟩,
  ⟨none, some 28, .move (.tmp 27)⟩,
  ⟨some (28, false), some 29, .move (.tmp 3)⟩,
  ⟨some (28, false), some 30, .binOp .gtr 3 (.tmp 29) (.const (.int .i64 40000)) 3⟩,
  ⟨none, some 31, .pick (.tmp 28) (.const (.bool true)) (.tmp 30)⟩,
  ⟨none, some 2, .assign (.tmp 31)⟩]
def r18_0_w {E fr h Q} := @opsW_unf E fr h Q _ _ r18_0.eq_1
def s18_1 : GC := .seq (.ops r18_0) .ret
def s18_1_w {E nt rd fr h Q} := @wp_unf E nt rd fr h Q _ _ s18_1.eq_1
def r18_2 : List GO := [⟨none, some 14, .move (.tmp 4)⟩,
  ⟨none, some 15, .binOp .add 3 (.tmp 14) (.const (.int .i64 1)) 3⟩,
  ⟨none, some 4, .assign (.tmp 15)⟩]
def r18_2_w {E fr h Q} := @opsW_unf E fr h Q _ _ r18_2.eq_1
def s18_3 : GC := .ops r18_2
def s18_3_w {E nt rd fr h Q} := @wp_unf E nt rd fr h Q _ _ s18_3.eq_1
def r18_4 : List GO := [⟨none, some 16, .move (.tmp 3)⟩,
  ⟨none, some 17, .fieldAddr 25 (.tmp 1) 14⟩,
  ⟨none, some 18, .load 23 (.tmp 17)⟩,
  ⟨none, some 19, .move (.tmp 4)⟩,
  ⟨none, some 20, .indexAddr 23 (.tmp 18) (.tmp 19)⟩,
  ⟨none, some 21, .load 36 (.tmp 20)⟩,
  ⟨none, some 22, .call ⟨.builtin .len, ⟨[.tmp 21]⟩, ⟨[36]⟩⟩⟩,
  ⟨none, some 23, .binOp .add 3 (.tmp 16) (.tmp 22) 3⟩,
  ⟨none, some 3, .assign (.tmp 23)⟩]
def r18_4_w {E fr h Q} := @opsW_unf E fr h Q _ _ r18_4.eq_1
def s18_5 : GC := .ops r18_4
def s18_5_w {E nt rd fr h Q} := @wp_unf E nt rd fr h Q _ _ s18_5.eq_1
def s18_6 : GC := .seq (.block 1 s18_5) s18_3
def s18_6_w {E nt rd fr h Q} := @wp_unf E nt rd fr h Q _ _ s18_6.eq_1
def s18_7 : GC := .cond (.tmp 13) .skip (.exit 0)
def s18_7_w {E nt rd fr h Q} := @wp_unf E nt rd fr h Q _ _ s18_7.eq_1
def r18_8 : List GO := [⟨none, some 5, .move (.tmp 4)⟩,
  ⟨none, some 6, .fieldAddr 25 (.tmp 1) 14⟩,
  ⟨none, some 7, .load 23 (.tmp 6)⟩,
  ⟨none, some 8, .call ⟨.builtin .len, ⟨[.tmp 7]⟩, ⟨[23]⟩⟩⟩,
  ⟨none, some 9, .binOp .lss 3 (.tmp 5) (.tmp 8) 3⟩,
  ⟨none, some 10, .move (.tmp 9)⟩,
  ⟨some (10, true), some 11, .move (.tmp 4)⟩,
  ⟨some (10, true), some 12, .binOp .leq 3 (.tmp 11) (.const (.int .i64 40)) 3⟩,
  ⟨none, some 13, .pick (.tmp 10) (.tmp 12) (.const (.bool false))⟩]
def r18_8_w {E fr h Q} := @opsW_unf E fr h Q _ _ r18_8.eq_1
def s18_9 : GC := .seq (.ops r18_8) s18_7
def s18_9_w {E nt rd fr h Q} := @wp_unf E nt rd fr h Q _ _ s18_9.eq_1
def s18_10 : GC := .seq (s18_9) s18_6
def s18_10_w {E nt rd fr h Q} := @wp_unf E nt rd fr h Q _ _ s18_10.eq_1
def s18_11 : GC := .loop s18_10
def s18_11_w {E nt rd fr h Q} := @wp_unf E nt rd fr h Q _ _ s18_11.eq_1
def s18_12 : GC := .block 0 s18_11
def s18_12_w {E nt rd fr h Q} := @wp_unf E nt rd fr h Q _ _ s18_12.eq_1
def r18_13 : List GO := [⟨none, some 4, .assign (.const (.int .i64 0))⟩]
def r18_13_w {E fr h Q} := @opsW_unf E fr h Q _ _ r18_13.eq_1
def s18_14 : GC := .seq (.ops r18_13) s18_12
def s18_14_w {E nt rd fr h Q} := @wp_unf E nt rd fr h Q _ _ s18_14.eq_1
def s18_15 : GC := .seq (s18_14) s18_1
def s18_15_w {E nt rd fr h Q} := @wp_unf E nt rd fr h Q _ _ s18_15.eq_1
def r18_16 : List GO := [⟨none, some 3, .assign (.const (.int .i64 0))⟩]
def r18_16_w {E fr h Q} := @opsW_unf E fr h Q _ _ r18_16.eq_1
def s18_17 : GC := .seq (.ops r18_16) s18_15
def s18_17_w {E nt rd fr h Q} := @wp_unf E nt rd fr h Q _ _ s18_17.eq_1
def r18_18 : List GO := [⟨none, some 1, .box 25 (.tmp 0)⟩,
  ⟨none, some 2, .assign (.const (.bool false))⟩]
def r18_18_w {E fr h Q} := @opsW_unf E fr h Q _ _ r18_18.eq_1
def s18_19 : GC := .seq (.ops r18_18) s18_17
def s18_19_w {E nt rd fr h Q} := @wp_unf E nt rd fr h Q _ _ s18_19.eq_1
theorem c18 : Tryz.f18.body.bind (clean env 32) = some s18_19 := by kernel_rfl
theorem e18 : env.funs.get 18 = some Tryz.f18 := by kernel_rfl
theorem F18 {args : List Value} {h : Heap} {K : Value → Heap → Prop} (hl : args.length = 1) (w : s18_19.wp env 32 none (setAll args 0 .leaf) h (resK env [.tmp 2] K)) : Ret env (.func 18) args h K :=
  Ret.of_body' rfl e18 c18 rfl rfl (by rw [hl]; decide) w
/-! helmsman/config.Copy -/
def r20_0 : List GO := [⟨none, some 23, .load 25 (.tmp 1)⟩,
  ⟨none, none, .store 25 (.tmp 2) (.tmp 23)⟩]
def r20_0_w {E fr h Q} := @opsW_unf E fr h Q _ _ r20_0.eq_1
def s20_1 : GC := .seq (.ops r20_0) .ret
def s20_1_w {E nt rd fr h Q} := @wp_unf E nt rd fr h Q _ _ s20_1.eq_1
def r20_2 : List GO := [⟨none, some 22, .binOp .add 3 (.tmp 11) (.const (.int .i64 1)) 3⟩,
  ⟨none, some 11, .move (.tmp 22)⟩]
def r20_2_w {E fr h Q} := @opsW_unf E fr h Q _ _ r20_2.eq_1
def s20_3 : GC := .ops r20_2
def s20_3_w {E nt rd fr h Q} := @wp_unf E nt rd fr h Q _ _ s20_3.eq_1
def p20_4 : List (GO × List GO) := [(⟨none, some 15, .fieldAddr 25 (.tmp 1) 14⟩, []),
  (⟨none, some 16, .load 23 (.tmp 15)⟩, []),
  (⟨none, some 17, .move (.tmp 5)⟩, []),
  (⟨none, some 18, .call ⟨.value (.func 56), ⟨[.tmp 17]⟩, ⟨[36]⟩⟩⟩, [⟨none, some 16, .load 23 (.tmp 15)⟩]),
  (⟨none, some 19, .buildSlice 23 1 ⟨[(0, .tmp 18)]⟩⟩, []),
  (⟨none, some 20, .call ⟨.builtin .append, ⟨[.tmp 16, .tmp 19]⟩, ⟨[23, 23]⟩⟩⟩, []),
  (⟨none, some 21, .fieldAddr 25 (.tmp 1) 14⟩, []),
  (⟨none, none, .store 23 (.tmp 21) (.tmp 20)⟩, [])]
def p20_4_w {E fr h Q} := @planW_unf E fr h Q _ _ p20_4.eq_1
def s20_5 : GC := .plan p20_4
def s20_5_w {E nt rd fr h Q} := @wp_unf E nt rd fr h Q _ _ s20_5.eq_1
def r20_6 : List GO := [⟨none, some 13, .indexAddr 23 (.tmp 9) (.tmp 11)⟩,
  ⟨none, some 14, .load 36 (.tmp 13)⟩,
  ⟨none, some 5, .assign (.tmp 14)⟩]
def r20_6_w {E fr h Q} := @opsW_unf E fr h Q _ _ r20_6.eq_1
def s20_7 : GC := .seq (.ops r20_6) s20_5
def s20_7_w {E nt rd fr h Q} := @wp_unf E nt rd fr h Q _ _ s20_7.eq_1
def s20_8 : GC := .seq (.block 1 s20_7) s20_3
def s20_8_w {E nt rd fr h Q} := @wp_unf E nt rd fr h Q _ _ s20_8.eq_1
def s20_9 : GC := .cond (.tmp 12) .skip (.exit 0)
def s20_9_w {E nt rd fr h Q} := @wp_unf E nt rd fr h Q _ _ s20_9.eq_1
def s20_10 : GC := .seq (s20_9) s20_8
def s20_10_w {E nt rd fr h Q} := @wp_unf E nt rd fr h Q _ _ s20_10.eq_1
def r20_11 : List GO := [⟨none, some 12, .binOp .lss 3 (.tmp 11) (.tmp 10) 3⟩]
def r20_11_w {E fr h Q} := @opsW_unf E fr h Q _ _ r20_11.eq_1
def s20_12 : GC := .seq (.ops r20_11) s20_10
def s20_12_w {E nt rd fr h Q} := @wp_unf E nt rd fr h Q _ _ s20_12.eq_1
def s20_13 : GC := .loop s20_12
def s20_13_w {E nt rd fr h Q} := @wp_unf E nt rd fr h Q _ _ s20_13.eq_1
def s20_14 : GC := .block 0 s20_13
def s20_14_w {E nt rd fr h Q} := @wp_unf E nt rd fr h Q _ _ s20_14.eq_1
def r20_15 : List GO := [⟨none, some 9, .move (.tmp 3)⟩,
  ⟨none, some 10, .call ⟨.builtin .len, ⟨[.tmp 9]⟩, ⟨[23]⟩⟩⟩,
  ⟨none, some 11, .move (.const (.int .i64 0))⟩]
def r20_15_w {E fr h Q} := @opsW_unf E fr h Q _ _ r20_15.eq_1
def s20_16 : GC := .seq (.ops r20_15) s20_14
def s20_16_w {E nt rd fr h Q} := @wp_unf E nt rd fr h Q _ _ s20_16.eq_1
def s20_17 : GC := .seq (s20_16) s20_1
def s20_17_w {E nt rd fr h Q} := @wp_unf E nt rd fr h Q _ _ s20_17.eq_1
def r20_18 : List GO := [⟨none, some 8, .fieldAddr 25 (.tmp 1) 14⟩,
  ⟨none, none, .store 23 (.tmp 8) (.const (.slice none 0 0))⟩]
def r20_18_w {E fr h Q} := @opsW_unf E fr h Q _ _ r20_18.eq_1
def s20_19 : GC := .seq (.ops r20_18) s20_17
def s20_19_w {E nt rd fr h Q} := @wp_unf E nt rd fr h Q _ _ s20_19.eq_1
def r20_20 : List GO := [⟨none, some 6, .fieldAddr 25 (.tmp 1) 14⟩,
  ⟨none, some 7, .load 23 (.tmp 6)⟩,
  ⟨none, some 3, .assign (.tmp 7)⟩]
def r20_20_w {E fr h Q} := @opsW_unf E fr h Q _ _ r20_20.eq_1
def s20_21 : GC := .seq (.ops r20_20) s20_19
def s20_21_w {E nt rd fr h Q} := @wp_unf E nt rd fr h Q _ _ s20_21.eq_1
def r20_22 : List GO := [⟨none, some 1, .box 25 (.tmp 0)⟩,
  ⟨none, some 2, .alloc 25⟩]
def r20_22_w {E fr h Q} := @opsW_unf E fr h Q _ _ r20_22.eq_1
def s20_23 : GC := .seq (.ops r20_22) s20_21
def s20_23_w {E nt rd fr h Q} := @wp_unf E nt rd fr h Q _ _ s20_23.eq_1
theorem c20 : Tryz.f20.body.bind (clean env 24) = some s20_23 := by kernel_rfl
theorem e20 : env.funs.get 20 = some Tryz.f20 := by kernel_rfl
theorem F20 {args : List Value} {h : Heap} {K : Value → Heap → Prop} (hl : args.length = 1) (w : s20_23.wp env 24 none (setAll args 0 .leaf) h (resK env [.cell 2 25] K)) : Ret env (.func 20) args h K :=
  Ret.of_body' rfl e20 c20 rfl rfl (by rw [hl]; decide) w
/-! slices.Clone[[]helmsman/api.Act,helmsman/api.Act] -/
def r21_0 : List GO := [⟨none, some 5, .buildSlice 26 0 ⟨[]⟩⟩,
  ⟨none, some 6, .move (.tmp 0)⟩,
  ⟨none, some 7, .call ⟨.builtin .append, ⟨[.tmp 5, .tmp 6]⟩, ⟨[26, 26]⟩⟩⟩,
  ⟨none, some 2, .assign (.tmp 7)⟩]
def r21_0_w {E fr h Q} := @opsW_unf E fr h Q _ _ r21_0.eq_1
def s21_1 : GC := .seq (.ops r21_0) .ret
def s21_1_w {E nt rd fr h Q} := @wp_unf E nt rd fr h Q _ _ s21_1.eq_1
def r21_2 : List GO := [⟨none, some 2, .assign (.const (.slice none 0 0))⟩]
def r21_2_w {E fr h Q} := @opsW_unf E fr h Q _ _ r21_2.eq_1
def s21_3 : GC := .seq (.ops r21_2) .ret
def s21_3_w {E nt rd fr h Q} := @wp_unf E nt rd fr h Q _ _ s21_3.eq_1
def s21_4 : GC := .cond (.tmp 4) s21_3 .skip
def s21_4_w {E nt rd fr h Q} := @wp_unf E nt rd fr h Q _ _ s21_4.eq_1
def r21_5 : List GO := [⟨none, some 3, .move (.tmp 0)⟩,
  ⟨none, some 4, .binOp .eql 26 (.tmp 3) (.const (.slice none 0 0)) 26⟩]
def r21_5_w {E fr h Q} := @opsW_unf E fr h Q _ _ r21_5.eq_1
def s21_6 : GC := .seq (.ops r21_5) s21_4
def s21_6_w {E nt rd fr h Q} := @wp_unf E nt rd fr h Q _ _ s21_6.eq_1
def s21_7 : GC := .seq (s21_6) s21_1
def s21_7_w {E nt rd fr h Q} := @wp_unf E nt rd fr h Q _ _ s21_7.eq_1
def r21_8 : List GO := [⟨none, some 2, .assign (.const (.slice none 0 0))⟩]
def r21_8_w {E fr h Q} := @opsW_unf E fr h Q _ _ r21_8.eq_1
def s21_9 : GC := .seq (.ops r21_8) s21_7
def s21_9_w {E nt rd fr h Q} := @wp_unf E nt rd fr h Q _ _ s21_9.eq_1
theorem c21 : Tryz.f21.body.bind (clean env 8) = some s21_9 := by kernel_rfl
theorem e21 : env.funs.get 21 = some Tryz.f21 := by kernel_rfl
theorem F21 {args : List Value} {h : Heap} {K : Value → Heap → Prop} (hl : args.length = 1) (w : s21_9.wp env 8 none (setAll args 0 .leaf) h (resK env [.tmp 2] K)) : Ret env (.func 21) args h K :=
  Ret.of_body' rfl e21 c21 rfl rfl (by rw [hl]; decide) w
/-! helmsman/helmsmanref18.Same -/
def r22_0 : List GO := [⟨none, some 4, .assign (.const (.bool true))⟩]
def r22_0_w {E fr h Q} := @opsW_unf E fr h Q _ _ r22_0.eq_1
def s22_1 : GC := .seq (.ops r22_0) .ret
def s22_1_w {E nt rd fr h Q} := @wp_unf E nt rd fr h Q _ _ s22_1.eq_1
def r22_2 : List GO := [⟨none, some 62, .move (.tmp 11)⟩,
  ⟨none, some 63, .binOp .add 3 (.tmp 62) (.const (.int .i64 1)) 3⟩,
  ⟨none, some 11, .assign (.tmp 63)⟩]
def r22_2_w {E fr h Q} := @opsW_unf E fr h Q _ _ r22_2.eq_1
def s22_3 : GC := .ops r22_2
def s22_3_w {E nt rd fr h Q} := @wp_unf E nt rd fr h Q _ _ s22_3.eq_1
def r22_4 : List GO := [⟨none, some 4, .assign (.const (.bool false))⟩]
def r22_4_w {E fr h Q} := @opsW_unf E fr h Q _ _ r22_4.eq_1
def s22_5 : GC := .seq (.ops r22_4) .ret
def s22_5_w {E nt rd fr h Q} := @wp_unf E nt rd fr h Q _ _ s22_5.eq_1
def s22_6 : GC := .cond (.tmp 76) s22_5 .skip
def s22_6_w {E nt rd fr h Q} := @wp_unf E nt rd fr h Q _ _ s22_6.eq_1
def p22_7 : List (GO × List GO) := [(⟨none, some 64, .fieldAddr 25 (.tmp 2) 14⟩, []),
  (⟨none, some 65, .load 23 (.tmp 64)⟩, []),
  (⟨none, some 66, .move (.tmp 11)⟩, []),
  (⟨none, some 67, .indexAddr 23 (.tmp 65) (.tmp 66)⟩, []),
  (⟨none, some 68, .load 36 (.tmp 67)⟩, []),
  (⟨none, some 69, .convert 36 9 (.tmp 68)⟩, []),
  (⟨none, some 70, .fieldAddr 25 (.tmp 3) 14⟩, []),
  (⟨none, some 71, .load 23 (.tmp 70)⟩, []),
  (⟨none, some 72, .move (.tmp 11)⟩, []),
  (⟨none, some 73, .indexAddr 23 (.tmp 71) (.tmp 72)⟩, []),
  (⟨none, some 74, .load 36 (.tmp 73)⟩, []),
  (⟨none, some 75, .convert 36 9 (.tmp 74)⟩, []),
  (⟨none, some 76, .binOp .neq 9 (.tmp 69) (.tmp 75) 9⟩, [])]
def p22_7_w {E fr h Q} := @planW_unf E fr h Q _ _ p22_7.eq_1
def s22_8 : GC := .seq (.plan p22_7) s22_6
def s22_8_w {E nt rd fr h Q} := @wp_unf E nt rd fr h Q _ _ s22_8.eq_1
def s22_9 : GC := .seq (.block 5 s22_8) s22_3
def s22_9_w {E nt rd fr h Q} := @wp_unf E nt rd fr h Q _ _ s22_9.eq_1
def s22_10 : GC := .cond (.tmp 61) .skip (.exit 4)
def s22_10_w {E nt rd fr h Q} := @wp_unf E nt rd fr h Q _ _ s22_10.eq_1
def r22_11 : List GO := [⟨none, some 57, .move (.tmp 11)⟩,
  ⟨none, some 58, .fieldAddr 25 (.tmp 2) 14⟩,
  ⟨none, some 59, .load 23 (.tmp 58)⟩,
  ⟨none, some 60, .call ⟨.builtin .len, ⟨[.tmp 59]⟩, ⟨[23]⟩⟩⟩,
  ⟨none, some 61, .binOp .lss 3 (.tmp 57) (.tmp 60) 3⟩]
def r22_11_w {E fr h Q} := @opsW_unf E fr h Q _ _ r22_11.eq_1
def s22_12 : GC := .seq (.ops r22_11) s22_10
def s22_12_w {E nt rd fr h Q} := @wp_unf E nt rd fr h Q _ _ s22_12.eq_1
def s22_13 : GC := .seq (s22_12) s22_9
def s22_13_w {E nt rd fr h Q} := @wp_unf E nt rd fr h Q _ _ s22_13.eq_1
def s22_14 : GC := .loop s22_13
def s22_14_w {E nt rd fr h Q} := @wp_unf E nt rd fr h Q _ _ s22_14.eq_1
def s22_15 : GC := .block 4 s22_14
def s22_15_w {E nt rd fr h Q} := @wp_unf E nt rd fr h Q _ _ s22_15.eq_1
def r22_16 : List GO := [⟨none, some 11, .assign (.const (.int .i64 0))⟩]
def r22_16_w {E fr h Q} := @opsW_unf E fr h Q _ _ r22_16.eq_1
def s22_17 : GC := .seq (.ops r22_16) s22_15
def s22_17_w {E nt rd fr h Q} := @wp_unf E nt rd fr h Q _ _ s22_17.eq_1
def s22_18 : GC := .seq (s22_17) s22_1
def s22_18_w {E nt rd fr h Q} := @wp_unf E nt rd fr h Q _ _ s22_18.eq_1
def r22_19 : List GO := [⟨none, some 4, .assign (.const (.bool false))⟩]
def r22_19_w {E fr h Q} := @opsW_unf E fr h Q _ _ r22_19.eq_1
def s22_20 : GC := .seq (.ops r22_19) .ret
def s22_20_w {E nt rd fr h Q} := @wp_unf E nt rd fr h Q _ _ s22_20.eq_1
def s22_21 : GC := .cond (.tmp 56) s22_20 .skip
def s22_21_w {E nt rd fr h Q} := @wp_unf E nt rd fr h Q _ _ s22_21.eq_1
def r22_22 : List GO := [⟨none, some 50, .fieldAddr 25 (.tmp 2) 14⟩,
  ⟨none, some 51, .load 23 (.tmp 50)⟩,
  ⟨none, some 52, .call ⟨.builtin .len, ⟨[.tmp 51]⟩, ⟨[23]⟩⟩⟩,
  ⟨none, some 53, .fieldAddr 25 (.tmp 3) 14⟩,
  ⟨none, some 54, .load 23 (.tmp 53)⟩,
  ⟨none, some 55, .call ⟨.builtin .len, ⟨[.tmp 54]⟩, ⟨[23]⟩⟩⟩,
  ⟨none, some 56, .binOp .neq 3 (.tmp 52) (.tmp 55) 3⟩]
def r22_22_w {E fr h Q} := @opsW_unf E fr h Q _ _ r22_22.eq_1
def s22_23 : GC := .seq (.ops r22_22) s22_21
def s22_23_w {E nt rd fr h Q} := @wp_unf E nt rd fr h Q _ _ s22_23.eq_1
def s22_24 : GC := .seq (s22_23) s22_18
def s22_24_w {E nt rd fr h Q} := @wp_unf E nt rd fr h Q _ _ s22_24.eq_1
def r22_25 : List GO := [⟨none, some 39, .move (.tmp 10)⟩,
  ⟨none, some 40, .binOp .add 3 (.tmp 39) (.const (.int .i64 1)) 3⟩,
  ⟨none, some 10, .assign (.tmp 40)⟩]
def r22_25_w {E fr h Q} := @opsW_unf E fr h Q _ _ r22_25.eq_1
def s22_26 : GC := .ops r22_25
def s22_26_w {E nt rd fr h Q} := @wp_unf E nt rd fr h Q _ _ s22_26.eq_1
def r22_27 : List GO := [⟨none, some 4, .assign (.const (.bool false))⟩]
def r22_27_w {E fr h Q} := @opsW_unf E fr h Q _ _ r22_27.eq_1
def s22_28 : GC := .seq (.ops r22_27) .ret
def s22_28_w {E nt rd fr h Q} := @wp_unf E nt rd fr h Q _ _ s22_28.eq_1
def s22_29 : GC := .cond (.tmp 49) s22_28 .skip
def s22_29_w {E nt rd fr h Q} := @wp_unf E nt rd fr h Q _ _ s22_29.eq_1
def p22_30 : List (GO × List GO) := [(⟨none, some 41, .move (.tmp 8)⟩, []),
  (⟨none, some 42, .move (.tmp 10)⟩, []),
  (⟨none, some 43, .indexAddr 97 (.tmp 41) (.tmp 42)⟩, []),
  (⟨none, some 44, .load 22 (.tmp 43)⟩, []),
  (⟨none, some 45, .move (.tmp 9)⟩, []),
  (⟨none, some 46, .move (.tmp 10)⟩, []),
  (⟨none, some 47, .indexAddr 97 (.tmp 45) (.tmp 46)⟩, []),
  (⟨none, some 48, .load 22 (.tmp 47)⟩, []),
  (⟨none, some 49, .binOp .neq 22 (.tmp 44) (.tmp 48) 22⟩, [])]
def p22_30_w {E fr h Q} := @planW_unf E fr h Q _ _ p22_30.eq_1
def s22_31 : GC := .seq (.plan p22_30) s22_29
def s22_31_w {E nt rd fr h Q} := @wp_unf E nt rd fr h Q _ _ s22_31.eq_1
def s22_32 : GC := .seq (.block 3 s22_31) s22_26
def s22_32_w {E nt rd fr h Q} := @wp_unf E nt rd fr h Q _ _ s22_32.eq_1
def s22_33 : GC := .cond (.tmp 38) .skip (.exit 2)
def s22_33_w {E nt rd fr h Q} := @wp_unf E nt rd fr h Q _ _ s22_33.eq_1
def r22_34 : List GO := [⟨none, some 35, .move (.tmp 10)⟩,
  ⟨none, some 36, .move (.tmp 8)⟩,
  ⟨none, some 37, .call ⟨.builtin .len, ⟨[.tmp 36]⟩, ⟨[97]⟩⟩⟩,
  ⟨none, some 38, .binOp .lss 3 (.tmp 35) (.tmp 37) 3⟩]
def r22_34_w {E fr h Q} := @opsW_unf E fr h Q _ _ r22_34.eq_1
def s22_35 : GC := .seq (.ops r22_34) s22_33
def s22_35_w {E nt rd fr h Q} := @wp_unf E nt rd fr h Q _ _ s22_35.eq_1
def s22_36 : GC := .seq (s22_35) s22_32
def s22_36_w {E nt rd fr h Q} := @wp_unf E nt rd fr h Q _ _ s22_36.eq_1
def s22_37 : GC := .loop s22_36
def s22_37_w {E nt rd fr h Q} := @wp_unf E nt rd fr h Q _ _ s22_37.eq_1
def s22_38 : GC := .block 2 s22_37
def s22_38_w {E nt rd fr h Q} := @wp_unf E nt rd fr h Q _ _ s22_38.eq_1
def r22_39 : List GO := [⟨none, some 10, .assign (.const (.int .i64 0))⟩]
def r22_39_w {E fr h Q} := @opsW_unf E fr h Q _ _ r22_39.eq_1
def s22_40 : GC := .seq (.ops r22_39) s22_38
def s22_40_w {E nt rd fr h Q} := @wp_unf E nt rd fr h Q _ _ s22_40.eq_1
def s22_41 : GC := .seq (s22_40) s22_24
def s22_41_w {E nt rd fr h Q} := @wp_unf E nt rd fr h Q _ _ s22_41.eq_1
def p22_42 : List (GO × List GO) := [(⟨none, some 31, .load 25 (.tmp 2)⟩, []),
  (⟨none, some 33, .load 25 (.tmp 3)⟩, []),
  (⟨none, some 32, .call ⟨.value (.func 58), ⟨[.tmp 31]⟩, ⟨[25]⟩⟩⟩, [⟨none, some 33, .load 25 (.tmp 3)⟩]),
  (⟨none, some 34, .call ⟨.value (.func 58), ⟨[.tmp 33]⟩, ⟨[25]⟩⟩⟩, []),
  (⟨none, some 8, .assign (.tmp 32)⟩, []),
  (⟨none, some 9, .assign (.tmp 34)⟩, [])]
def p22_42_w {E fr h Q} := @planW_unf E fr h Q _ _ p22_42.eq_1
def s22_43 : GC := .seq (.plan p22_42) s22_41
def s22_43_w {E nt rd fr h Q} := @wp_unf E nt rd fr h Q _ _ s22_43.eq_1
def r22_44 : List GO := [⟨none, some 20, .move (.tmp 7)⟩,
  ⟨none, some 21, .binOp .add 3 (.tmp 20) (.const (.int .i64 1)) 3⟩,
  ⟨none, some 7, .assign (.tmp 21)⟩]
def r22_44_w {E fr h Q} := @opsW_unf E fr h Q _ _ r22_44.eq_1
def s22_45 : GC := .ops r22_44
def s22_45_w {E nt rd fr h Q} := @wp_unf E nt rd fr h Q _ _ s22_45.eq_1
def r22_46 : List GO := [⟨none, some 4, .assign (.const (.bool false))⟩]
def r22_46_w {E fr h Q} := @opsW_unf E fr h Q _ _ r22_46.eq_1
def s22_47 : GC := .seq (.ops r22_46) .ret
def s22_47_w {E nt rd fr h Q} := @wp_unf E nt rd fr h Q _ _ s22_47.eq_1
def s22_48 : GC := .cond (.tmp 30) s22_47 .skip
def s22_48_w {E nt rd fr h Q} := @wp_unf E nt rd fr h Q _ _ s22_48.eq_1
def p22_49 : List (GO × List GO) := [(⟨none, some 22, .move (.tmp 5)⟩, []),
  (⟨none, some 23, .move (.tmp 7)⟩, []),
  (⟨none, some 24, .indexAddr 95 (.tmp 22) (.tmp 23)⟩, []),
  (⟨none, some 25, .load 3 (.tmp 24)⟩, []),
  (⟨none, some 26, .move (.tmp 6)⟩, []),
  (⟨none, some 27, .move (.tmp 7)⟩, []),
  (⟨none, some 28, .indexAddr 95 (.tmp 26) (.tmp 27)⟩, []),
  (⟨none, some 29, .load 3 (.tmp 28)⟩, []),
  (⟨none, some 30, .binOp .neq 3 (.tmp 25) (.tmp 29) 3⟩, [])]
def p22_49_w {E fr h Q} := @planW_unf E fr h Q _ _ p22_49.eq_1
def s22_50 : GC := .seq (.plan p22_49) s22_48
def s22_50_w {E nt rd fr h Q} := @wp_unf E nt rd fr h Q _ _ s22_50.eq_1
def s22_51 : GC := .seq (.block 1 s22_50) s22_45
def s22_51_w {E nt rd fr h Q} := @wp_unf E nt rd fr h Q _ _ s22_51.eq_1
def s22_52 : GC := .cond (.tmp 19) .skip (.exit 0)
def s22_52_w {E nt rd fr h Q} := @wp_unf E nt rd fr h Q _ _ s22_52.eq_1
def r22_53 : List GO := [⟨none, some 16, .move (.tmp 7)⟩,
  ⟨none, some 17, .move (.tmp 5)⟩,
  ⟨none, some 18, .call ⟨.builtin .len, ⟨[.tmp 17]⟩, ⟨[95]⟩⟩⟩,
  ⟨none, some 19, .binOp .lss 3 (.tmp 16) (.tmp 18) 3⟩]
def r22_53_w {E fr h Q} := @opsW_unf E fr h Q _ _ r22_53.eq_1
def s22_54 : GC := .seq (.ops r22_53) s22_52
def s22_54_w {E nt rd fr h Q} := @wp_unf E nt rd fr h Q _ _ s22_54.eq_1
def s22_55 : GC := .seq (s22_54) s22_51
def s22_55_w {E nt rd fr h Q} := @wp_unf E nt rd fr h Q _ _ s22_55.eq_1
def s22_56 : GC := .loop s22_55
def s22_56_w {E nt rd fr h Q} := @wp_unf E nt rd fr h Q _ _ s22_56.eq_1
def s22_57 : GC := .block 0 s22_56
def s22_57_w {E nt rd fr h Q} := @wp_unf E nt rd fr h Q _ _ s22_57.eq_1
def r22_58 : List GO := [⟨none, some 7, .assign (.const (.int .i64 0))⟩]
def r22_58_w {E fr h Q} := @opsW_unf E fr h Q _ _ r22_58.eq_1
def s22_59 : GC := .seq (.ops r22_58) s22_57
def s22_59_w {E nt rd fr h Q} := @wp_unf E nt rd fr h Q _ _ s22_59.eq_1
def s22_60 : GC := .seq (s22_59) s22_43
def s22_60_w {E nt rd fr h Q} := @wp_unf E nt rd fr h Q _ _ s22_60.eq_1
def p22_61 : List (GO × List GO) := [(⟨none, some 12, .load 25 (.tmp 2)⟩, []),
  (⟨none, some 14, .load 25 (.tmp 3)⟩, []),
  (⟨none, some 13, .call ⟨.value (.func 57), ⟨[.tmp 12]⟩, ⟨[25]⟩⟩⟩, [⟨none, some 14, .load 25 (.tmp 3)⟩]),
  (⟨none, some 15, .call ⟨.value (.func 57), ⟨[.tmp 14]⟩, ⟨[25]⟩⟩⟩, []),
  (⟨none, some 5, .assign (.tmp 13)⟩, []),
  (⟨none, some 6, .assign (.tmp 15)⟩, [])]
def p22_61_w {E fr h Q} := @planW_unf E fr h Q _ _ p22_61.eq_1
def s22_62 : GC := .seq (.plan p22_61) s22_60
def s22_62_w {E nt rd fr h Q} := @wp_unf E nt rd fr h Q _ _ s22_62.eq_1
def r22_63 : List GO := [⟨none, some 2, .box 25 (.tmp 0)⟩,
  ⟨none, some 3, .box 25 (.tmp 1)⟩,
  ⟨none, some 4, .assign (.const (.bool false))⟩]
def r22_63_w {E fr h Q} := @opsW_unf E fr h Q _ _ r22_63.eq_1
def s22_64 : GC := .seq (.ops r22_63) s22_62
def s22_64_w {E nt rd fr h Q} := @wp_unf E nt rd fr h Q _ _ s22_64.eq_1
theorem c22 : Tryz.f22.body.bind (clean env 77) = some s22_64 := by kernel_rfl
theorem e22 : env.funs.get 22 = some Tryz.f22 := by kernel_rfl
theorem F22 {args : List Value} {h : Heap} {K : Value → Heap → Prop} (hl : args.length = 2) (w : s22_64.wp env 77 none (setAll args 0 .leaf) h (resK env [.tmp 4] K)) : Ret env (.func 22) args h K :=
  Ret.of_body' rfl e22 c22 rfl rfl (by rw [hl]; decide) w
/-! helmsman/config.Same -/
def r23_0 : List GO := [⟨none, some 24, .fieldAddr 25 (.tmp 2) 14⟩,
  ⟨none, some 25, .load 23 (.tmp 24)⟩,
  ⟨none, some 26, .fieldAddr 25 (.tmp 3) 14⟩,
  ⟨none, some 27, .load 23 (.tmp 26)⟩,
  ⟨none, some 28, .call ⟨.value (.func 61), ⟨[.tmp 25, .tmp 27, .func 62]⟩, ⟨[23, 23, 105]⟩⟩⟩,
  ⟨none, some 4, .assign (.tmp 28)⟩]
def r23_0_w {E fr h Q} := @opsW_unf E fr h Q _ _ r23_0.eq_1
def s23_1 : GC := .seq (.ops r23_0) .ret
def s23_1_w {E nt rd fr h Q} := @wp_unf E nt rd fr h Q _ _ s23_1.eq_1
def r23_2 : List GO := [⟨none, some 23, .binOp .add 3 (.tmp 10) (.const (.int .i64 1)) 3⟩,
  ⟨none, some 10, .move (.tmp 23)⟩]
def r23_2_w {E fr h Q} := @opsW_unf E fr h Q _ _ r23_2.eq_1
def s23_3 : GC := .ops r23_2
def s23_3_w {E nt rd fr h Q} := @wp_unf E nt rd fr h Q _ _ s23_3.eq_1
def r23_4 : List GO := [⟨none, some 4, .assign (.const (.bool false))⟩]
def r23_4_w {E fr h Q} := @opsW_unf E fr h Q _ _ r23_4.eq_1
def s23_5 : GC := .seq (.ops r23_4) .ret
def s23_5_w {E nt rd fr h Q} := @wp_unf E nt rd fr h Q _ _ s23_5.eq_1
def s23_6 : GC := .cond (.tmp 22) s23_5 .skip
def s23_6_w {E nt rd fr h Q} := @wp_unf E nt rd fr h Q _ _ s23_6.eq_1
def p23_7 : List (GO × List GO) := [(⟨none, some 13, .move (.tmp 7)⟩, []),
  (⟨none, some 14, .indexAddr 101 (.tmp 5) (.tmp 13)⟩, []),
  (⟨none, some 15, .fieldAddr 100 (.tmp 14) 1⟩, []),
  (⟨none, some 16, .load 20 (.tmp 15)⟩, []),
  (⟨none, some 17, .move (.tmp 7)⟩, []),
  (⟨none, some 18, .indexAddr 101 (.tmp 6) (.tmp 17)⟩, []),
  (⟨none, some 19, .fieldAddr 100 (.tmp 18) 1⟩, []),
  (⟨none, some 20, .load 20 (.tmp 19)⟩, []),
  (⟨none, some 21, .call ⟨.value (.func 60), ⟨[.tmp 16, .tmp 20]⟩, ⟨[20, 20]⟩⟩⟩, []),
  (⟨none, some 22, .unOp .not 4 (.tmp 21)⟩, [])]
def p23_7_w {E fr h Q} := @planW_unf E fr h Q _ _ p23_7.eq_1
def s23_8 : GC := .seq (.plan p23_7) s23_6
def s23_8_w {E nt rd fr h Q} := @wp_unf E nt rd fr h Q _ _ s23_8.eq_1
def r23_9 : List GO := [⟨none, some 12, .move (.tmp 10)⟩,
  ⟨none, some 7, .assign (.tmp 12)⟩]
def r23_9_w {E fr h Q} := @opsW_unf E fr h Q _ _ r23_9.eq_1
def s23_10 : GC := .seq (.ops r23_9) s23_8
def s23_10_w {E nt rd fr h Q} := @wp_unf E nt rd fr h Q _ _ s23_10.eq_1
def s23_11 : GC := .seq (.block 1 s23_10) s23_3
def s23_11_w {E nt rd fr h Q} := @wp_unf E nt rd fr h Q _ _ s23_11.eq_1
def s23_12 : GC := .cond (.tmp 11) .skip (.exit 0)
def s23_12_w {E nt rd fr h Q} := @wp_unf E nt rd fr h Q _ _ s23_12.eq_1
def s23_13 : GC := .seq (s23_12) s23_11
def s23_13_w {E nt rd fr h Q} := @wp_unf E nt rd fr h Q _ _ s23_13.eq_1
def r23_14 : List GO := [⟨none, some 11, .binOp .lss 3 (.tmp 10) (.const (.int .i64 14)) 3⟩]
def r23_14_w {E fr h Q} := @opsW_unf E fr h Q _ _ r23_14.eq_1
def s23_15 : GC := .seq (.ops r23_14) s23_13
def s23_15_w {E nt rd fr h Q} := @wp_unf E nt rd fr h Q _ _ s23_15.eq_1
def s23_16 : GC := .loop s23_15
def s23_16_w {E nt rd fr h Q} := @wp_unf E nt rd fr h Q _ _ s23_16.eq_1
def s23_17 : GC := .block 0 s23_16
def s23_17_w {E nt rd fr h Q} := @wp_unf E nt rd fr h Q _ _ s23_17.eq_1
def r23_18 : List GO := [⟨none, some 10, .move (.const (.int .i64 0))⟩]
def r23_18_w {E fr h Q} := @opsW_unf E fr h Q _ _ r23_18.eq_1
def s23_19 : GC := .seq (.ops r23_18) s23_17
def s23_19_w {E nt rd fr h Q} := @wp_unf E nt rd fr h Q _ _ s23_19.eq_1
def s23_20 : GC := .seq (s23_19) s23_1
def s23_20_w {E nt rd fr h Q} := @wp_unf E nt rd fr h Q _ _ s23_20.eq_1
def r23_21 : List GO := [⟨none, some 8, .call ⟨.value (.func 59), ⟨[.tmp 2]⟩, ⟨[64]⟩⟩⟩,
  ⟨none, some 9, .call ⟨.value (.func 59), ⟨[.tmp 3]⟩, ⟨[64]⟩⟩⟩,
  ⟨none, some 5, .alloc 101⟩,
  ⟨none, some 6, .alloc 101⟩,
  ⟨none, none, .store 101 (.tmp 5) (.tmp 8)⟩,
  ⟨none, none, .store 101 (.tmp 6) (.tmp 9)⟩]
def r23_21_w {E fr h Q} := @opsW_unf E fr h Q _ _ r23_21.eq_1
def s23_22 : GC := .seq (.ops r23_21) s23_20
def s23_22_w {E nt rd fr h Q} := @wp_unf E nt rd fr h Q _ _ s23_22.eq_1
def r23_23 : List GO := [⟨none, some 2, .box 25 (.tmp 0)⟩,
  ⟨none, some 3, .box 25 (.tmp 1)⟩,
  ⟨none, some 4, .assign (.const (.bool false))⟩]
def r23_23_w {E fr h Q} := @opsW_unf E fr h Q _ _ r23_23.eq_1
def s23_24 : GC := .seq (.ops r23_23) s23_22
def s23_24_w {E nt rd fr h Q} := @wp_unf E nt rd fr h Q _ _ s23_24.eq_1
theorem c23 : Tryz.f23.body.bind (clean env 29) = some s23_24 := by kernel_rfl
theorem e23 : env.funs.get 23 = some Tryz.f23 := by kernel_rfl
theorem F23 {args : List Value} {h : Heap} {K : Value → Heap → Prop} (hl : args.length = 2) (w : s23_24.wp env 29 none (setAll args 0 .leaf) h (resK env [.tmp 4] K)) : Ret env (.func 23) args h K :=
  Ret.of_body' rfl e23 c23 rfl rfl (by rw [hl]; decide) w
/-! slices.Equal[[]helmsman/api.Act,helmsman/api.Act] -/
def r24_0 : List GO := [⟨none, some 4, .assign (.const (.bool true))⟩]
def r24_0_w {E fr h Q} := @opsW_unf E fr h Q _ _ r24_0.eq_1
def s24_1 : GC := .seq (.ops r24_0) .ret
def s24_1_w {E nt rd fr h Q} := @wp_unf E nt rd fr h Q _ _ s24_1.eq_1
def r24_2 : List GO := [⟨none, some 25, .binOp .add 3 (.tmp 13) (.const (.int .i64 1)) 3⟩,
  ⟨none, some 13, .move (.tmp 25)⟩]
def r24_2_w {E fr h Q} := @opsW_unf E fr h Q _ _ r24_2.eq_1
def s24_3 : GC := .ops r24_2
def s24_3_w {E nt rd fr h Q} := @wp_unf E nt rd fr h Q _ _ s24_3.eq_1
def r24_4 : List GO := [⟨none, some 4, .assign (.const (.bool false))⟩]
def r24_4_w {E fr h Q} := @opsW_unf E fr h Q _ _ r24_4.eq_1
def s24_5 : GC := .seq (.ops r24_4) .ret
def s24_5_w {E nt rd fr h Q} := @wp_unf E nt rd fr h Q _ _ s24_5.eq_1
def s24_6 : GC := .cond (.tmp 24) s24_5 .skip
def s24_6_w {E nt rd fr h Q} := @wp_unf E nt rd fr h Q _ _ s24_6.eq_1
def p24_7 : List (GO × List GO) := [(⟨none, some 16, .move (.tmp 0)⟩, []),
  (⟨none, some 17, .move (.tmp 5)⟩, []),
  (⟨none, some 18, .indexAddr 26 (.tmp 16) (.tmp 17)⟩, []),
  (⟨none, some 19, .load 35 (.tmp 18)⟩, []),
  (⟨none, some 20, .move (.tmp 1)⟩, []),
  (⟨none, some 21, .move (.tmp 5)⟩, []),
  (⟨none, some 22, .indexAddr 26 (.tmp 20) (.tmp 21)⟩, []),
  (⟨none, some 23, .load 35 (.tmp 22)⟩, []),
  (⟨none, some 24, .binOp .neq 35 (.tmp 19) (.tmp 23) 35⟩, [])]
def p24_7_w {E fr h Q} := @planW_unf E fr h Q _ _ p24_7.eq_1
def s24_8 : GC := .seq (.plan p24_7) s24_6
def s24_8_w {E nt rd fr h Q} := @wp_unf E nt rd fr h Q _ _ s24_8.eq_1
def r24_9 : List GO := [⟨none, some 15, .move (.tmp 13)⟩,
  ⟨none, some 5, .assign (.tmp 15)⟩]
def r24_9_w {E fr h Q} := @opsW_unf E fr h Q _ _ r24_9.eq_1
def s24_10 : GC := .seq (.ops r24_9) s24_8
def s24_10_w {E nt rd fr h Q} := @wp_unf E nt rd fr h Q _ _ s24_10.eq_1
def s24_11 : GC := .seq (.block 1 s24_10) s24_3
def s24_11_w {E nt rd fr h Q} := @wp_unf E nt rd fr h Q _ _ s24_11.eq_1
def s24_12 : GC := .cond (.tmp 14) .skip (.exit 0)
def s24_12_w {E nt rd fr h Q} := @wp_unf E nt rd fr h Q _ _ s24_12.eq_1
def s24_13 : GC := .seq (s24_12) s24_11
def s24_13_w {E nt rd fr h Q} := @wp_unf E nt rd fr h Q _ _ s24_13.eq_1
def r24_14 : List GO := [⟨none, some 14, .binOp .lss 3 (.tmp 13) (.tmp 12) 3⟩]
def r24_14_w {E fr h Q} := @opsW_unf E fr h Q _ _ r24_14.eq_1
def s24_15 : GC := .seq (.ops r24_14) s24_13
def s24_15_w {E nt rd fr h Q} := @wp_unf E nt rd fr h Q _ _ s24_15.eq_1
def s24_16 : GC := .loop s24_15
def s24_16_w {E nt rd fr h Q} := @wp_unf E nt rd fr h Q _ _ s24_16.eq_1
def s24_17 : GC := .block 0 s24_16
def s24_17_w {E nt rd fr h Q} := @wp_unf E nt rd fr h Q _ _ s24_17.eq_1
def r24_18 : List GO := [⟨none, some 11, .move (.tmp 0)⟩,
  ⟨none, some 12, .call ⟨.builtin .len, ⟨[.tmp 11]⟩, ⟨[26]⟩⟩⟩,
  ⟨none, some 13, .move (.const (.int .i64 0))⟩]
def r24_18_w {E fr h Q} := @opsW_unf E fr h Q _ _ r24_18.eq_1
def s24_19 : GC := .seq (.ops r24_18) s24_17
def s24_19_w {E nt rd fr h Q} := @wp_unf E nt rd fr h Q _ _ s24_19.eq_1
def s24_20 : GC := .seq (s24_19) s24_1
def s24_20_w {E nt rd fr h Q} := @wp_unf E nt rd fr h Q _ _ s24_20.eq_1
def r24_21 : List GO := [⟨none, some 4, .assign (.const (.bool false))⟩]
def r24_21_w {E fr h Q} := @opsW_unf E fr h Q _ _ r24_21.eq_1
def s24_22 : GC := .seq (.ops r24_21) .ret
def s24_22_w {E nt rd fr h Q} := @wp_unf E nt rd fr h Q _ _ s24_22.eq_1
def s24_23 : GC := .cond (.tmp 10) s24_22 .skip
def s24_23_w {E nt rd fr h Q} := @wp_unf E nt rd fr h Q _ _ s24_23.eq_1
def r24_24 : List GO := [⟨none, some 6, .move (.tmp 0)⟩,
  ⟨none, some 7, .call ⟨.builtin .len, ⟨[.tmp 6]⟩, ⟨[26]⟩⟩⟩,
  ⟨none, some 8, .move (.tmp 1)⟩,
  ⟨none, some 9, .call ⟨.builtin .len, ⟨[.tmp 8]⟩, ⟨[26]⟩⟩⟩,
  ⟨none, some 10, .binOp .neq 3 (.tmp 7) (.tmp 9) 3⟩]
def r24_24_w {E fr h Q} := @opsW_unf E fr h Q _ _ r24_24.eq_1
def s24_25 : GC := .seq (.ops r24_24) s24_23
def s24_25_w {E nt rd fr h Q} := @wp_unf E nt rd fr h Q _ _ s24_25.eq_1
def s24_26 : GC := .seq (s24_25) s24_20
def s24_26_w {E nt rd fr h Q} := @wp_unf E nt rd fr h Q _ _ s24_26.eq_1
def r24_27 : List GO := [⟨none, some 4, .assign (.const (.bool false))⟩]
def r24_27_w {E fr h Q} := @opsW_unf E fr h Q _ _ r24_27.eq_1
def s24_28 : GC := .seq (.ops r24_27) s24_26
def s24_28_w {E nt rd fr h Q} := @wp_unf E nt rd fr h Q _ _ s24_28.eq_1
theorem c24 : Tryz.f24.body.bind (clean env 26) = some s24_28 := by kernel_rfl
theorem e24 : env.funs.get 24 = some Tryz.f24 := by kernel_rfl
theorem F24 {args : List Value} {h : Heap} {K : Value → Heap → Prop} (hl : args.length = 2) (w : s24_28.wp env 26 none (setAll args 0 .leaf) h (resK env [.tmp 4] K)) : Ret env (.func 24) args h K :=
  Ret.of_body' rfl e24 c24 rfl rfl (by rw [hl]; decide) w
/-! slices.Clone[[]byte,byte] -/
def r56_0 : List GO := [⟨none, some 5, .buildSlice 36 0 ⟨[]⟩⟩,
  ⟨none, some 6, .move (.tmp 0)⟩,
  ⟨none, some 7, .call ⟨.builtin .append, ⟨[.tmp 5, .tmp 6]⟩, ⟨[36, 36]⟩⟩⟩,
  ⟨none, some 2, .assign (.tmp 7)⟩]
def r56_0_w {E fr h Q} := @opsW_unf E fr h Q _ _ r56_0.eq_1
def s56_1 : GC := .seq (.ops r56_0) .ret
def s56_1_w {E nt rd fr h Q} := @wp_unf E nt rd fr h Q _ _ s56_1.eq_1
def r56_2 : List GO := [⟨none, some 2, .assign (.const (.slice none 0 0))⟩]
def r56_2_w {E fr h Q} := @opsW_unf E fr h Q _ _ r56_2.eq_1
def s56_3 : GC := .seq (.ops r56_2) .ret
def s56_3_w {E nt rd fr h Q} := @wp_unf E nt rd fr h Q _ _ s56_3.eq_1
def s56_4 : GC := .cond (.tmp 4) s56_3 .skip
def s56_4_w {E nt rd fr h Q} := @wp_unf E nt rd fr h Q _ _ s56_4.eq_1
def r56_5 : List GO := [⟨none, some 3, .move (.tmp 0)⟩,
  ⟨none, some 4, .binOp .eql 36 (.tmp 3) (.const (.slice none 0 0)) 36⟩]
def r56_5_w {E fr h Q} := @opsW_unf E fr h Q _ _ r56_5.eq_1
def s56_6 : GC := .seq (.ops r56_5) s56_4
def s56_6_w {E nt rd fr h Q} := @wp_unf E nt rd fr h Q _ _ s56_6.eq_1
def s56_7 : GC := .seq (s56_6) s56_1
def s56_7_w {E nt rd fr h Q} := @wp_unf E nt rd fr h Q _ _ s56_7.eq_1
def r56_8 : List GO := [⟨none, some 2, .assign (.const (.slice none 0 0))⟩]
def r56_8_w {E fr h Q} := @opsW_unf E fr h Q _ _ r56_8.eq_1
def s56_9 : GC := .seq (.ops r56_8) s56_7
def s56_9_w {E nt rd fr h Q} := @wp_unf E nt rd fr h Q _ _ s56_9.eq_1
theorem c56 : Tryz.f56.body.bind (clean env 8) = some s56_9 := by kernel_rfl
theorem e56 : env.funs.get 56 = some Tryz.f56 := by kernel_rfl
theorem F56 {args : List Value} {h : Heap} {K : Value → Heap → Prop} (hl : args.length = 1) (w : s56_9.wp env 8 none (setAll args 0 .leaf) h (resK env [.tmp 2] K)) : Ret env (.func 56) args h K :=
  Ret.of_body' rfl e56 c56 rfl rfl (by rw [hl]; decide) w
/-! helmsman/helmsmanref18.small -/
def r57_0 : List GO := [⟨none, some 3, .fieldAddr 25 (.tmp 1) 0⟩,
  ⟨none, some 4, .load 3 (.tmp 3)⟩,
  ⟨none, some 5, .fieldAddr 25 (.tmp 1) 1⟩,
  ⟨none, some 6, .load 3 (.tmp 5)⟩,
  ⟨none, some 7, .fieldAddr 25 (.tmp 1) 2⟩,
  ⟨none, some 8, .load 3 (.tmp 7)⟩,
  ⟨none, some 9, .fieldAddr 25 (.tmp 1) 3⟩,
  ⟨none, some 10, .load 3 (.tmp 9)⟩,
  ⟨none, some 11, .fieldAddr 25 (.tmp 1) 4⟩,
  ⟨none, some 12, .load 3 (.tmp 11)⟩,
  ⟨none, some 13, .fieldAddr 25 (.tmp 1) 5⟩,
  ⟨none, some 14, .load 3 (.tmp 13)⟩,
  ⟨none, some 15, .fieldAddr 25 (.tmp 1) 6⟩,
  ⟨none, some 16, .load 3 (.tmp 15)⟩,
  ⟨none, some 17, .fieldAddr 25 (.tmp 1) 7⟩,
  ⟨none, some 18, .load 3 (.tmp 17)⟩,
  ⟨none, some 19, .fieldAddr 25 (.tmp 1) 8⟩,
  ⟨none, some 20, .load 3 (.tmp 19)⟩,
  ⟨none, some 21, .fieldAddr 25 (.tmp 1) 9⟩,
  ⟨none, some 22, .load 3 (.tmp 21)⟩,
  ⟨none, some 23, .buildSlice 95 10 ⟨[(0, .tmp 4), (1, .tmp 6), (2, .tmp 8), (3, .tmp 10), (4, .tmp 12), (5, .tmp 14), (6, .tmp 16), (7, .tmp 18), (8, .tmp 20), (9, .tmp 22)]⟩⟩,
  ⟨none, some 2, .assign (.tmp 23)⟩]
def r57_0_w {E fr h Q} := @opsW_unf E fr h Q _ _ r57_0.eq_1
def s57_1 : GC := .seq (.ops r57_0) .ret
def s57_1_w {E nt rd fr h Q} := @wp_unf E nt rd fr h Q _ _ s57_1.eq_1
def r57_2 : List GO := [⟨none, some 1, .box 25 (.tmp 0)⟩,
  ⟨none, some 2, .assign (.const (.slice none 0 0))⟩]
def r57_2_w {E fr h Q} := @opsW_unf E fr h Q _ _ r57_2.eq_1
def s57_3 : GC := .seq (.ops r57_2) s57_1
def s57_3_w {E nt rd fr h Q} := @wp_unf E nt rd fr h Q _ _ s57_3.eq_1
theorem c57 : Tryz.f57.body.bind (clean env 24) = some s57_3 := by kernel_rfl
theorem e57 : env.funs.get 57 = some Tryz.f57 := by kernel_rfl
theorem F57 {args : List Value} {h : Heap} {K : Value → Heap → Prop} (hl : args.length = 1) (w : s57_3.wp env 24 none (setAll args 0 .leaf) h (resK env [.tmp 2] K)) : Ret env (.func 57) args h K :=
  Ret.of_body' rfl e57 c57 rfl rfl (by rw [hl]; decide) w
/-! helmsman/helmsmanref18.great -/
def r58_0 : List GO := [⟨none, some 3, .fieldAddr 25 (.tmp 1) 10⟩,
  ⟨none, some 4, .load 22 (.tmp 3)⟩,
  ⟨none, some 5, .fieldAddr 25 (.tmp 1) 11⟩,
  ⟨none, some 6, .load 22 (.tmp 5)⟩,
  ⟨none, some 7, .fieldAddr 25 (.tmp 1) 12⟩,
  ⟨none, some 8, .load 22 (.tmp 7)⟩,
  ⟨none, some 9, .fieldAddr 25 (.tmp 1) 13⟩,
  ⟨none, some 10, .load 22 (.tmp 9)⟩,
  ⟨none, some 11, .buildSlice 97 4 ⟨[(0, .tmp 4), (1, .tmp 6), (2, .tmp 8), (3, .tmp 10)]⟩⟩,
  ⟨none, some 2, .assign (.tmp 11)⟩]
def r58_0_w {E fr h Q} := @opsW_unf E fr h Q _ _ r58_0.eq_1
def s58_1 : GC := .seq (.ops r58_0) .ret
def s58_1_w {E nt rd fr h Q} := @wp_unf E nt rd fr h Q _ _ s58_1.eq_1
def r58_2 : List GO := [⟨none, some 1, .box 25 (.tmp 0)⟩,
  ⟨none, some 2, .assign (.const (.slice none 0 0))⟩]
def r58_2_w {E fr h Q} := @opsW_unf E fr h Q _ _ r58_2.eq_1
def s58_3 : GC := .seq (.ops r58_2) s58_1
def s58_3_w {E nt rd fr h Q} := @wp_unf E nt rd fr h Q _ _ s58_3.eq_1
theorem c58 : Tryz.f58.body.bind (clean env 12) = some s58_3 := by kernel_rfl
theorem e58 : env.funs.get 58 = some Tryz.f58 := by kernel_rfl
theorem F58 {args : List Value} {h : Heap} {K : Value → Heap → Prop} (hl : args.length = 1) (w : s58_3.wp env 12 none (setAll args 0 .leaf) h (resK env [.tmp 2] K)) : Ret env (.func 58) args h K :=
  Ret.of_body' rfl e58 c58 rfl rfl (by rw [hl]; decide) w
/-! helmsman/config.bounds -/
def p59_0 : List (GO × List GO) := [(⟨none, some 3, .move (.tmp 0)⟩, []),
  (⟨none, some 4, .nilCheck (.tmp 3)⟩, []),
  (⟨none, some 5, .fieldAddr 25 (.tmp 4) 0⟩, []),
  (⟨none, some 6, .makeInterface 106 (.tmp 5)⟩, []),
  (⟨none, some 7, .build 100 ⟨[(0, .const (.string ⟨⟨[80, 115]⟩⟩)), (1, .tmp 6), (2, .const (.int .i64 1)), (3, .const (.int .i64 8))]⟩⟩, []),
  (⟨none, some 8, .move (.tmp 0)⟩, []),
  (⟨none, some 9, .nilCheck (.tmp 8)⟩, []),
  (⟨none, some 10, .fieldAddr 25 (.tmp 9) 1⟩, []),
  (⟨none, some 11, .makeInterface 106 (.tmp 10)⟩, []),
  (⟨none, some 12, .build 100 ⟨[(0, .const (.string ⟨⟨[82, 105, 110, 103]⟩⟩)), (1, .tmp 11), (2, .const (.int .i64 2)), (3, .const (.int .i64 32))]⟩⟩, []),
  (⟨none, some 13, .move (.tmp 0)⟩, []),
  (⟨none, some 14, .nilCheck (.tmp 13)⟩, []),
  (⟨none, some 15, .fieldAddr 25 (.tmp 14) 2⟩, []),
  (⟨none, some 16, .makeInterface 106 (.tmp 15)⟩, []),
  (⟨none, some 17, .build 100 ⟨[(0, .const (.string ⟨⟨[71, 115]⟩⟩)), (1, .tmp 16), (2, .const (.int .i64 1)), (3, .const (.int .i64 64))]⟩⟩, []),
  (⟨none, some 18, .move (.tmp 0)⟩, []),
  (⟨none, some 19, .nilCheck (.tmp 18)⟩, []),
  (⟨none, some 20, .fieldAddr 25 (.tmp 19) 3⟩, []),
  (⟨none, some 21, .makeInterface 106 (.tmp 20)⟩, []),
  (⟨none, some 22, .build 100 ⟨[(0, .const (.string ⟨⟨[67, 111, 110, 116, 101, 120, 116, 115]⟩⟩)), (1, .tmp 21), (2, .const (.int .i64 1)), (3, .const (.int .i64 32))]⟩⟩, []),
  (⟨none, some 23, .move (.tmp 0)⟩, []),
  (⟨none, some 24, .nilCheck (.tmp 23)⟩, []),
  (⟨none, some 25, .fieldAddr 25 (.tmp 24) 4⟩, []),
  (⟨none, some 26, .makeInterface 106 (.tmp 25)⟩, []),
  (⟨none, some 27, .build 100 ⟨[(0, .const (.string ⟨⟨[68, 111, 109, 97, 105, 110, 115]⟩⟩)), (1, .tmp 26), (2, .const (.int .i64 1)), (3, .const (.int .i64 32))]⟩⟩, []),
  (⟨none, some 28, .move (.tmp 0)⟩, []),
  (⟨none, some 29, .nilCheck (.tmp 28)⟩, []),
  (⟨none, some 30, .fieldAddr 25 (.tmp 29) 5⟩, []),
  (⟨none, some 31, .makeInterface 106 (.tmp 30)⟩, []),
  (⟨none, some 32, .build 100 ⟨[(0, .const (.string ⟨⟨[78, 111, 100, 101, 115]⟩⟩)), (1, .tmp 31), (2, .const (.int .i64 3)), (3, .const (.int .i64 512))]⟩⟩, []),
  (⟨none, some 33, .move (.tmp 0)⟩, []),
  (⟨none, some 34, .nilCheck (.tmp 33)⟩, []),
  (⟨none, some 35, .fieldAddr 25 (.tmp 34) 6⟩, []),
  (⟨none, some 36, .makeInterface 106 (.tmp 35)⟩, []),
  (⟨none, some 37, .build 100 ⟨[(0, .const (.string ⟨⟨[83, 108, 111, 116, 115]⟩⟩)), (1, .tmp 36), (2, .const (.int .i64 3)), (3, .const (.int .i64 32))]⟩⟩, []),
  (⟨none, some 38, .move (.tmp 0)⟩, []),
  (⟨none, some 39, .nilCheck (.tmp 38)⟩, []),
  (⟨none, some 40, .fieldAddr 25 (.tmp 39) 7⟩, []),
  (⟨none, some 41, .makeInterface 106 (.tmp 40)⟩, []),
  (⟨none, some 42, .build 100 ⟨[(0, .const (.string ⟨⟨[82, 101, 102, 105, 108, 108, 115]⟩⟩)), (1, .tmp 41), (2, .const (.int .i64 2)), (3, .const (.int .i64 16))]⟩⟩, []),
  (⟨none, some 43, .move (.tmp 0)⟩, []),
  (⟨none, some 44, .nilCheck (.tmp 43)⟩, []),
  (⟨none, some 45, .fieldAddr 25 (.tmp 44) 8⟩, []),
  (⟨none, some 46, .makeInterface 106 (.tmp 45)⟩, []),
  (⟨none, some 47, .build 100 ⟨[(0, .const (.string ⟨⟨[65, 117, 100, 105, 116]⟩⟩)), (1, .tmp 46), (2, .const (.int .i64 1)), (3, .const (.int .i64 256))]⟩⟩, []),
  (⟨none, some 48, .move (.tmp 0)⟩, []),
  (⟨none, some 49, .nilCheck (.tmp 48)⟩, []),
  (⟨none, some 50, .fieldAddr 25 (.tmp 49) 9⟩, []),
  (⟨none, some 51, .makeInterface 106 (.tmp 50)⟩, []),
  (⟨none, some 52, .build 100 ⟨[(0, .const (.string ⟨⟨[83, 108, 105, 99, 101]⟩⟩)), (1, .tmp 51), (2, .const (.int .i64 1)), (3, .const (.int .i64 64))]⟩⟩, []),
  (⟨none, some 53, .move (.tmp 0)⟩, []),
  (⟨none, some 54, .nilCheck (.tmp 53)⟩, []),
  (⟨none, some 55, .fieldAddr 25 (.tmp 54) 10⟩, []),
  (⟨none, some 56, .makeInterface 107 (.tmp 55)⟩, []),
  (⟨none, some 57, .build 100 ⟨[(0, .const (.string ⟨⟨[67, 80, 85]⟩⟩)), (1, .tmp 56), (2, .const (.int .i64 1)), (3, .const (.int .i64 4294967296))]⟩⟩, []),
  (⟨none, some 58, .move (.tmp 0)⟩, []),
  (⟨none, some 59, .nilCheck (.tmp 58)⟩, []),
  (⟨none, some 60, .fieldAddr 25 (.tmp 59) 11⟩, []),
  (⟨none, some 61, .makeInterface 107 (.tmp 60)⟩, []),
  (⟨none, some 62, .build 100 ⟨[(0, .const (.string ⟨⟨[80, 101, 114, 105, 111, 100]⟩⟩)), (1, .tmp 61), (2, .const (.int .i64 1)), (3, .const (.int .i64 4294967296))]⟩⟩, []),
  (⟨none, some 63, .move (.tmp 0)⟩, []),
  (⟨none, some 64, .nilCheck (.tmp 63)⟩, []),
  (⟨none, some 65, .fieldAddr 25 (.tmp 64) 12⟩, []),
  (⟨none, some 66, .makeInterface 107 (.tmp 65)⟩, []),
  (⟨none, some 67, .build 100 ⟨[(0, .const (.string ⟨⟨[66, 117, 100, 103, 101, 116]⟩⟩)), (1, .tmp 66), (2, .const (.int .i64 1)), (3, .const (.int .i64 4294967296))]⟩⟩, []),
  (⟨none, some 68, .move (.tmp 0)⟩, []),
  (⟨none, some 69, .nilCheck (.tmp 68)⟩, []),
  (⟨none, some 70, .fieldAddr 25 (.tmp 69) 13⟩, []),
  (⟨none, some 71, .makeInterface 107 (.tmp 70)⟩, []),
  (⟨none, some 72, .build 100 ⟨[(0, .const (.string ⟨⟨[69, 97, 99, 104]⟩⟩)), (1, .tmp 71), (2, .const (.int .i64 1)), (3, .const (.int .i64 4294967296))]⟩⟩, []),
  (⟨none, some 73, .build 101 ⟨[(0, .tmp 7), (1, .tmp 12), (2, .tmp 17), (3, .tmp 22), (4, .tmp 27), (5, .tmp 32), (6, .tmp 37), (7, .tmp 42), (8, .tmp 47), (9, .tmp 52), (10, .tmp 57), (11, .tmp 62), (12, .tmp 67), (13, .tmp 72)]⟩⟩, []),
  (⟨none, none, .store 101 (.tmp 2) (.tmp 73)⟩, [])]
def p59_0_w {E fr h Q} := @planW_unf E fr h Q _ _ p59_0.eq_1
def s59_1 : GC := .seq (.plan p59_0) .ret
def s59_1_w {E nt rd fr h Q} := @wp_unf E nt rd fr h Q _ _ s59_1.eq_1
def r59_2 : List GO := [⟨none, some 2, .alloc 101⟩]
def r59_2_w {E fr h Q} := @opsW_unf E fr h Q _ _ r59_2.eq_1
def s59_3 : GC := .seq (.ops r59_2) s59_1
def s59_3_w {E nt rd fr h Q} := @wp_unf E nt rd fr h Q _ _ s59_3.eq_1
theorem c59 : Tryz.f59.body.bind (clean env 74) = some s59_3 := by kernel_rfl
theorem e59 : env.funs.get 59 = some Tryz.f59 := by kernel_rfl
theorem F59 {args : List Value} {h : Heap} {K : Value → Heap → Prop} (hl : args.length = 1) (w : s59_3.wp env 74 none (setAll args 0 .leaf) h (resK env [.cell 2 101] K)) : Ret env (.func 59) args h K :=
  Ret.of_body' rfl e59 c59 rfl rfl (by rw [hl]; decide) w
/-! helmsman/config.alike -/
def r60_0 : List GO := [⟨none, some 4, .assign (.const (.bool false))⟩]
def r60_0_w {E fr h Q} := @opsW_unf E fr h Q _ _ r60_0.eq_1
def s60_1 : GC := .seq (.ops r60_0) .ret
def s60_1_w {E nt rd fr h Q} := @wp_unf E nt rd fr h Q _ _ s60_1.eq_1
def p60_2 : List (GO × List GO) := [(⟨none, some 20, .move (.tmp 7)⟩, []),
  (⟨none, some 21, .move (.tmp 20)⟩, []),
  (⟨some (21, true), some 22, .move (.tmp 5)⟩, []),
  (⟨some (21, true), some 23, .nilCheck (.tmp 22)⟩, []),
  (⟨some (21, true), some 24, .load 3 (.tmp 23)⟩, []),
  (⟨some (21, true), some 25, .move (.tmp 6)⟩, []),
  (⟨some (21, true), some 26, .nilCheck (.tmp 25)⟩, []),
  (⟨some (21, true), some 27, .load 3 (.tmp 26)⟩, []),
  (⟨some (21, true), some 28, .binOp .eql 3 (.tmp 24) (.tmp 27) 3⟩, []),
  (⟨none, some 29, .pick (.tmp 21) (.tmp 28) (.const (.bool false))⟩, []),
  (⟨none, some 4, .assign (.tmp 29)⟩, [])]
def p60_2_w {E fr h Q} := @planW_unf E fr h Q _ _ p60_2.eq_1
def s60_3 : GC := .seq (.plan p60_2) .ret
def s60_3_w {E nt rd fr h Q} := @wp_unf E nt rd fr h Q _ _ s60_3.eq_1
def r60_4 : List GO := [⟨none, some 16, .move (.tmp 1)⟩,
  ⟨none, some 17, .typeAssert (.tmp 16) 20 106 true⟩,
  ⟨none, some 15, .move (.tmp 17)⟩,
  ⟨none, some 18, .extract (.tmp 15) 0⟩,
  ⟨none, some 19, .extract (.tmp 15) 1⟩,
  ⟨none, some 6, .assign (.tmp 18)⟩,
  ⟨none, some 7, .assign (.tmp 19)⟩]
def r60_4_w {E fr h Q} := @opsW_unf E fr h Q _ _ r60_4.eq_1
def s60_5 : GC := .seq (.ops r60_4) s60_3
def s60_5_w {E nt rd fr h Q} := @wp_unf E nt rd fr h Q _ _ s60_5.eq_1
def r60_6 : List GO := [⟨none, some 5, .assign (.tmp 14)⟩]
def r60_6_w {E fr h Q} := @opsW_unf E fr h Q _ _ r60_6.eq_1
def s60_7 : GC := .seq (.ops r60_6) s60_5
def s60_7_w {E nt rd fr h Q} := @wp_unf E nt rd fr h Q _ _ s60_7.eq_1
def p60_8 : List (GO × List GO) := [(⟨none, some 38, .move (.tmp 10)⟩, []),
  (⟨none, some 39, .move (.tmp 38)⟩, []),
  (⟨some (39, true), some 40, .move (.tmp 8)⟩, []),
  (⟨some (39, true), some 41, .nilCheck (.tmp 40)⟩, []),
  (⟨some (39, true), some 42, .load 22 (.tmp 41)⟩, []),
  (⟨some (39, true), some 43, .move (.tmp 9)⟩, []),
  (⟨some (39, true), some 44, .nilCheck (.tmp 43)⟩, []),
  (⟨some (39, true), some 45, .load 22 (.tmp 44)⟩, []),
  (⟨some (39, true), some 46, .binOp .eql 22 (.tmp 42) (.tmp 45) 22⟩, []),
  (⟨none, some 47, .pick (.tmp 39) (.tmp 46) (.const (.bool false))⟩, []),
  (⟨none, some 4, .assign (.tmp 47)⟩, [])]
def p60_8_w {E fr h Q} := @planW_unf E fr h Q _ _ p60_8.eq_1
def s60_9 : GC := .seq (.plan p60_8) .ret
def s60_9_w {E nt rd fr h Q} := @wp_unf E nt rd fr h Q _ _ s60_9.eq_1
def r60_10 : List GO := [⟨none, some 34, .move (.tmp 1)⟩,
  ⟨none, some 35, .typeAssert (.tmp 34) 20 107 true⟩,
  ⟨none, some 33, .move (.tmp 35)⟩,
  ⟨none, some 36, .extract (.tmp 33) 0⟩,
  ⟨none, some 37, .extract (.tmp 33) 1⟩,
  ⟨none, some 9, .assign (.tmp 36)⟩,
  ⟨none, some 10, .assign (.tmp 37)⟩]
def r60_10_w {E fr h Q} := @opsW_unf E fr h Q _ _ r60_10.eq_1
def s60_11 : GC := .seq (.ops r60_10) s60_9
def s60_11_w {E nt rd fr h Q} := @wp_unf E nt rd fr h Q _ _ s60_11.eq_1
def r60_12 : List GO := [⟨none, some 8, .assign (.tmp 32)⟩]
def r60_12_w {E fr h Q} := @opsW_unf E fr h Q _ _ r60_12.eq_1
def s60_13 : GC := .seq (.ops r60_12) s60_11
def s60_13_w {E nt rd fr h Q} := @wp_unf E nt rd fr h Q _ _ s60_13.eq_1
def s60_14 : GC := .cond (.tmp 31) s60_13 .skip
def s60_14_w {E nt rd fr h Q} := @wp_unf E nt rd fr h Q _ _ s60_14.eq_1
def r60_15 : List GO := [⟨none, some 30, .typeAssert (.tmp 11) 20 107 true⟩,
  ⟨none, some 31, .extract (.tmp 30) 1⟩,
  ⟨none, some 32, .extract (.tmp 30) 0⟩]
def r60_15_w {E fr h Q} := @opsW_unf E fr h Q _ _ r60_15.eq_1
def s60_16 : GC := .seq (.ops r60_15) s60_14
def s60_16_w {E nt rd fr h Q} := @wp_unf E nt rd fr h Q _ _ s60_16.eq_1
def s60_17 : GC := .cond (.tmp 13) s60_7 s60_16
def s60_17_w {E nt rd fr h Q} := @wp_unf E nt rd fr h Q _ _ s60_17.eq_1
def r60_18 : List GO := [⟨none, some 12, .typeAssert (.tmp 11) 20 106 true⟩,
  ⟨none, some 13, .extract (.tmp 12) 1⟩,
  ⟨none, some 14, .extract (.tmp 12) 0⟩]
def r60_18_w {E fr h Q} := @opsW_unf E fr h Q _ _ r60_18.eq_1
def s60_19 : GC := .seq (.ops r60_18) s60_17
def s60_19_w {E nt rd fr h Q} := @wp_unf E nt rd fr h Q _ _ s60_19.eq_1
def s60_20 : GC := .block 0 s60_19
def s60_20_w {E nt rd fr h Q} := @wp_unf E nt rd fr h Q _ _ s60_20.eq_1
def r60_21 : List GO := [⟨none, some 11, .move (.tmp 0)⟩]
def r60_21_w {E fr h Q} := @opsW_unf E fr h Q _ _ r60_21.eq_1
def s60_22 : GC := .seq (.ops r60_21) s60_20
def s60_22_w {E nt rd fr h Q} := @wp_unf E nt rd fr h Q _ _ s60_22.eq_1
def s60_23 : GC := .seq (s60_22) s60_1
def s60_23_w {E nt rd fr h Q} := @wp_unf E nt rd fr h Q _ _ s60_23.eq_1
def r60_24 : List GO := [⟨none, some 4, .assign (.const (.bool false))⟩]
def r60_24_w {E fr h Q} := @opsW_unf E fr h Q _ _ r60_24.eq_1
def s60_25 : GC := .seq (.ops r60_24) s60_23
def s60_25_w {E nt rd fr h Q} := @wp_unf E nt rd fr h Q _ _ s60_25.eq_1
theorem c60 : Tryz.f60.body.bind (clean env 48) = some s60_25 := by kernel_rfl
theorem e60 : env.funs.get 60 = some Tryz.f60 := by kernel_rfl
theorem F60 {args : List Value} {h : Heap} {K : Value → Heap → Prop} (hl : args.length = 2) (w : s60_25.wp env 48 none (setAll args 0 .leaf) h (resK env [.tmp 4] K)) : Ret env (.func 60) args h K :=
  Ret.of_body' rfl e60 c60 rfl rfl (by rw [hl]; decide) w
/-! slices.EqualFunc[[][]byte,[][]byte,[]byte,[]byte] -/
def r61_0 : List GO := [⟨none, some 6, .assign (.const (.bool true))⟩]
def r61_0_w {E fr h Q} := @opsW_unf E fr h Q _ _ r61_0.eq_1
def s61_1 : GC := .seq (.ops r61_0) .ret
def s61_1_w {E nt rd fr h Q} := @wp_unf E nt rd fr h Q _ _ s61_1.eq_1
def r61_2 : List GO := [⟨none, some 31, .binOp .add 3 (.tmp 17) (.const (.int .i64 1)) 3⟩,
  ⟨none, some 17, .move (.tmp 31)⟩]
def r61_2_w {E fr h Q} := @opsW_unf E fr h Q _ _ r61_2.eq_1
def s61_3 : GC := .ops r61_2
def s61_3_w {E nt rd fr h Q} := @wp_unf E nt rd fr h Q _ _ s61_3.eq_1
def r61_4 : List GO := [⟨none, some 6, .assign (.const (.bool false))⟩]
def r61_4_w {E fr h Q} := @opsW_unf E fr h Q _ _ r61_4.eq_1
def s61_5 : GC := .seq (.ops r61_4) .ret
def s61_5_w {E nt rd fr h Q} := @wp_unf E nt rd fr h Q _ _ s61_5.eq_1
def s61_6 : GC := .cond (.tmp 30) s61_5 .skip
def s61_6_w {E nt rd fr h Q} := @wp_unf E nt rd fr h Q _ _ s61_6.eq_1
def r61_7 : List GO := [⟨none, some 26, .move (.tmp 2)⟩,
  ⟨none, some 27, .move (.tmp 8)⟩,
  ⟨none, some 28, .move (.tmp 9)⟩,
  ⟨none, some 29, .call ⟨.value (.tmp 26), ⟨[.tmp 27, .tmp 28]⟩, ⟨[36, 36]⟩⟩⟩,
  ⟨none, some 30, .unOp .not 4 (.tmp 29)⟩]
def r61_7_w {E fr h Q} := @opsW_unf E fr h Q _ _ r61_7.eq_1
def s61_8 : GC := .seq (.ops r61_7) s61_6
def s61_8_w {E nt rd fr h Q} := @wp_unf E nt rd fr h Q _ _ s61_8.eq_1
def r61_9 : List GO := [⟨none, some 22, .move (.tmp 1)⟩,
  ⟨none, some 23, .move (.tmp 7)⟩,
  ⟨none, some 24, .indexAddr 23 (.tmp 22) (.tmp 23)⟩,
  ⟨none, some 25, .load 36 (.tmp 24)⟩,
  ⟨none, some 9, .assign (.tmp 25)⟩]
def r61_9_w {E fr h Q} := @opsW_unf E fr h Q _ _ r61_9.eq_1
def s61_10 : GC := .seq (.ops r61_9) s61_8
def s61_10_w {E nt rd fr h Q} := @wp_unf E nt rd fr h Q _ _ s61_10.eq_1
def r61_11 : List GO := [⟨none, some 19, .move (.tmp 17)⟩,
  ⟨none, some 20, .indexAddr 23 (.tmp 15) (.tmp 17)⟩,
  ⟨none, some 21, .load 36 (.tmp 20)⟩,
  ⟨none, some 7, .assign (.tmp 19)⟩,
  ⟨none, some 8, .assign (.tmp 21)⟩]
def r61_11_w {E fr h Q} := @opsW_unf E fr h Q _ _ r61_11.eq_1
def s61_12 : GC := .seq (.ops r61_11) s61_10
def s61_12_w {E nt rd fr h Q} := @wp_unf E nt rd fr h Q _ _ s61_12.eq_1
def s61_13 : GC := .seq (.block 1 s61_12) s61_3
def s61_13_w {E nt rd fr h Q} := @wp_unf E nt rd fr h Q _ _ s61_13.eq_1
def s61_14 : GC := .cond (.tmp 18) .skip (.exit 0)
def s61_14_w {E nt rd fr h Q} := @wp_unf E nt rd fr h Q _ _ s61_14.eq_1
def s61_15 : GC := .seq (s61_14) s61_13
def s61_15_w {E nt rd fr h Q} := @wp_unf E nt rd fr h Q _ _ s61_15.eq_1
def r61_16 : List GO := [⟨none, some 18, .binOp .lss 3 (.tmp 17) (.tmp 16) 3⟩]
def r61_16_w {E fr h Q} := @opsW_unf E fr h Q _ _ r61_16.eq_1
def s61_17 : GC := .seq (.ops r61_16) s61_15
def s61_17_w {E nt rd fr h Q} := @wp_unf E nt rd fr h Q _ _ s61_17.eq_1
def s61_18 : GC := .loop s61_17
def s61_18_w {E nt rd fr h Q} := @wp_unf E nt rd fr h Q _ _ s61_18.eq_1
def s61_19 : GC := .block 0 s61_18
def s61_19_w {E nt rd fr h Q} := @wp_unf E nt rd fr h Q _ _ s61_19.eq_1
def r61_20 : List GO := [⟨none, some 15, .move (.tmp 0)⟩,
  ⟨none, some 16, .call ⟨.builtin .len, ⟨[.tmp 15]⟩, ⟨[23]⟩⟩⟩,
  ⟨none, some 17, .move (.const (.int .i64 0))⟩]
def r61_20_w {E fr h Q} := @opsW_unf E fr h Q _ _ r61_20.eq_1
def s61_21 : GC := .seq (.ops r61_20) s61_19
def s61_21_w {E nt rd fr h Q} := @wp_unf E nt rd fr h Q _ _ s61_21.eq_1
def s61_22 : GC := .seq (s61_21) s61_1
def s61_22_w {E nt rd fr h Q} := @wp_unf E nt rd fr h Q _ _ s61_22.eq_1
def r61_23 : List GO := [⟨none, some 6, .assign (.const (.bool false))⟩]
def r61_23_w {E fr h Q} := @opsW_unf E fr h Q _ _ r61_23.eq_1
def s61_24 : GC := .seq (.ops r61_23) .ret
def s61_24_w {E nt rd fr h Q} := @wp_unf E nt rd fr h Q _ _ s61_24.eq_1
def s61_25 : GC := .cond (.tmp 14) s61_24 .skip
def s61_25_w {E nt rd fr h Q} := @wp_unf E nt rd fr h Q _ _ s61_25.eq_1
def r61_26 : List GO := [⟨none, some 10, .move (.tmp 0)⟩,
  ⟨none, some 11, .call ⟨.builtin .len, ⟨[.tmp 10]⟩, ⟨[23]⟩⟩⟩,
  ⟨none, some 12, .move (.tmp 1)⟩,
  ⟨none, some 13, .call ⟨.builtin .len, ⟨[.tmp 12]⟩, ⟨[23]⟩⟩⟩,
  ⟨none, some 14, .binOp .neq 3 (.tmp 11) (.tmp 13) 3⟩]
def r61_26_w {E fr h Q} := @opsW_unf E fr h Q _ _ r61_26.eq_1
def s61_27 : GC := .seq (.ops r61_26) s61_25
def s61_27_w {E nt rd fr h Q} := @wp_unf E nt rd fr h Q _ _ s61_27.eq_1
def s61_28 : GC := .seq (s61_27) s61_22
def s61_28_w {E nt rd fr h Q} := @wp_unf E nt rd fr h Q _ _ s61_28.eq_1
def r61_29 : List GO := [⟨none, some 6, .assign (.const (.bool false))⟩]
def r61_29_w {E fr h Q} := @opsW_unf E fr h Q _ _ r61_29.eq_1
def s61_30 : GC := .seq (.ops r61_29) s61_28
def s61_30_w {E nt rd fr h Q} := @wp_unf E nt rd fr h Q _ _ s61_30.eq_1
theorem c61 : Tryz.f61.body.bind (clean env 32) = some s61_30 := by kernel_rfl
theorem e61 : env.funs.get 61 = some Tryz.f61 := by kernel_rfl
theorem F61 {args : List Value} {h : Heap} {K : Value → Heap → Prop} (hl : args.length = 3) (w : s61_30.wp env 32 none (setAll args 0 .leaf) h (resK env [.tmp 6] K)) : Ret env (.func 61) args h K :=
  Ret.of_body' rfl e61 c61 rfl rfl (by rw [hl]; decide) w
/-! bytes.Equal -/
def r62_0 : List GO := [⟨none, some 5, .move (.tmp 0)⟩,
  ⟨none, some 6, .convert 36 9 (.tmp 5)⟩,
  ⟨none, some 7, .move (.tmp 1)⟩,
  ⟨none, some 8, .convert 36 9 (.tmp 7)⟩,
  ⟨none, some 9, .binOp .eql 9 (.tmp 6) (.tmp 8) 9⟩,
  ⟨none, some 4, .assign (.tmp 9)⟩]
def r62_0_w {E fr h Q} := @opsW_unf E fr h Q _ _ r62_0.eq_1
def s62_1 : GC := .seq (.ops r62_0) .ret
def s62_1_w {E nt rd fr h Q} := @wp_unf E nt rd fr h Q _ _ s62_1.eq_1
def r62_2 : List GO := [⟨none, some 4, .assign (.const (.bool false))⟩]
def r62_2_w {E fr h Q} := @opsW_unf E fr h Q _ _ r62_2.eq_1
def s62_3 : GC := .seq (.ops r62_2) s62_1
def s62_3_w {E nt rd fr h Q} := @wp_unf E nt rd fr h Q _ _ s62_3.eq_1
theorem c62 : Tryz.f62.body.bind (clean env 10) = some s62_3 := by kernel_rfl
theorem e62 : env.funs.get 62 = some Tryz.f62 := by kernel_rfl
theorem F62 {args : List Value} {h : Heap} {K : Value → Heap → Prop} (hl : args.length = 2) (w : s62_3.wp env 10 none (setAll args 0 .leaf) h (resK env [.tmp 4] K)) : Ret env (.func 62) args h K :=
  Ret.of_body' rfl e62 c62 rfl rfl (by rw [hl]; decide) w

end Go.Proofs.YtohjaacnlmkhbaaGreatDoor

