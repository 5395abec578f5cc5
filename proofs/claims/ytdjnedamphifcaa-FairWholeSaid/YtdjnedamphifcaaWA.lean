/- The code of the functions that 'FairWhole' reaches, as plain Lean, and how a call of each is walked. Conditions: none. -/
import Derived.Test.YtdjnedamphifcaaZN
import Derived.Test.YtdjnedamphifcaaChecked
import Derived.KernelRfl
set_option linter.unusedSimpArgs false
set_option linter.unusedVariables false
namespace Go.Proofs.Ytdjnedamphifcaa
open Go.Ev
set_option maxRecDepth 100000
noncomputable def env : Env := envOf Try.prog 0 (extKnown (extAdd 67) 6)
section
variable {fr : Fr} {h : Heap} {K : Value → Heap → Prop} {x y z : Operand} {ps : List (Nat × Operand)}
theorem agl_45 : ∀ {v : Value} {K : Value → Prop}, agL env 45 v h K = ldNK h 12 v K := agL_many (by kernel_rfl)
theorem ld_45 : opW env (.load 45 x) fr h K = evK env fr x fun v => ldNK h 12 v fun u => K u h := opW_loadN (by kernel_rfl)
theorem fa_45_1 : opW env (.fieldAddr 45 x 1) fr h K = evK env fr x fun v => fldAK 1 v fun u => K u h := opW_fieldAddr (by kernel_rfl)
theorem ld_34 : opW env (.load 34 x) fr h K = evK env fr x fun v => ld1K h v fun u => K u h := opW_load1 (by kernel_rfl)
theorem len_34 : opW env (.call ⟨.builtin .len, ⟨[x]⟩, ⟨[34]⟩⟩) fr h K = evK env fr x fun v => lenK v fun u => K u h := opW_lenS (by kernel_rfl)
theorem ia_34 : opW env (.indexAddr 34 x y) fr h K = evK env fr x fun v => evK env fr y fun i => idxSK 21 v i fun u => K u h := opW_indexAddrS (by kernel_rfl)
theorem fa_66_0 : opW env (.fieldAddr 66 x 0) fr h K = evK env fr x fun v => fldAK 0 v fun u => K u h := opW_fieldAddr (by kernel_rfl)
theorem fa_59_0 : opW env (.fieldAddr 59 x 0) fr h K = evK env fr x fun v => fldAK 0 v fun u => K u h := opW_fieldAddr (by kernel_rfl)
theorem ld_3 : opW env (.load 3 x) fr h K = evK env fr x fun v => ld1K h v fun u => K u h := opW_load1 (by kernel_rfl)
theorem fa_45_5 : opW env (.fieldAddr 45 x 5) fr h K = evK env fr x fun v => fldAK 5 v fun u => K u h := opW_fieldAddr (by kernel_rfl)
theorem fa_42_5 : opW env (.fieldAddr 42 x 5) fr h K = evK env fr x fun v => fldAK 5 v fun u => K u h := opW_fieldAddr (by kernel_rfl)
theorem ld_38 : opW env (.load 38 x) fr h K = evK env fr x fun v => ld1K h v fun u => K u h := opW_load1 (by kernel_rfl)
theorem len_38 : opW env (.call ⟨.builtin .len, ⟨[x]⟩, ⟨[38]⟩⟩) fr h K = evK env fr x fun v => lenK v fun u => K u h := opW_lenS (by kernel_rfl)
theorem fa_45_6 : opW env (.fieldAddr 45 x 6) fr h K = evK env fr x fun v => fldAK 11 v fun u => K u h := opW_fieldAddr (by kernel_rfl)
theorem ld_43 : opW env (.load 43 x) fr h K = evK env fr x fun v => ld1K h v fun u => K u h := opW_load1 (by kernel_rfl)
theorem len_43 : opW env (.call ⟨.builtin .len, ⟨[x]⟩, ⟨[43]⟩⟩) fr h K = evK env fr x fun v => lenK v fun u => K u h := opW_lenS (by kernel_rfl)
theorem fa_42_2 : opW env (.fieldAddr 42 x 2) fr h K = evK env fr x fun v => fldAK 2 v fun u => K u h := opW_fieldAddr (by kernel_rfl)
theorem ld_39 : opW env (.load 39 x) fr h K = evK env fr x fun v => ld1K h v fun u => K u h := opW_load1 (by kernel_rfl)
theorem len_39 : opW env (.call ⟨.builtin .len, ⟨[x]⟩, ⟨[39]⟩⟩) fr h K = evK env fr x fun v => lenK v fun u => K u h := opW_lenS (by kernel_rfl)
theorem ia_39 : opW env (.indexAddr 39 x y) fr h K = evK env fr x fun v => evK env fr y fun i => idxSK 1 v i fun u => K u h := opW_indexAddrS (by kernel_rfl)
theorem fa_42_0 : opW env (.fieldAddr 42 x 0) fr h K = evK env fr x fun v => fldAK 0 v fun u => K u h := opW_fieldAddr (by kernel_rfl)
theorem fa_42_1 : opW env (.fieldAddr 42 x 1) fr h K = evK env fr x fun v => fldAK 1 v fun u => K u h := opW_fieldAddr (by kernel_rfl)
theorem ld_66 : opW env (.load 66 x) fr h K = evK env fr x fun v => ldNK h 21 v fun u => K u h := opW_loadN (by kernel_rfl)
theorem al_66 : opW env (.alloc 66) fr h K = K (.pointer (some ⟨h.n, 0, none⟩)) (newBlk h (.cells [.int .i64 0, .int .u64 0, .int .i64 0, .bool false, .int .i64 0, .int .u64 0, .int .i64 0, .int .u64 0, .int .u8 0, .int .i64 0, .int .i64 0, .int .u64 0, .int .u64 0, .int .u64 0, .int .u64 0, .int .u64 0, .int .u64 0, .int .u64 0, .int .u64 0, .int .i64 0, .int .u64 0] 66 true)) := opW_alloc (v := .agg ⟨[.int .i64 0, .int .u64 0, .int .i64 0, .bool false, .int .i64 0, .int .u64 0, .int .i64 0, .int .u64 0, .int .u8 0, .int .i64 0, .int .i64 0, .int .u64 0, .int .u64 0, .int .u64 0, .int .u64 0, .int .u64 0, .int .u64 0, .int .u64 0, .int .u64 0, .int .i64 0, .int .u64 0]⟩) (by kernel_rfl) rfl rfl
theorem st_66 : opW env (.store 66 x y) fr h K = evK env fr x fun p => evK env fr y fun v => stK 21 p v h K := opW_store (by kernel_rfl)
theorem al_71 : opW env (.alloc 71) fr h K = K (.pointer (some ⟨h.n, 0, none⟩)) (newBlk h (.cells [.int .i64 0, .int .i64 0, .int .i64 0] 71 true)) := opW_alloc (v := .agg ⟨[.int .i64 0, .int .i64 0, .int .i64 0]⟩) (by kernel_rfl) rfl rfl
theorem fa_66_1 : opW env (.fieldAddr 66 x 1) fr h K = evK env fr x fun v => fldAK 2 v fun u => K u h := opW_fieldAddr (by kernel_rfl)
theorem fa_64_0 : opW env (.fieldAddr 64 x 0) fr h K = evK env fr x fun v => fldAK 0 v fun u => K u h := opW_fieldAddr (by kernel_rfl)
theorem ld_60 : opW env (.load 60 x) fr h K = evK env fr x fun v => ld1K h v fun u => K u h := opW_load1 (by kernel_rfl)
theorem fa_71_0 : opW env (.fieldAddr 71 x 0) fr h K = evK env fr x fun v => fldAK 0 v fun u => K u h := opW_fieldAddr (by kernel_rfl)
theorem st_3 : opW env (.store 3 x y) fr h K = evK env fr x fun p => evK env fr y fun v => stK 1 p v h K := opW_store (by kernel_rfl)
theorem fa_71_1 : opW env (.fieldAddr 71 x 1) fr h K = evK env fr x fun v => fldAK 1 v fun u => K u h := opW_fieldAddr (by kernel_rfl)
theorem fa_71_2 : opW env (.fieldAddr 71 x 2) fr h K = evK env fr x fun v => fldAK 2 v fun u => K u h := opW_fieldAddr (by kernel_rfl)
theorem ld_71 : opW env (.load 71 x) fr h K = evK env fr x fun v => ldNK h 3 v fun u => K u h := opW_loadN (by kernel_rfl)
theorem eqA_71 : ∀ {a0 b0 a1 b1 a2 b2 : Int}, aeq env 100 71 (.agg ⟨[.int .i64 a0, .int .i64 a1, .int .i64 a2]⟩) (.agg ⟨[.int .i64 b0, .int .i64 b1, .int .i64 b2]⟩) = some (decide ((a0 = b0) ∧ ((a1 = b1) ∧ ((a2 = b2) ∧ (True))))) := by
  intro a0 b0 a1 b1 a2 b2
  have e : aeq env 100 71 (.agg ⟨[.int .i64 a0, .int .i64 a1, .int .i64 a2]⟩) (.agg ⟨[.int .i64 b0, .int .i64 b1, .int .i64 b2]⟩) = bindB (some (a0 == b0)) (bindB (some (a1 == b1)) (bindB (some (a2 == b2)) (some true))) := by kernel_rfl
  rw [e]; simp only [bindB_some, beqI, Bool.decide_and, decide_true]
theorem neqA_71 : ∀ {a0 b0 a1 b1 a2 b2 : Int} {c : Bool} {K : Value → Prop}, binK env .neq 71 c (.agg ⟨[.int .i64 a0, .int .i64 a1, .int .i64 a2]⟩) (.agg ⟨[.int .i64 b0, .int .i64 b1, .int .i64 b2]⟩) K = brK ((a0 = b0) ∧ ((a1 = b1) ∧ ((a2 = b2) ∧ (True)))) (K (.bool false)) (K (.bool true)) := bin_neqP (by kernel_rfl) eqA_71
theorem eqlA_71 : ∀ {a0 b0 a1 b1 a2 b2 : Int} {c : Bool} {K : Value → Prop}, binK env .eql 71 c (.agg ⟨[.int .i64 a0, .int .i64 a1, .int .i64 a2]⟩) (.agg ⟨[.int .i64 b0, .int .i64 b1, .int .i64 b2]⟩) K = brK ((a0 = b0) ∧ ((a1 = b1) ∧ ((a2 = b2) ∧ (True)))) (K (.bool true)) (K (.bool false)) := bin_eqlP (by kernel_rfl) eqA_71
theorem lenm_67 : opW env (.call ⟨.builtin .len, ⟨[x]⟩, ⟨[67]⟩⟩) fr h K = evK env fr x fun v => lenMK env 67 v h fun u => K u h := opW_lenM (by kernel_rfl)
theorem bsl_38_0 : opW env (.buildSlice 38 0 ⟨ps⟩) fr h K = evpK env fr ps fun l => bsK 3 1 [.int .i64 0] 0 l h K := opW_buildSlice (by kernel_rfl) (by decide)
theorem bsl_38_1 : opW env (.buildSlice 38 1 ⟨ps⟩) fr h K = evpK env fr ps fun l => bsK 3 1 [.int .i64 0] 1 l h K := opW_buildSlice (by kernel_rfl) (by decide)
theorem ap_38_38 : opW env (.call ⟨.builtin .append, ⟨[x, y]⟩, ⟨[38, 38]⟩⟩) fr h K = evK env fr x fun s => evK env fr y fun v => appK 3 1 s v h K := opW_append (zs := [.int .i64 0]) (by kernel_rfl) (by kernel_rfl)
theorem fa_64_4 : opW env (.fieldAddr 64 x 4) fr h K = evK env fr x fun v => fldAK 6 v fun u => K u h := opW_fieldAddr (by kernel_rfl)
theorem ld_5 : opW env (.load 5 x) fr h K = evK env fr x fun v => ld1K h v fun u => K u h := opW_load1 (by kernel_rfl)
theorem fa_64_9 : opW env (.fieldAddr 64 x 9) fr h K = evK env fr x fun v => fldAK 18 v fun u => K u h := opW_fieldAddr (by kernel_rfl)
theorem ld_22 : opW env (.load 22 x) fr h K = evK env fr x fun v => ld1K h v fun u => K u h := opW_load1 (by kernel_rfl)
theorem bd_76 : opW env (.build 76 ⟨ps⟩) fr h K = evpK env fr ps fun l => bdaK [.int .i64 0, .int .i64 0, .int .i64 0] 1 l fun u => K u h := opW_buildA (by kernel_rfl)
theorem al_76 : opW env (.alloc 76) fr h K = K (.pointer (some ⟨h.n, 0, none⟩)) (newBlk h (.cells [.int .i64 0, .int .i64 0, .int .i64 0] 76 true)) := opW_alloc (v := .agg ⟨[.int .i64 0, .int .i64 0, .int .i64 0]⟩) (by kernel_rfl) rfl rfl
theorem st_76 : opW env (.store 76 x y) fr h K = evK env fr x fun p => evK env fr y fun v => stK 3 p v h K := opW_store (by kernel_rfl)
theorem ia_76 : opW env (.indexAddr 76 x y) fr h K = evK env fr x fun v => evK env fr y fun i => idxAK 3 1 v i fun u => K u h := opW_indexAddrA (by kernel_rfl)
theorem ld_76 : opW env (.load 76 x) fr h K = evK env fr x fun v => ldNK h 3 v fun u => K u h := opW_loadN (by kernel_rfl)
theorem eqA_76 : ∀ {a0 b0 a1 b1 a2 b2 : Int}, aeq env 100 76 (.agg ⟨[.int .i64 a0, .int .i64 a1, .int .i64 a2]⟩) (.agg ⟨[.int .i64 b0, .int .i64 b1, .int .i64 b2]⟩) = some (decide ((a0 = b0) ∧ ((a1 = b1) ∧ ((a2 = b2) ∧ (True))))) := by
  intro a0 b0 a1 b1 a2 b2
  have e : aeq env 100 76 (.agg ⟨[.int .i64 a0, .int .i64 a1, .int .i64 a2]⟩) (.agg ⟨[.int .i64 b0, .int .i64 b1, .int .i64 b2]⟩) = bindB (some (a0 == b0)) (bindB (some (a1 == b1)) (bindB (some (a2 == b2)) (some true))) := by kernel_rfl
  rw [e]; simp only [bindB_some, beqI, Bool.decide_and, decide_true]
theorem neqA_76 : ∀ {a0 b0 a1 b1 a2 b2 : Int} {c : Bool} {K : Value → Prop}, binK env .neq 76 c (.agg ⟨[.int .i64 a0, .int .i64 a1, .int .i64 a2]⟩) (.agg ⟨[.int .i64 b0, .int .i64 b1, .int .i64 b2]⟩) K = brK ((a0 = b0) ∧ ((a1 = b1) ∧ ((a2 = b2) ∧ (True)))) (K (.bool false)) (K (.bool true)) := bin_neqP (by kernel_rfl) eqA_76
theorem eqlA_76 : ∀ {a0 b0 a1 b1 a2 b2 : Int} {c : Bool} {K : Value → Prop}, binK env .eql 76 c (.agg ⟨[.int .i64 a0, .int .i64 a1, .int .i64 a2]⟩) (.agg ⟨[.int .i64 b0, .int .i64 b1, .int .i64 b2]⟩) K = brK ((a0 = b0) ∧ ((a1 = b1) ∧ ((a2 = b2) ∧ (True)))) (K (.bool true)) (K (.bool false)) := bin_eqlP (by kernel_rfl) eqA_76
theorem ia_38 : opW env (.indexAddr 38 x y) fr h K = evK env fr x fun v => evK env fr y fun i => idxSK 1 v i fun u => K u h := opW_indexAddrS (by kernel_rfl)
theorem ia_43 : opW env (.indexAddr 43 x y) fr h K = evK env fr x fun v => evK env fr y fun i => idxSK 2 v i fun u => K u h := opW_indexAddrS (by kernel_rfl)
theorem fa_78_1 : opW env (.fieldAddr 78 x 1) fr h K = evK env fr x fun v => fldAK 1 v fun u => K u h := opW_fieldAddr (by kernel_rfl)
theorem agl_67 : ∀ {v : Value} {K : Value → Prop}, agL env 67 v h K = ld1K h v K := agL_one (by kernel_rfl)
theorem agl_38 : ∀ {v : Value} {K : Value → Prop}, agL env 38 v h K = ld1K h v K := agL_one (by kernel_rfl)
theorem agl_22 : ∀ {v : Value} {K : Value → Prop}, agL env 22 v h K = ld1K h v K := agL_one (by kernel_rfl)
theorem al_67 : opW env (.alloc 67) fr h K = K (.pointer (some ⟨h.n, 0, none⟩)) (newBlk h (.cells [.map none] 67 true)) := opW_alloc (v := .map none) (by kernel_rfl) rfl rfl
theorem mm_67 : opW env (.makeMap 67 none) fr h K = K (.map (some h.n)) (newBlk h (.map [] 0)) := opW_makeMap (by kernel_rfl)
theorem st_67 : opW env (.store 67 x y) fr h K = evK env fr x fun p => evK env fr y fun v => stK 1 p v h K := opW_store (by kernel_rfl)
theorem fd_64_4 : opW env (.field 64 x 4) fr h K = evK env fr x fun v => partV 6 none v fun u => K u h := opW_field (by kernel_rfl)
theorem bsl_39_1 : opW env (.buildSlice 39 1 ⟨ps⟩) fr h K = evpK env fr ps fun l => bsK 38 1 [.slice none 0 0] 1 l h K := opW_buildSlice (by kernel_rfl) (by decide)
theorem ap_39_39 : opW env (.call ⟨.builtin .append, ⟨[x, y]⟩, ⟨[39, 39]⟩⟩) fr h K = evK env fr x fun s => evK env fr y fun v => appK 38 1 s v h K := opW_append (zs := [.slice none 0 0]) (by kernel_rfl) (by kernel_rfl)
theorem ld_78 : opW env (.load 78 x) fr h K = evK env fr x fun v => ldNK h 2 v fun u => K u h := opW_loadN (by kernel_rfl)
theorem al_78 : opW env (.alloc 78) fr h K = K (.pointer (some ⟨h.n, 0, none⟩)) (newBlk h (.cells [.int .u64 0, .int .i64 0] 78 true)) := opW_alloc (v := .agg ⟨[.int .u64 0, .int .i64 0]⟩) (by kernel_rfl) rfl rfl
theorem st_78 : opW env (.store 78 x y) fr h K = evK env fr x fun p => evK env fr y fun v => stK 2 p v h K := opW_store (by kernel_rfl)
theorem fa_78_0 : opW env (.fieldAddr 78 x 0) fr h K = evK env fr x fun v => fldAK 0 v fun u => K u h := opW_fieldAddr (by kernel_rfl)
theorem fd_64_9 : opW env (.field 64 x 9) fr h K = evK env fr x fun v => partV 18 none v fun u => K u h := opW_field (by kernel_rfl)
theorem ld_67 : opW env (.load 67 x) fr h K = evK env fr x fun v => ld1K h v fun u => K u h := opW_load1 (by kernel_rfl)
theorem st_71 : opW env (.store 71 x y) fr h K = evK env fr x fun p => evK env fr y fun v => stK 3 p v h K := opW_store (by kernel_rfl)
theorem agl_64 : ∀ {v : Value} {K : Value → Prop}, agL env 64 v h K = ldNK h 19 v K := agL_many (by kernel_rfl)
theorem al_64 : opW env (.alloc 64) fr h K = K (.pointer (some ⟨h.n, 0, none⟩)) (newBlk h (.cells [.int .i64 0, .bool false, .int .i64 0, .int .u64 0, .int .i64 0, .int .u64 0, .int .u8 0, .int .i64 0, .int .i64 0, .int .u64 0, .int .u64 0, .int .u64 0, .int .u64 0, .int .u64 0, .int .u64 0, .int .u64 0, .int .u64 0, .int .i64 0, .int .u64 0] 64 true)) := opW_alloc (v := .agg ⟨[.int .i64 0, .bool false, .int .i64 0, .int .u64 0, .int .i64 0, .int .u64 0, .int .u8 0, .int .i64 0, .int .i64 0, .int .u64 0, .int .u64 0, .int .u64 0, .int .u64 0, .int .u64 0, .int .u64 0, .int .u64 0, .int .u64 0, .int .i64 0, .int .u64 0]⟩) (by kernel_rfl) rfl rfl
theorem bd_64 : opW env (.build 64 ⟨ps⟩) fr h K = evpK env fr ps fun l => bdK [.int .i64 0, .bool false, .int .i64 0, .int .u64 0, .int .i64 0, .int .u64 0, .int .u8 0, .int .i64 0, .int .i64 0, .int .u64 0, .int .u64 0, .int .u64 0, .int .u64 0, .int .u64 0, .int .u64 0, .int .u64 0, .int .u64 0, .int .i64 0, .int .u64 0] [(0, 1), (1, 1), (2, 2), (4, 2), (6, 1), (7, 1), (8, 1), (9, 8), (17, 1), (18, 1)] l fun u => K u h := opW_build (by kernel_rfl)
theorem st_64 : opW env (.store 64 x y) fr h K = evK env fr x fun p => evK env fr y fun v => stK 19 p v h K := opW_store (by kernel_rfl)
theorem ld_64 : opW env (.load 64 x) fr h K = evK env fr x fun v => ldNK h 19 v fun u => K u h := opW_loadN (by kernel_rfl)
theorem eqN_39 : ∀ {c : Bool} {a : Option Addr} {n m : Nat} {K : Value → Prop}, binK env .eql 39 c (.slice a n m) (.slice none 0 0) K = K (.bool a.isNone) := bin_eqlNil (by kernel_rfl)
theorem bsl_39_0 : opW env (.buildSlice 39 0 ⟨ps⟩) fr h K = evpK env fr ps fun l => bsK 38 1 [.slice none 0 0] 0 l h K := opW_buildSlice (by kernel_rfl) (by decide)
theorem cap_38 : opW env (.call ⟨.builtin .cap, ⟨[x]⟩, ⟨[38]⟩⟩) fr h K = evK env fr x fun v => capK v fun u => K u h := opW_cap (by kernel_rfl)
theorem slz_38 : slzOf env 38 = some 1 := by kernel_rfl
theorem apz_38_3 : opW env (.call ⟨.builtin .append, ⟨[x, y]⟩, ⟨[38, 3]⟩⟩) fr h K = evK env fr x fun s => evK env fr y fun v => appZK 3 1 [.int .i64 0] s v h K := opW_appendZ (by kernel_rfl) (by kernel_rfl)
end
/-! helmsman/helmsmanlaw30.FairWhole -/
def p4_0 : List (GO × List GO) := [(⟨none, some 7, .load 45 (.tmp 1)⟩, []),
  (⟨none, some 9, .load 45 (.tmp 1)⟩, []),
  (⟨none, some 8, .call ⟨.value (.func 13), ⟨[.tmp 7]⟩, ⟨[45]⟩⟩⟩, [⟨none, some 9, .load 45 (.tmp 1)⟩]),
  (⟨none, some 10, .call ⟨.value (.func 14), ⟨[.tmp 9]⟩, ⟨[45]⟩⟩⟩, []),
  (⟨none, some 11, .binOp .eql 4 (.tmp 8) (.tmp 10) 4⟩, []),
  (⟨none, some 12, .move (.tmp 11)⟩, []),
  (⟨some (12, true), some 13, .call ⟨.value (.func 6), ⟨[]⟩, ⟨[]⟩⟩⟩, []),
  (⟨none, some 14, .pick (.tmp 12) (.tmp 13) (.const (.bool false))⟩, []),
  (⟨none, some 2, .assign (.tmp 14)⟩, [])]
theorem p4_0_w {E : Env} {fr : Fr} {h : Heap} {Q : Fr → Heap → Prop} : planW E p4_0 fr h Q = planW E [(⟨none, some 7, .load 45 (.tmp 1)⟩, []),
  (⟨none, some 9, .load 45 (.tmp 1)⟩, []),
  (⟨none, some 8, .call ⟨.value (.func 13), ⟨[.tmp 7]⟩, ⟨[45]⟩⟩⟩, [⟨none, some 9, .load 45 (.tmp 1)⟩]),
  (⟨none, some 10, .call ⟨.value (.func 14), ⟨[.tmp 9]⟩, ⟨[45]⟩⟩⟩, []),
  (⟨none, some 11, .binOp .eql 4 (.tmp 8) (.tmp 10) 4⟩, []),
  (⟨none, some 12, .move (.tmp 11)⟩, []),
  (⟨some (12, true), some 13, .call ⟨.value (.func 6), ⟨[]⟩, ⟨[]⟩⟩⟩, []),
  (⟨none, some 14, .pick (.tmp 12) (.tmp 13) (.const (.bool false))⟩, []),
  (⟨none, some 2, .assign (.tmp 14)⟩, [])] fr h Q := Eq.trans rfl rfl
def s4_1 : GC := .seq (.plan p4_0) .ret
theorem s4_1_w {E : Env} {nt : Nat} {rd : Option Nat} {fr : Fr} {h : Heap} {Q : Ex → Fr → Heap → Prop} : s4_1.wp E nt rd fr h Q = (GC.seq (.plan p4_0) .ret).wp E nt rd fr h Q := Eq.trans rfl rfl
def r4_2 : List GO := [⟨none, some 6, .call ⟨.value (.func 6), ⟨[]⟩, ⟨[]⟩⟩⟩,
  ⟨none, some 2, .assign (.tmp 6)⟩]
theorem r4_2_w {E : Env} {fr : Fr} {h : Heap} {Q : Fr → Heap → Prop} : opsW E r4_2 fr h Q = opsW E [⟨none, some 6, .call ⟨.value (.func 6), ⟨[]⟩, ⟨[]⟩⟩⟩,
  ⟨none, some 2, .assign (.tmp 6)⟩] fr h Q := Eq.trans rfl rfl
def s4_3 : GC := .seq (.ops r4_2) .ret
theorem s4_3_w {E : Env} {nt : Nat} {rd : Option Nat} {fr : Fr} {h : Heap} {Q : Ex → Fr → Heap → Prop} : s4_3.wp E nt rd fr h Q = (GC.seq (.ops r4_2) .ret).wp E nt rd fr h Q := Eq.trans rfl rfl
def s4_4 : GC := .cond (.tmp 5) s4_3 .skip
theorem s4_4_w {E : Env} {nt : Nat} {rd : Option Nat} {fr : Fr} {h : Heap} {Q : Ex → Fr → Heap → Prop} : s4_4.wp E nt rd fr h Q = (GC.cond (.tmp 5) s4_3 .skip).wp E nt rd fr h Q := Eq.trans rfl rfl
def r4_5 : List GO := [⟨none, some 3, .load 45 (.tmp 1)⟩,
  ⟨none, some 4, .call ⟨.value (.func 12), ⟨[.tmp 3]⟩, ⟨[45]⟩⟩⟩,
  ⟨none, some 5, .unOp .not 4 (.tmp 4)⟩]
theorem r4_5_w {E : Env} {fr : Fr} {h : Heap} {Q : Fr → Heap → Prop} : opsW E r4_5 fr h Q = opsW E [⟨none, some 3, .load 45 (.tmp 1)⟩,
  ⟨none, some 4, .call ⟨.value (.func 12), ⟨[.tmp 3]⟩, ⟨[45]⟩⟩⟩,
  ⟨none, some 5, .unOp .not 4 (.tmp 4)⟩] fr h Q := Eq.trans rfl rfl
def s4_6 : GC := .seq (.ops r4_5) s4_4
theorem s4_6_w {E : Env} {nt : Nat} {rd : Option Nat} {fr : Fr} {h : Heap} {Q : Ex → Fr → Heap → Prop} : s4_6.wp E nt rd fr h Q = (GC.seq (.ops r4_5) s4_4).wp E nt rd fr h Q := Eq.trans rfl rfl
def s4_7 : GC := .seq (s4_6) s4_1
theorem s4_7_w {E : Env} {nt : Nat} {rd : Option Nat} {fr : Fr} {h : Heap} {Q : Ex → Fr → Heap → Prop} : s4_7.wp E nt rd fr h Q = (GC.seq (s4_6) s4_1).wp E nt rd fr h Q := Eq.trans rfl rfl
def r4_8 : List GO := [⟨none, some 1, .box 45 (.tmp 0)⟩,
  ⟨none, some 2, .assign (.const (.bool false))⟩]
theorem r4_8_w {E : Env} {fr : Fr} {h : Heap} {Q : Fr → Heap → Prop} : opsW E r4_8 fr h Q = opsW E [⟨none, some 1, .box 45 (.tmp 0)⟩,
  ⟨none, some 2, .assign (.const (.bool false))⟩] fr h Q := Eq.trans rfl rfl
def s4_9 : GC := .seq (.ops r4_8) s4_7
theorem s4_9_w {E : Env} {nt : Nat} {rd : Option Nat} {fr : Fr} {h : Heap} {Q : Ex → Fr → Heap → Prop} : s4_9.wp E nt rd fr h Q = (GC.seq (.ops r4_8) s4_7).wp E nt rd fr h Q := Eq.trans rfl rfl
theorem c4 : Try.f4.body.bind (clean env 15) = some s4_9 := by kernel_rfl
theorem e4 : env.funs.get 4 = some Try.f4 := by kernel_rfl
theorem F4 {args : List Value} {h : Heap} {K : Value → Heap → Prop} (hl : args.length = 1) (w : s4_9.wp env 15 none (setAll args 0 .leaf) h (resK env [.tmp 2] K)) : Ret env (.func 4) args h K :=
  Ret.of_body' rfl e4 c4 rfl rfl (by rw [hl]; decide) w
/-! helmsman/helmsmanlaw30.once -/
def r12_0 : List GO := [⟨none, some 75, .fieldAddr 45 (.tmp 1) 1⟩,
  ⟨none, some 76, .load 34 (.tmp 75)⟩,
  ⟨none, some 77, .call ⟨.builtin .len, ⟨[.tmp 76]⟩, ⟨[34]⟩⟩⟩,
  ⟨none, some 78, .binOp .leq 3 (.tmp 77) (.const (.int .i64 20)) 3⟩,
  ⟨none, some 79, .move (.tmp 78)⟩,
  ⟨some (79, true), some 80, .fieldAddr 45 (.tmp 1) 5⟩,
  ⟨some (79, true), some 81, .fieldAddr 42 (.tmp 80) 2⟩,
  ⟨some (79, true), some 82, .load 39 (.tmp 81)⟩,
  ⟨some (79, true), some 83, .call ⟨.builtin .len, ⟨[.tmp 82]⟩, ⟨[39]⟩⟩⟩,
  ⟨some (79, true), some 84, .binOp .leq 3 (.tmp 83) (.const (.int .i64 8)) 3⟩,
  ⟨none, some 85, .pick (.tmp 79) (.tmp 84) (.const (.bool false))⟩,
  ⟨none, some 86, .move (.tmp 85)⟩,
  ⟨some (86, true), some 87, .fieldAddr 45 (.tmp 1) 5⟩,
  ⟨some (86, true), some 88, .fieldAddr 42 (.tmp 87) 0⟩,
  ⟨some (86, true), some 89, .load 38 (.tmp 88)⟩,
  ⟨some (86, true), some 90, .call ⟨.builtin .len, ⟨[.tmp 89]⟩, ⟨[38]⟩⟩⟩,
  ⟨some (86, true), some 91, .binOp .leq 3 (.tmp 90) (.const (.int .i64 8)) 3⟩,
  ⟨none, some 92, .pick (.tmp 86) (.tmp 91) (.const (.bool false))⟩,
  ⟨none, some 93, .move (.tmp 92)⟩,
  ⟨some (93, true), some 94, .fieldAddr 45 (.tmp 1) 5⟩,
  ⟨some (93, true), some 95, .fieldAddr 42 (.tmp 94) 1⟩,
  ⟨some (93, true), some 96, .load 38 (.tmp 95)⟩,
  ⟨some (93, true), some 97, .call ⟨.builtin .len, ⟨[.tmp 96]⟩, ⟨[38]⟩⟩⟩,
  ⟨some (93, true), some 98, .binOp .leq 3 (.tmp 97) (.const (.int .i64 8)) 3⟩,
  ⟨none, some 99, .pick (.tmp 93) (.tmp 98) (.const (.bool false))⟩,
  ⟨none, some 100, .move (.tmp 99)⟩,
  ⟨some (100, true), some 101, .move (.tmp 5)⟩,
  ⟨some (100, true), some 102, .binOp .leq 3 (.tmp 101) (.const (.int .i64 200)) 3⟩,
  ⟨none, some 103, .pick (.tmp 100) (.tmp 102) (.const (.bool false))⟩,
  ⟨none, some 2, .assign (.tmp 103)⟩]
theorem r12_0_w {E : Env} {fr : Fr} {h : Heap} {Q : Fr → Heap → Prop} : opsW E r12_0 fr h Q = opsW E [⟨none, some 75, .fieldAddr 45 (.tmp 1) 1⟩,
  ⟨none, some 76, .load 34 (.tmp 75)⟩,
  ⟨none, some 77, .call ⟨.builtin .len, ⟨[.tmp 76]⟩, ⟨[34]⟩⟩⟩,
  ⟨none, some 78, .binOp .leq 3 (.tmp 77) (.const (.int .i64 20)) 3⟩,
  ⟨none, some 79, .move (.tmp 78)⟩,
  ⟨some (79, true), some 80, .fieldAddr 45 (.tmp 1) 5⟩,
  ⟨some (79, true), some 81, .fieldAddr 42 (.tmp 80) 2⟩,
  ⟨some (79, true), some 82, .load 39 (.tmp 81)⟩,
  ⟨some (79, true), some 83, .call ⟨.builtin .len, ⟨[.tmp 82]⟩, ⟨[39]⟩⟩⟩,
  ⟨some (79, true), some 84, .binOp .leq 3 (.tmp 83) (.const (.int .i64 8)) 3⟩,
  ⟨none, some 85, .pick (.tmp 79) (.tmp 84) (.const (.bool false))⟩,
  ⟨none, some 86, .move (.tmp 85)⟩,
  ⟨some (86, true), some 87, .fieldAddr 45 (.tmp 1) 5⟩,
  ⟨some (86, true), some 88, .fieldAddr 42 (.tmp 87) 0⟩,
  ⟨some (86, true), some 89, .load 38 (.tmp 88)⟩,
  ⟨some (86, true), some 90, .call ⟨.builtin .len, ⟨[.tmp 89]⟩, ⟨[38]⟩⟩⟩,
  ⟨some (86, true), some 91, .binOp .leq 3 (.tmp 90) (.const (.int .i64 8)) 3⟩,
  ⟨none, some 92, .pick (.tmp 86) (.tmp 91) (.const (.bool false))⟩,
  ⟨none, some 93, .move (.tmp 92)⟩,
  ⟨some (93, true), some 94, .fieldAddr 45 (.tmp 1) 5⟩,
  ⟨some (93, true), some 95, .fieldAddr 42 (.tmp 94) 1⟩,
  ⟨some (93, true), some 96, .load 38 (.tmp 95)⟩,
  ⟨some (93, true), some 97, .call ⟨.builtin .len, ⟨[.tmp 96]⟩, ⟨[38]⟩⟩⟩,
  ⟨some (93, true), some 98, .binOp .leq 3 (.tmp 97) (.const (.int .i64 8)) 3⟩,
  ⟨none, some 99, .pick (.tmp 93) (.tmp 98) (.const (.bool false))⟩,
  ⟨none, some 100, .move (.tmp 99)⟩,
  ⟨some (100, true), some 101, .move (.tmp 5)⟩,
  ⟨some (100, true), some 102, .binOp .leq 3 (.tmp 101) (.const (.int .i64 200)) 3⟩,
  ⟨none, some 103, .pick (.tmp 100) (.tmp 102) (.const (.bool false))⟩,
  ⟨none, some 2, .assign (.tmp 103)⟩] fr h Q := Eq.trans rfl rfl
def s12_1 : GC := .seq (.ops r12_0) .ret
theorem s12_1_w {E : Env} {nt : Nat} {rd : Option Nat} {fr : Fr} {h : Heap} {Q : Ex → Fr → Heap → Prop} : s12_1.wp E nt rd fr h Q = (GC.seq (.ops r12_0) .ret).wp E nt rd fr h Q := Eq.trans rfl rfl
def r12_2 : List GO := [⟨none, some 64, .move (.tmp 6)⟩,
  ⟨none, some 65, .binOp .add 3 (.tmp 64) (.const (.int .i64 1)) 3⟩,
  ⟨none, some 6, .assign (.tmp 65)⟩]
theorem r12_2_w {E : Env} {fr : Fr} {h : Heap} {Q : Fr → Heap → Prop} : opsW E r12_2 fr h Q = opsW E [⟨none, some 64, .move (.tmp 6)⟩,
  ⟨none, some 65, .binOp .add 3 (.tmp 64) (.const (.int .i64 1)) 3⟩,
  ⟨none, some 6, .assign (.tmp 65)⟩] fr h Q := Eq.trans rfl rfl
def s12_3 : GC := .ops r12_2
theorem s12_3_w {E : Env} {nt : Nat} {rd : Option Nat} {fr : Fr} {h : Heap} {Q : Ex → Fr → Heap → Prop} : s12_3.wp E nt rd fr h Q = (GC.ops r12_2).wp E nt rd fr h Q := Eq.trans rfl rfl
def r12_4 : List GO := [⟨none, some 66, .move (.tmp 5)⟩,
  ⟨none, some 67, .fieldAddr 45 (.tmp 1) 5⟩,
  ⟨none, some 68, .fieldAddr 42 (.tmp 67) 2⟩,
  ⟨none, some 69, .load 39 (.tmp 68)⟩,
  ⟨none, some 70, .move (.tmp 6)⟩,
  ⟨none, some 71, .indexAddr 39 (.tmp 69) (.tmp 70)⟩,
  ⟨none, some 72, .load 38 (.tmp 71)⟩,
  ⟨none, some 73, .call ⟨.builtin .len, ⟨[.tmp 72]⟩, ⟨[38]⟩⟩⟩,
  ⟨none, some 74, .binOp .add 3 (.tmp 66) (.tmp 73) 3⟩,
  ⟨none, some 5, .assign (.tmp 74)⟩]
theorem r12_4_w {E : Env} {fr : Fr} {h : Heap} {Q : Fr → Heap → Prop} : opsW E r12_4 fr h Q = opsW E [⟨none, some 66, .move (.tmp 5)⟩,
  ⟨none, some 67, .fieldAddr 45 (.tmp 1) 5⟩,
  ⟨none, some 68, .fieldAddr 42 (.tmp 67) 2⟩,
  ⟨none, some 69, .load 39 (.tmp 68)⟩,
  ⟨none, some 70, .move (.tmp 6)⟩,
  ⟨none, some 71, .indexAddr 39 (.tmp 69) (.tmp 70)⟩,
  ⟨none, some 72, .load 38 (.tmp 71)⟩,
  ⟨none, some 73, .call ⟨.builtin .len, ⟨[.tmp 72]⟩, ⟨[38]⟩⟩⟩,
  ⟨none, some 74, .binOp .add 3 (.tmp 66) (.tmp 73) 3⟩,
  ⟨none, some 5, .assign (.tmp 74)⟩] fr h Q := Eq.trans rfl rfl
def s12_5 : GC := .ops r12_4
theorem s12_5_w {E : Env} {nt : Nat} {rd : Option Nat} {fr : Fr} {h : Heap} {Q : Ex → Fr → Heap → Prop} : s12_5.wp E nt rd fr h Q = (GC.ops r12_4).wp E nt rd fr h Q := Eq.trans rfl rfl
def s12_6 : GC := .seq (.block 5 s12_5) s12_3
theorem s12_6_w {E : Env} {nt : Nat} {rd : Option Nat} {fr : Fr} {h : Heap} {Q : Ex → Fr → Heap → Prop} : s12_6.wp E nt rd fr h Q = (GC.seq (.block 5 s12_5) s12_3).wp E nt rd fr h Q := Eq.trans rfl rfl
def s12_7 : GC := .cond (.tmp 63) .skip (.exit 4)
theorem s12_7_w {E : Env} {nt : Nat} {rd : Option Nat} {fr : Fr} {h : Heap} {Q : Ex → Fr → Heap → Prop} : s12_7.wp E nt rd fr h Q = (GC.cond (.tmp 63) .skip (.exit 4)).wp E nt rd fr h Q := Eq.trans rfl rfl
def r12_8 : List GO := [⟨none, some 54, .move (.tmp 6)⟩,
  ⟨none, some 55, .fieldAddr 45 (.tmp 1) 5⟩,
  ⟨none, some 56, .fieldAddr 42 (.tmp 55) 2⟩,
  ⟨none, some 57, .load 39 (.tmp 56)⟩,
  ⟨none, some 58, .call ⟨.builtin .len, ⟨[.tmp 57]⟩, ⟨[39]⟩⟩⟩,
  ⟨none, some 59, .binOp .lss 3 (.tmp 54) (.tmp 58) 3⟩,
  ⟨none, some 60, .move (.tmp 59)⟩,
  ⟨some (60, true), some 61, .move (.tmp 6)⟩,
  ⟨some (60, true), some 62, .binOp .leq 3 (.tmp 61) (.const (.int .i64 8)) 3⟩,
  ⟨none, some 63, .pick (.tmp 60) (.tmp 62) (.const (.bool false))⟩]
theorem r12_8_w {E : Env} {fr : Fr} {h : Heap} {Q : Fr → Heap → Prop} : opsW E r12_8 fr h Q = opsW E [⟨none, some 54, .move (.tmp 6)⟩,
  ⟨none, some 55, .fieldAddr 45 (.tmp 1) 5⟩,
  ⟨none, some 56, .fieldAddr 42 (.tmp 55) 2⟩,
  ⟨none, some 57, .load 39 (.tmp 56)⟩,
  ⟨none, some 58, .call ⟨.builtin .len, ⟨[.tmp 57]⟩, ⟨[39]⟩⟩⟩,
  ⟨none, some 59, .binOp .lss 3 (.tmp 54) (.tmp 58) 3⟩,
  ⟨none, some 60, .move (.tmp 59)⟩,
  ⟨some (60, true), some 61, .move (.tmp 6)⟩,
  ⟨some (60, true), some 62, .binOp .leq 3 (.tmp 61) (.const (.int .i64 8)) 3⟩,
  ⟨none, some 63, .pick (.tmp 60) (.tmp 62) (.const (.bool false))⟩] fr h Q := Eq.trans rfl rfl
def s12_9 : GC := .seq (.ops r12_8) s12_7
theorem s12_9_w {E : Env} {nt : Nat} {rd : Option Nat} {fr : Fr} {h : Heap} {Q : Ex → Fr → Heap → Prop} : s12_9.wp E nt rd fr h Q = (GC.seq (.ops r12_8) s12_7).wp E nt rd fr h Q := Eq.trans rfl rfl
def s12_10 : GC := .seq (s12_9) s12_6
theorem s12_10_w {E : Env} {nt : Nat} {rd : Option Nat} {fr : Fr} {h : Heap} {Q : Ex → Fr → Heap → Prop} : s12_10.wp E nt rd fr h Q = (GC.seq (s12_9) s12_6).wp E nt rd fr h Q := Eq.trans rfl rfl
def s12_11 : GC := .loop s12_10
theorem s12_11_w {E : Env} {nt : Nat} {rd : Option Nat} {fr : Fr} {h : Heap} {Q : Ex → Fr → Heap → Prop} : s12_11.wp E nt rd fr h Q = (GC.loop s12_10).wp E nt rd fr h Q := Eq.trans rfl rfl
def s12_12 : GC := .block 4 s12_11
theorem s12_12_w {E : Env} {nt : Nat} {rd : Option Nat} {fr : Fr} {h : Heap} {Q : Ex → Fr → Heap → Prop} : s12_12.wp E nt rd fr h Q = (GC.block 4 s12_11).wp E nt rd fr h Q := Eq.trans rfl rfl
def r12_13 : List GO := [⟨none, some 6, .assign (.const (.int .i64 0))⟩]
theorem r12_13_w {E : Env} {fr : Fr} {h : Heap} {Q : Fr → Heap → Prop} : opsW E r12_13 fr h Q = opsW E [⟨none, some 6, .assign (.const (.int .i64 0))⟩] fr h Q := Eq.trans rfl rfl
def s12_14 : GC := .seq (.ops r12_13) s12_12
theorem s12_14_w {E : Env} {nt : Nat} {rd : Option Nat} {fr : Fr} {h : Heap} {Q : Ex → Fr → Heap → Prop} : s12_14.wp E nt rd fr h Q = (GC.seq (.ops r12_13) s12_12).wp E nt rd fr h Q := Eq.trans rfl rfl
def s12_15 : GC := .seq (s12_14) s12_1
theorem s12_15_w {E : Env} {nt : Nat} {rd : Option Nat} {fr : Fr} {h : Heap} {Q : Ex → Fr → Heap → Prop} : s12_15.wp E nt rd fr h Q = (GC.seq (s12_14) s12_1).wp E nt rd fr h Q := Eq.trans rfl rfl
def r12_16 : List GO := [⟨none, some 46, .fieldAddr 45 (.tmp 1) 5⟩,
  ⟨none, some 47, .fieldAddr 42 (.tmp 46) 5⟩,
  ⟨none, some 48, .load 38 (.tmp 47)⟩,
  ⟨none, some 49, .call ⟨.builtin .len, ⟨[.tmp 48]⟩, ⟨[38]⟩⟩⟩,
  ⟨none, some 50, .fieldAddr 45 (.tmp 1) 6⟩,
  ⟨none, some 51, .load 43 (.tmp 50)⟩,
  ⟨none, some 52, .call ⟨.builtin .len, ⟨[.tmp 51]⟩, ⟨[43]⟩⟩⟩,
  ⟨none, some 53, .binOp .add 3 (.tmp 49) (.tmp 52) 3⟩,
  ⟨none, some 5, .assign (.tmp 53)⟩]
theorem r12_16_w {E : Env} {fr : Fr} {h : Heap} {Q : Fr → Heap → Prop} : opsW E r12_16 fr h Q = opsW E [⟨none, some 46, .fieldAddr 45 (.tmp 1) 5⟩,
  ⟨none, some 47, .fieldAddr 42 (.tmp 46) 5⟩,
  ⟨none, some 48, .load 38 (.tmp 47)⟩,
  ⟨none, some 49, .call ⟨.builtin .len, ⟨[.tmp 48]⟩, ⟨[38]⟩⟩⟩,
  ⟨none, some 50, .fieldAddr 45 (.tmp 1) 6⟩,
  ⟨none, some 51, .load 43 (.tmp 50)⟩,
  ⟨none, some 52, .call ⟨.builtin .len, ⟨[.tmp 51]⟩, ⟨[43]⟩⟩⟩,
  ⟨none, some 53, .binOp .add 3 (.tmp 49) (.tmp 52) 3⟩,
  ⟨none, some 5, .assign (.tmp 53)⟩] fr h Q := Eq.trans rfl rfl
def s12_17 : GC := .seq (.ops r12_16) s12_15
theorem s12_17_w {E : Env} {nt : Nat} {rd : Option Nat} {fr : Fr} {h : Heap} {Q : Ex → Fr → Heap → Prop} : s12_17.wp E nt rd fr h Q = (GC.seq (.ops r12_16) s12_15).wp E nt rd fr h Q := Eq.trans rfl rfl
def r12_18 : List GO := [⟨none, some 16, .move (.tmp 3)⟩,
  ⟨none, some 17, .binOp .add 3 (.tmp 16) (.const (.int .i64 1)) 3⟩,
  ⟨none, some 3, .assign (.tmp 17)⟩]
theorem r12_18_w {E : Env} {fr : Fr} {h : Heap} {Q : Fr → Heap → Prop} : opsW E r12_18 fr h Q = opsW E [⟨none, some 16, .move (.tmp 3)⟩,
  ⟨none, some 17, .binOp .add 3 (.tmp 16) (.const (.int .i64 1)) 3⟩,
  ⟨none, some 3, .assign (.tmp 17)⟩] fr h Q := Eq.trans rfl rfl
def s12_19 : GC := .ops r12_18
theorem s12_19_w {E : Env} {nt : Nat} {rd : Option Nat} {fr : Fr} {h : Heap} {Q : Ex → Fr → Heap → Prop} : s12_19.wp E nt rd fr h Q = (GC.ops r12_18).wp E nt rd fr h Q := Eq.trans rfl rfl
def r12_20 : List GO := [⟨none, some 29, .move (.tmp 4)⟩,
  ⟨none, some 30, .binOp .add 3 (.tmp 29) (.const (.int .i64 1)) 3⟩,
  ⟨none, some 4, .assign (.tmp 30)⟩]
theorem r12_20_w {E : Env} {fr : Fr} {h : Heap} {Q : Fr → Heap → Prop} : opsW E r12_20 fr h Q = opsW E [⟨none, some 29, .move (.tmp 4)⟩,
  ⟨none, some 30, .binOp .add 3 (.tmp 29) (.const (.int .i64 1)) 3⟩,
  ⟨none, some 4, .assign (.tmp 30)⟩] fr h Q := Eq.trans rfl rfl
def s12_21 : GC := .ops r12_20
theorem s12_21_w {E : Env} {nt : Nat} {rd : Option Nat} {fr : Fr} {h : Heap} {Q : Ex → Fr → Heap → Prop} : s12_21.wp E nt rd fr h Q = (GC.ops r12_20).wp E nt rd fr h Q := Eq.trans rfl rfl
def r12_22 : List GO := [⟨none, some 2, .assign (.const (.bool false))⟩]
theorem r12_22_w {E : Env} {fr : Fr} {h : Heap} {Q : Fr → Heap → Prop} : opsW E r12_22 fr h Q = opsW E [⟨none, some 2, .assign (.const (.bool false))⟩] fr h Q := Eq.trans rfl rfl
def s12_23 : GC := .seq (.ops r12_22) .ret
theorem s12_23_w {E : Env} {nt : Nat} {rd : Option Nat} {fr : Fr} {h : Heap} {Q : Ex → Fr → Heap → Prop} : s12_23.wp E nt rd fr h Q = (GC.seq (.ops r12_22) .ret).wp E nt rd fr h Q := Eq.trans rfl rfl
def s12_24 : GC := .cond (.tmp 45) s12_23 .skip
theorem s12_24_w {E : Env} {nt : Nat} {rd : Option Nat} {fr : Fr} {h : Heap} {Q : Ex → Fr → Heap → Prop} : s12_24.wp E nt rd fr h Q = (GC.cond (.tmp 45) s12_23 .skip).wp E nt rd fr h Q := Eq.trans rfl rfl
def p12_25 : List (GO × List GO) := [(⟨none, some 31, .fieldAddr 45 (.tmp 1) 1⟩, []),
  (⟨none, some 32, .load 34 (.tmp 31)⟩, []),
  (⟨none, some 33, .move (.tmp 3)⟩, []),
  (⟨none, some 34, .indexAddr 34 (.tmp 32) (.tmp 33)⟩, []),
  (⟨none, some 35, .fieldAddr 66 (.tmp 34) 0⟩, []),
  (⟨none, some 36, .fieldAddr 59 (.tmp 35) 0⟩, []),
  (⟨none, some 37, .load 3 (.tmp 36)⟩, []),
  (⟨none, some 38, .fieldAddr 45 (.tmp 1) 1⟩, []),
  (⟨none, some 39, .load 34 (.tmp 38)⟩, []),
  (⟨none, some 40, .move (.tmp 4)⟩, []),
  (⟨none, some 41, .indexAddr 34 (.tmp 39) (.tmp 40)⟩, []),
  (⟨none, some 42, .fieldAddr 66 (.tmp 41) 0⟩, []),
  (⟨none, some 43, .fieldAddr 59 (.tmp 42) 0⟩, []),
  (⟨none, some 44, .load 3 (.tmp 43)⟩, []),
  (⟨none, some 45, .binOp .eql 3 (.tmp 37) (.tmp 44) 3⟩, [])]
theorem p12_25_w {E : Env} {fr : Fr} {h : Heap} {Q : Fr → Heap → Prop} : planW E p12_25 fr h Q = planW E [(⟨none, some 31, .fieldAddr 45 (.tmp 1) 1⟩, []),
  (⟨none, some 32, .load 34 (.tmp 31)⟩, []),
  (⟨none, some 33, .move (.tmp 3)⟩, []),
  (⟨none, some 34, .indexAddr 34 (.tmp 32) (.tmp 33)⟩, []),
  (⟨none, some 35, .fieldAddr 66 (.tmp 34) 0⟩, []),
  (⟨none, some 36, .fieldAddr 59 (.tmp 35) 0⟩, []),
  (⟨none, some 37, .load 3 (.tmp 36)⟩, []),
  (⟨none, some 38, .fieldAddr 45 (.tmp 1) 1⟩, []),
  (⟨none, some 39, .load 34 (.tmp 38)⟩, []),
  (⟨none, some 40, .move (.tmp 4)⟩, []),
  (⟨none, some 41, .indexAddr 34 (.tmp 39) (.tmp 40)⟩, []),
  (⟨none, some 42, .fieldAddr 66 (.tmp 41) 0⟩, []),
  (⟨none, some 43, .fieldAddr 59 (.tmp 42) 0⟩, []),
  (⟨none, some 44, .load 3 (.tmp 43)⟩, []),
  (⟨none, some 45, .binOp .eql 3 (.tmp 37) (.tmp 44) 3⟩, [])] fr h Q := Eq.trans rfl rfl
def s12_26 : GC := .seq (.plan p12_25) s12_24
theorem s12_26_w {E : Env} {nt : Nat} {rd : Option Nat} {fr : Fr} {h : Heap} {Q : Ex → Fr → Heap → Prop} : s12_26.wp E nt rd fr h Q = (GC.seq (.plan p12_25) s12_24).wp E nt rd fr h Q := Eq.trans rfl rfl
def s12_27 : GC := .seq (.block 3 s12_26) s12_21
theorem s12_27_w {E : Env} {nt : Nat} {rd : Option Nat} {fr : Fr} {h : Heap} {Q : Ex → Fr → Heap → Prop} : s12_27.wp E nt rd fr h Q = (GC.seq (.block 3 s12_26) s12_21).wp E nt rd fr h Q := Eq.trans rfl rfl
def s12_28 : GC := .cond (.tmp 28) .skip (.exit 2)
theorem s12_28_w {E : Env} {nt : Nat} {rd : Option Nat} {fr : Fr} {h : Heap} {Q : Ex → Fr → Heap → Prop} : s12_28.wp E nt rd fr h Q = (GC.cond (.tmp 28) .skip (.exit 2)).wp E nt rd fr h Q := Eq.trans rfl rfl
def r12_29 : List GO := [⟨none, some 26, .move (.tmp 4)⟩,
  ⟨none, some 27, .move (.tmp 3)⟩,
  ⟨none, some 28, .binOp .lss 3 (.tmp 26) (.tmp 27) 3⟩]
theorem r12_29_w {E : Env} {fr : Fr} {h : Heap} {Q : Fr → Heap → Prop} : opsW E r12_29 fr h Q = opsW E [⟨none, some 26, .move (.tmp 4)⟩,
  ⟨none, some 27, .move (.tmp 3)⟩,
  ⟨none, some 28, .binOp .lss 3 (.tmp 26) (.tmp 27) 3⟩] fr h Q := Eq.trans rfl rfl
def s12_30 : GC := .seq (.ops r12_29) s12_28
theorem s12_30_w {E : Env} {nt : Nat} {rd : Option Nat} {fr : Fr} {h : Heap} {Q : Ex → Fr → Heap → Prop} : s12_30.wp E nt rd fr h Q = (GC.seq (.ops r12_29) s12_28).wp E nt rd fr h Q := Eq.trans rfl rfl
def s12_31 : GC := .seq (s12_30) s12_27
theorem s12_31_w {E : Env} {nt : Nat} {rd : Option Nat} {fr : Fr} {h : Heap} {Q : Ex → Fr → Heap → Prop} : s12_31.wp E nt rd fr h Q = (GC.seq (s12_30) s12_27).wp E nt rd fr h Q := Eq.trans rfl rfl
def s12_32 : GC := .loop s12_31
theorem s12_32_w {E : Env} {nt : Nat} {rd : Option Nat} {fr : Fr} {h : Heap} {Q : Ex → Fr → Heap → Prop} : s12_32.wp E nt rd fr h Q = (GC.loop s12_31).wp E nt rd fr h Q := Eq.trans rfl rfl
def s12_33 : GC := .block 2 s12_32
theorem s12_33_w {E : Env} {nt : Nat} {rd : Option Nat} {fr : Fr} {h : Heap} {Q : Ex → Fr → Heap → Prop} : s12_33.wp E nt rd fr h Q = (GC.block 2 s12_32).wp E nt rd fr h Q := Eq.trans rfl rfl
def r12_34 : List GO := [⟨none, some 4, .assign (.const (.int .i64 0))⟩]
theorem r12_34_w {E : Env} {fr : Fr} {h : Heap} {Q : Fr → Heap → Prop} : opsW E r12_34 fr h Q = opsW E [⟨none, some 4, .assign (.const (.int .i64 0))⟩] fr h Q := Eq.trans rfl rfl
def s12_35 : GC := .seq (.ops r12_34) s12_33
theorem s12_35_w {E : Env} {nt : Nat} {rd : Option Nat} {fr : Fr} {h : Heap} {Q : Ex → Fr → Heap → Prop} : s12_35.wp E nt rd fr h Q = (GC.seq (.ops r12_34) s12_33).wp E nt rd fr h Q := Eq.trans rfl rfl
def r12_36 : List GO := [⟨none, some 2, .assign (.const (.bool false))⟩]
theorem r12_36_w {E : Env} {fr : Fr} {h : Heap} {Q : Fr → Heap → Prop} : opsW E r12_36 fr h Q = opsW E [⟨none, some 2, .assign (.const (.bool false))⟩] fr h Q := Eq.trans rfl rfl
def s12_37 : GC := .seq (.ops r12_36) .ret
theorem s12_37_w {E : Env} {nt : Nat} {rd : Option Nat} {fr : Fr} {h : Heap} {Q : Ex → Fr → Heap → Prop} : s12_37.wp E nt rd fr h Q = (GC.seq (.ops r12_36) .ret).wp E nt rd fr h Q := Eq.trans rfl rfl
def s12_38 : GC := .cond (.tmp 25) s12_37 .skip
theorem s12_38_w {E : Env} {nt : Nat} {rd : Option Nat} {fr : Fr} {h : Heap} {Q : Ex → Fr → Heap → Prop} : s12_38.wp E nt rd fr h Q = (GC.cond (.tmp 25) s12_37 .skip).wp E nt rd fr h Q := Eq.trans rfl rfl
def r12_39 : List GO := [⟨none, some 18, .fieldAddr 45 (.tmp 1) 1⟩,
  ⟨none, some 19, .load 34 (.tmp 18)⟩,
  ⟨none, some 20, .move (.tmp 3)⟩,
  ⟨none, some 21, .indexAddr 34 (.tmp 19) (.tmp 20)⟩,
  ⟨none, some 22, .fieldAddr 66 (.tmp 21) 0⟩,
  ⟨none, some 23, .fieldAddr 59 (.tmp 22) 0⟩,
  ⟨none, some 24, .load 3 (.tmp 23)⟩,
  ⟨none, some 25, .binOp .lss 3 (.tmp 24) (.const (.int .i64 0)) 3⟩]
theorem r12_39_w {E : Env} {fr : Fr} {h : Heap} {Q : Fr → Heap → Prop} : opsW E r12_39 fr h Q = opsW E [⟨none, some 18, .fieldAddr 45 (.tmp 1) 1⟩,
  ⟨none, some 19, .load 34 (.tmp 18)⟩,
  ⟨none, some 20, .move (.tmp 3)⟩,
  ⟨none, some 21, .indexAddr 34 (.tmp 19) (.tmp 20)⟩,
  ⟨none, some 22, .fieldAddr 66 (.tmp 21) 0⟩,
  ⟨none, some 23, .fieldAddr 59 (.tmp 22) 0⟩,
  ⟨none, some 24, .load 3 (.tmp 23)⟩,
  ⟨none, some 25, .binOp .lss 3 (.tmp 24) (.const (.int .i64 0)) 3⟩] fr h Q := Eq.trans rfl rfl
def s12_40 : GC := .seq (.ops r12_39) s12_38
theorem s12_40_w {E : Env} {nt : Nat} {rd : Option Nat} {fr : Fr} {h : Heap} {Q : Ex → Fr → Heap → Prop} : s12_40.wp E nt rd fr h Q = (GC.seq (.ops r12_39) s12_38).wp E nt rd fr h Q := Eq.trans rfl rfl
def s12_41 : GC := .seq (s12_40) s12_35
theorem s12_41_w {E : Env} {nt : Nat} {rd : Option Nat} {fr : Fr} {h : Heap} {Q : Ex → Fr → Heap → Prop} : s12_41.wp E nt rd fr h Q = (GC.seq (s12_40) s12_35).wp E nt rd fr h Q := Eq.trans rfl rfl
def s12_42 : GC := .seq (.block 1 s12_41) s12_19
theorem s12_42_w {E : Env} {nt : Nat} {rd : Option Nat} {fr : Fr} {h : Heap} {Q : Ex → Fr → Heap → Prop} : s12_42.wp E nt rd fr h Q = (GC.seq (.block 1 s12_41) s12_19).wp E nt rd fr h Q := Eq.trans rfl rfl
def s12_43 : GC := .cond (.tmp 15) .skip (.exit 0)
theorem s12_43_w {E : Env} {nt : Nat} {rd : Option Nat} {fr : Fr} {h : Heap} {Q : Ex → Fr → Heap → Prop} : s12_43.wp E nt rd fr h Q = (GC.cond (.tmp 15) .skip (.exit 0)).wp E nt rd fr h Q := Eq.trans rfl rfl
def r12_44 : List GO := [⟨none, some 7, .move (.tmp 3)⟩,
  ⟨none, some 8, .fieldAddr 45 (.tmp 1) 1⟩,
  ⟨none, some 9, .load 34 (.tmp 8)⟩,
  ⟨none, some 10, .call ⟨.builtin .len, ⟨[.tmp 9]⟩, ⟨[34]⟩⟩⟩,
  ⟨none, some 11, .binOp .lss 3 (.tmp 7) (.tmp 10) 3⟩,
  ⟨none, some 12, .move (.tmp 11)⟩,
  ⟨some (12, true), some 13, .move (.tmp 3)⟩,
  ⟨some (12, true), some 14, .binOp .leq 3 (.tmp 13) (.const (.int .i64 20)) 3⟩,
  ⟨none, some 15, .pick (.tmp 12) (.tmp 14) (.const (.bool false))⟩]
theorem r12_44_w {E : Env} {fr : Fr} {h : Heap} {Q : Fr → Heap → Prop} : opsW E r12_44 fr h Q = opsW E [⟨none, some 7, .move (.tmp 3)⟩,
  ⟨none, some 8, .fieldAddr 45 (.tmp 1) 1⟩,
  ⟨none, some 9, .load 34 (.tmp 8)⟩,
  ⟨none, some 10, .call ⟨.builtin .len, ⟨[.tmp 9]⟩, ⟨[34]⟩⟩⟩,
  ⟨none, some 11, .binOp .lss 3 (.tmp 7) (.tmp 10) 3⟩,
  ⟨none, some 12, .move (.tmp 11)⟩,
  ⟨some (12, true), some 13, .move (.tmp 3)⟩,
  ⟨some (12, true), some 14, .binOp .leq 3 (.tmp 13) (.const (.int .i64 20)) 3⟩,
  ⟨none, some 15, .pick (.tmp 12) (.tmp 14) (.const (.bool false))⟩] fr h Q := Eq.trans rfl rfl
def s12_45 : GC := .seq (.ops r12_44) s12_43
theorem s12_45_w {E : Env} {nt : Nat} {rd : Option Nat} {fr : Fr} {h : Heap} {Q : Ex → Fr → Heap → Prop} : s12_45.wp E nt rd fr h Q = (GC.seq (.ops r12_44) s12_43).wp E nt rd fr h Q := Eq.trans rfl rfl
def s12_46 : GC := .seq (s12_45) s12_42
theorem s12_46_w {E : Env} {nt : Nat} {rd : Option Nat} {fr : Fr} {h : Heap} {Q : Ex → Fr → Heap → Prop} : s12_46.wp E nt rd fr h Q = (GC.seq (s12_45) s12_42).wp E nt rd fr h Q := Eq.trans rfl rfl
def s12_47 : GC := .loop s12_46
theorem s12_47_w {E : Env} {nt : Nat} {rd : Option Nat} {fr : Fr} {h : Heap} {Q : Ex → Fr → Heap → Prop} : s12_47.wp E nt rd fr h Q = (GC.loop s12_46).wp E nt rd fr h Q := Eq.trans rfl rfl
def s12_48 : GC := .block 0 s12_47
theorem s12_48_w {E : Env} {nt : Nat} {rd : Option Nat} {fr : Fr} {h : Heap} {Q : Ex → Fr → Heap → Prop} : s12_48.wp E nt rd fr h Q = (GC.block 0 s12_47).wp E nt rd fr h Q := Eq.trans rfl rfl
def r12_49 : List GO := [⟨none, some 3, .assign (.const (.int .i64 0))⟩]
theorem r12_49_w {E : Env} {fr : Fr} {h : Heap} {Q : Fr → Heap → Prop} : opsW E r12_49 fr h Q = opsW E [⟨none, some 3, .assign (.const (.int .i64 0))⟩] fr h Q := Eq.trans rfl rfl
def s12_50 : GC := .seq (.ops r12_49) s12_48
theorem s12_50_w {E : Env} {nt : Nat} {rd : Option Nat} {fr : Fr} {h : Heap} {Q : Ex → Fr → Heap → Prop} : s12_50.wp E nt rd fr h Q = (GC.seq (.ops r12_49) s12_48).wp E nt rd fr h Q := Eq.trans rfl rfl
def s12_51 : GC := .seq (s12_50) s12_17
theorem s12_51_w {E : Env} {nt : Nat} {rd : Option Nat} {fr : Fr} {h : Heap} {Q : Ex → Fr → Heap → Prop} : s12_51.wp E nt rd fr h Q = (GC.seq (s12_50) s12_17).wp E nt rd fr h Q := Eq.trans rfl rfl
def r12_52 : List GO := [⟨none, some 1, .box 45 (.tmp 0)⟩,
  ⟨none, some 2, .assign (.const (.bool false))⟩]
theorem r12_52_w {E : Env} {fr : Fr} {h : Heap} {Q : Fr → Heap → Prop} : opsW E r12_52 fr h Q = opsW E [⟨none, some 1, .box 45 (.tmp 0)⟩,
  ⟨none, some 2, .assign (.const (.bool false))⟩] fr h Q := Eq.trans rfl rfl
def s12_53 : GC := .seq (.ops r12_52) s12_51
theorem s12_53_w {E : Env} {nt : Nat} {rd : Option Nat} {fr : Fr} {h : Heap} {Q : Ex → Fr → Heap → Prop} : s12_53.wp E nt rd fr h Q = (GC.seq (.ops r12_52) s12_51).wp E nt rd fr h Q := Eq.trans rfl rfl
theorem c12 : Try.f12.body.bind (clean env 104) = some s12_53 := by kernel_rfl
theorem e12 : env.funs.get 12 = some Try.f12 := by kernel_rfl
theorem F12 {args : List Value} {h : Heap} {K : Value → Heap → Prop} (hl : args.length = 1) (w : s12_53.wp env 104 none (setAll args 0 .leaf) h (resK env [.tmp 2] K)) : Ret env (.func 12) args h K :=
  Ret.of_body' rfl e12 c12 rfl rfl (by rw [hl]; decide) w
/-! helmsman/fair.Whole -/
def r13_0 : List GO := [⟨none, some 44, .move (.tmp 4)⟩,
  ⟨none, some 45, .move (.tmp 44)⟩,
  ⟨some (45, true), some 46, .move (.tmp 3)⟩,
  ⟨some (45, true), some 47, .call ⟨.builtin .len, ⟨[.tmp 46]⟩, ⟨[67]⟩⟩⟩,
  ⟨some (45, true), some 48, .binOp .eql 3 (.tmp 47) (.const (.int .i64 0)) 3⟩,
  ⟨none, some 49, .pick (.tmp 45) (.tmp 48) (.const (.bool false))⟩,
  ⟨none, some 2, .assign (.tmp 49)⟩]
theorem r13_0_w {E : Env} {fr : Fr} {h : Heap} {Q : Fr → Heap → Prop} : opsW E r13_0 fr h Q = opsW E [⟨none, some 44, .move (.tmp 4)⟩,
  ⟨none, some 45, .move (.tmp 44)⟩,
  ⟨some (45, true), some 46, .move (.tmp 3)⟩,
  ⟨some (45, true), some 47, .call ⟨.builtin .len, ⟨[.tmp 46]⟩, ⟨[67]⟩⟩⟩,
  ⟨some (45, true), some 48, .binOp .eql 3 (.tmp 47) (.const (.int .i64 0)) 3⟩,
  ⟨none, some 49, .pick (.tmp 45) (.tmp 48) (.const (.bool false))⟩,
  ⟨none, some 2, .assign (.tmp 49)⟩] fr h Q := Eq.trans rfl rfl
def s13_1 : GC := .seq (.ops r13_0) .ret
theorem s13_1_w {E : Env} {nt : Nat} {rd : Option Nat} {fr : Fr} {h : Heap} {Q : Ex → Fr → Heap → Prop} : s13_1.wp E nt rd fr h Q = (GC.seq (.ops r13_0) .ret).wp E nt rd fr h Q := Eq.trans rfl rfl
def r13_2 : List GO := [⟨none, some 43, .binOp .add 3 (.tmp 16) (.const (.int .i64 1)) 3⟩,
  ⟨none, some 16, .move (.tmp 43)⟩]
theorem r13_2_w {E : Env} {fr : Fr} {h : Heap} {Q : Fr → Heap → Prop} : opsW E r13_2 fr h Q = opsW E [⟨none, some 43, .binOp .add 3 (.tmp 16) (.const (.int .i64 1)) 3⟩,
  ⟨none, some 16, .move (.tmp 43)⟩] fr h Q := Eq.trans rfl rfl
def s13_3 : GC := .ops r13_2
theorem s13_3_w {E : Env} {nt : Nat} {rd : Option Nat} {fr : Fr} {h : Heap} {Q : Ex → Fr → Heap → Prop} : s13_3.wp E nt rd fr h Q = (GC.ops r13_2).wp E nt rd fr h Q := Eq.trans rfl rfl
def r13_4 : List GO := [⟨none, some 39, .move (.tmp 3)⟩,
  ⟨none, some 40, .fieldAddr 66 (.tmp 6) 0⟩,
  ⟨none, some 41, .fieldAddr 59 (.tmp 40) 0⟩,
  ⟨none, some 42, .load 3 (.tmp 41)⟩,
  ⟨none, none, .call ⟨.builtin .delete, ⟨[.tmp 39, .tmp 42]⟩, ⟨[67, 3]⟩⟩⟩]
theorem r13_4_w {E : Env} {fr : Fr} {h : Heap} {Q : Fr → Heap → Prop} : opsW E r13_4 fr h Q = opsW E [⟨none, some 39, .move (.tmp 3)⟩,
  ⟨none, some 40, .fieldAddr 66 (.tmp 6) 0⟩,
  ⟨none, some 41, .fieldAddr 59 (.tmp 40) 0⟩,
  ⟨none, some 42, .load 3 (.tmp 41)⟩,
  ⟨none, none, .call ⟨.builtin .delete, ⟨[.tmp 39, .tmp 42]⟩, ⟨[67, 3]⟩⟩⟩] fr h Q := Eq.trans rfl rfl
def s13_5 : GC := .ops r13_4
theorem s13_5_w {E : Env} {nt : Nat} {rd : Option Nat} {fr : Fr} {h : Heap} {Q : Ex → Fr → Heap → Prop} : s13_5.wp E nt rd fr h Q = (GC.ops r13_4).wp E nt rd fr h Q := Eq.trans rfl rfl
def r13_6 : List GO := [⟨none, some 2, .assign (.const (.bool false))⟩]
theorem r13_6_w {E : Env} {fr : Fr} {h : Heap} {Q : Fr → Heap → Prop} : opsW E r13_6 fr h Q = opsW E [⟨none, some 2, .assign (.const (.bool false))⟩] fr h Q := Eq.trans rfl rfl
def s13_7 : GC := .seq (.ops r13_6) .ret
theorem s13_7_w {E : Env} {nt : Nat} {rd : Option Nat} {fr : Fr} {h : Heap} {Q : Ex → Fr → Heap → Prop} : s13_7.wp E nt rd fr h Q = (GC.seq (.ops r13_6) .ret).wp E nt rd fr h Q := Eq.trans rfl rfl
def s13_8 : GC := .cond (.tmp 38) s13_7 .skip
theorem s13_8_w {E : Env} {nt : Nat} {rd : Option Nat} {fr : Fr} {h : Heap} {Q : Ex → Fr → Heap → Prop} : s13_8.wp E nt rd fr h Q = (GC.cond (.tmp 38) s13_7 .skip).wp E nt rd fr h Q := Eq.trans rfl rfl
def r13_9 : List GO := [⟨none, some 32, .move (.tmp 3)⟩,
  ⟨none, some 33, .fieldAddr 66 (.tmp 6) 0⟩,
  ⟨none, some 34, .fieldAddr 59 (.tmp 33) 0⟩,
  ⟨none, some 35, .load 3 (.tmp 34)⟩,
  ⟨none, some 36, .lookup 67 (.tmp 32) (.tmp 35) false⟩,
  ⟨none, some 37, .load 71 (.tmp 7)⟩,
  ⟨none, some 38, .binOp .neq 71 (.tmp 36) (.tmp 37) 71⟩]
theorem r13_9_w {E : Env} {fr : Fr} {h : Heap} {Q : Fr → Heap → Prop} : opsW E r13_9 fr h Q = opsW E [⟨none, some 32, .move (.tmp 3)⟩,
  ⟨none, some 33, .fieldAddr 66 (.tmp 6) 0⟩,
  ⟨none, some 34, .fieldAddr 59 (.tmp 33) 0⟩,
  ⟨none, some 35, .load 3 (.tmp 34)⟩,
  ⟨none, some 36, .lookup 67 (.tmp 32) (.tmp 35) false⟩,
  ⟨none, some 37, .load 71 (.tmp 7)⟩,
  ⟨none, some 38, .binOp .neq 71 (.tmp 36) (.tmp 37) 71⟩] fr h Q := Eq.trans rfl rfl
def s13_10 : GC := .seq (.ops r13_9) s13_8
theorem s13_10_w {E : Env} {nt : Nat} {rd : Option Nat} {fr : Fr} {h : Heap} {Q : Ex → Fr → Heap → Prop} : s13_10.wp E nt rd fr h Q = (GC.seq (.ops r13_9) s13_8).wp E nt rd fr h Q := Eq.trans rfl rfl
def s13_11 : GC := .seq (s13_10) s13_5
theorem s13_11_w {E : Env} {nt : Nat} {rd : Option Nat} {fr : Fr} {h : Heap} {Q : Ex → Fr → Heap → Prop} : s13_11.wp E nt rd fr h Q = (GC.seq (s13_10) s13_5).wp E nt rd fr h Q := Eq.trans rfl rfl
def r13_12 : List GO := [⟨none, some 25, .fieldAddr 71 (.tmp 7) 0⟩,
  ⟨none, none, .store 3 (.tmp 25) (.const (.int .i64 1))⟩]
theorem r13_12_w {E : Env} {fr : Fr} {h : Heap} {Q : Fr → Heap → Prop} : opsW E r13_12 fr h Q = opsW E [⟨none, some 25, .fieldAddr 71 (.tmp 7) 0⟩,
  ⟨none, none, .store 3 (.tmp 25) (.const (.int .i64 1))⟩] fr h Q := Eq.trans rfl rfl
def s13_13 : GC := .ops r13_12
theorem s13_13_w {E : Env} {nt : Nat} {rd : Option Nat} {fr : Fr} {h : Heap} {Q : Ex → Fr → Heap → Prop} : s13_13.wp E nt rd fr h Q = (GC.ops r13_12).wp E nt rd fr h Q := Eq.trans rfl rfl
def r13_14 : List GO := [⟨none, some 28, .fieldAddr 71 (.tmp 7) 1⟩,
  ⟨none, none, .store 3 (.tmp 28) (.const (.int .i64 1))⟩]
theorem r13_14_w {E : Env} {fr : Fr} {h : Heap} {Q : Fr → Heap → Prop} : opsW E r13_14 fr h Q = opsW E [⟨none, some 28, .fieldAddr 71 (.tmp 7) 1⟩,
  ⟨none, none, .store 3 (.tmp 28) (.const (.int .i64 1))⟩] fr h Q := Eq.trans rfl rfl
def s13_15 : GC := .ops r13_14
theorem s13_15_w {E : Env} {nt : Nat} {rd : Option Nat} {fr : Fr} {h : Heap} {Q : Ex → Fr → Heap → Prop} : s13_15.wp E nt rd fr h Q = (GC.ops r13_14).wp E nt rd fr h Q := Eq.trans rfl rfl
def r13_16 : List GO := [⟨none, some 31, .fieldAddr 71 (.tmp 7) 2⟩,
  ⟨none, none, .store 3 (.tmp 31) (.const (.int .i64 1))⟩]
theorem r13_16_w {E : Env} {fr : Fr} {h : Heap} {Q : Fr → Heap → Prop} : opsW E r13_16 fr h Q = opsW E [⟨none, some 31, .fieldAddr 71 (.tmp 7) 2⟩,
  ⟨none, none, .store 3 (.tmp 31) (.const (.int .i64 1))⟩] fr h Q := Eq.trans rfl rfl
def s13_17 : GC := .ops r13_16
theorem s13_17_w {E : Env} {nt : Nat} {rd : Option Nat} {fr : Fr} {h : Heap} {Q : Ex → Fr → Heap → Prop} : s13_17.wp E nt rd fr h Q = (GC.ops r13_16).wp E nt rd fr h Q := Eq.trans rfl rfl
def s13_18 : GC := .cond (.tmp 29) s13_17 .skip
theorem s13_18_w {E : Env} {nt : Nat} {rd : Option Nat} {fr : Fr} {h : Heap} {Q : Ex → Fr → Heap → Prop} : s13_18.wp E nt rd fr h Q = (GC.cond (.tmp 29) s13_17 .skip).wp E nt rd fr h Q := Eq.trans rfl rfl
def r13_19 : List GO := [⟨none, some 30, .binOp .eql 60 (.tmp 22) (.const (.int .i64 4)) 60⟩,
  ⟨none, some 29, .assign (.tmp 30)⟩]
theorem r13_19_w {E : Env} {fr : Fr} {h : Heap} {Q : Fr → Heap → Prop} : opsW E r13_19 fr h Q = opsW E [⟨none, some 30, .binOp .eql 60 (.tmp 22) (.const (.int .i64 4)) 60⟩,
  ⟨none, some 29, .assign (.tmp 30)⟩] fr h Q := Eq.trans rfl rfl
def s13_20 : GC := .seq (.ops r13_19) s13_18
theorem s13_20_w {E : Env} {nt : Nat} {rd : Option Nat} {fr : Fr} {h : Heap} {Q : Ex → Fr → Heap → Prop} : s13_20.wp E nt rd fr h Q = (GC.seq (.ops r13_19) s13_18).wp E nt rd fr h Q := Eq.trans rfl rfl
def s13_21 : GC := .cond (.tmp 26) s13_15 s13_20
theorem s13_21_w {E : Env} {nt : Nat} {rd : Option Nat} {fr : Fr} {h : Heap} {Q : Ex → Fr → Heap → Prop} : s13_21.wp E nt rd fr h Q = (GC.cond (.tmp 26) s13_15 s13_20).wp E nt rd fr h Q := Eq.trans rfl rfl
def r13_22 : List GO := [⟨none, some 27, .binOp .eql 60 (.tmp 22) (.const (.int .i64 2)) 60⟩,
  ⟨none, some 26, .assign (.tmp 27)⟩]
theorem r13_22_w {E : Env} {fr : Fr} {h : Heap} {Q : Fr → Heap → Prop} : opsW E r13_22 fr h Q = opsW E [⟨none, some 27, .binOp .eql 60 (.tmp 22) (.const (.int .i64 2)) 60⟩,
  ⟨none, some 26, .assign (.tmp 27)⟩] fr h Q := Eq.trans rfl rfl
def s13_23 : GC := .seq (.ops r13_22) s13_21
theorem s13_23_w {E : Env} {nt : Nat} {rd : Option Nat} {fr : Fr} {h : Heap} {Q : Ex → Fr → Heap → Prop} : s13_23.wp E nt rd fr h Q = (GC.seq (.ops r13_22) s13_21).wp E nt rd fr h Q := Eq.trans rfl rfl
def s13_24 : GC := .cond (.tmp 23) s13_13 s13_23
theorem s13_24_w {E : Env} {nt : Nat} {rd : Option Nat} {fr : Fr} {h : Heap} {Q : Ex → Fr → Heap → Prop} : s13_24.wp E nt rd fr h Q = (GC.cond (.tmp 23) s13_13 s13_23).wp E nt rd fr h Q := Eq.trans rfl rfl
def r13_25 : List GO := [⟨none, some 24, .binOp .eql 60 (.tmp 22) (.const (.int .i64 1)) 60⟩,
  ⟨none, some 23, .assign (.tmp 24)⟩]
theorem r13_25_w {E : Env} {fr : Fr} {h : Heap} {Q : Fr → Heap → Prop} : opsW E r13_25 fr h Q = opsW E [⟨none, some 24, .binOp .eql 60 (.tmp 22) (.const (.int .i64 1)) 60⟩,
  ⟨none, some 23, .assign (.tmp 24)⟩] fr h Q := Eq.trans rfl rfl
def s13_26 : GC := .seq (.ops r13_25) s13_24
theorem s13_26_w {E : Env} {nt : Nat} {rd : Option Nat} {fr : Fr} {h : Heap} {Q : Ex → Fr → Heap → Prop} : s13_26.wp E nt rd fr h Q = (GC.seq (.ops r13_25) s13_24).wp E nt rd fr h Q := Eq.trans rfl rfl
def s13_27 : GC := .block 2 s13_26
theorem s13_27_w {E : Env} {nt : Nat} {rd : Option Nat} {fr : Fr} {h : Heap} {Q : Ex → Fr → Heap → Prop} : s13_27.wp E nt rd fr h Q = (GC.block 2 s13_26).wp E nt rd fr h Q := Eq.trans rfl rfl
def r13_28 : List GO := [⟨none, some 20, .fieldAddr 66 (.tmp 6) 1⟩,
  ⟨none, some 21, .fieldAddr 64 (.tmp 20) 0⟩,
  ⟨none, some 22, .load 60 (.tmp 21)⟩]
theorem r13_28_w {E : Env} {fr : Fr} {h : Heap} {Q : Fr → Heap → Prop} : opsW E r13_28 fr h Q = opsW E [⟨none, some 20, .fieldAddr 66 (.tmp 6) 1⟩,
  ⟨none, some 21, .fieldAddr 64 (.tmp 20) 0⟩,
  ⟨none, some 22, .load 60 (.tmp 21)⟩] fr h Q := Eq.trans rfl rfl
def s13_29 : GC := .seq (.ops r13_28) s13_27
theorem s13_29_w {E : Env} {nt : Nat} {rd : Option Nat} {fr : Fr} {h : Heap} {Q : Ex → Fr → Heap → Prop} : s13_29.wp E nt rd fr h Q = (GC.seq (.ops r13_28) s13_27).wp E nt rd fr h Q := Eq.trans rfl rfl
def s13_30 : GC := .seq (s13_29) s13_11
theorem s13_30_w {E : Env} {nt : Nat} {rd : Option Nat} {fr : Fr} {h : Heap} {Q : Ex → Fr → Heap → Prop} : s13_30.wp E nt rd fr h Q = (GC.seq (s13_29) s13_11).wp E nt rd fr h Q := Eq.trans rfl rfl
def r13_31 : List GO := [⟨none, some 7, .alloc 71⟩]
theorem r13_31_w {E : Env} {fr : Fr} {h : Heap} {Q : Fr → Heap → Prop} : opsW E r13_31 fr h Q = opsW E [⟨none, some 7, .alloc 71⟩] fr h Q := Eq.trans rfl rfl
def s13_32 : GC := .seq (.ops r13_31) s13_30
theorem s13_32_w {E : Env} {nt : Nat} {rd : Option Nat} {fr : Fr} {h : Heap} {Q : Ex → Fr → Heap → Prop} : s13_32.wp E nt rd fr h Q = (GC.seq (.ops r13_31) s13_30).wp E nt rd fr h Q := Eq.trans rfl rfl
def r13_33 : List GO := [⟨none, some 18, .indexAddr 34 (.tmp 14) (.tmp 16)⟩,
  ⟨none, some 19, .load 66 (.tmp 18)⟩,
  ⟨none, some 6, .alloc 66⟩,
  ⟨none, none, .store 66 (.tmp 6) (.tmp 19)⟩]
theorem r13_33_w {E : Env} {fr : Fr} {h : Heap} {Q : Fr → Heap → Prop} : opsW E r13_33 fr h Q = opsW E [⟨none, some 18, .indexAddr 34 (.tmp 14) (.tmp 16)⟩,
  ⟨none, some 19, .load 66 (.tmp 18)⟩,
  ⟨none, some 6, .alloc 66⟩,
  ⟨none, none, .store 66 (.tmp 6) (.tmp 19)⟩] fr h Q := Eq.trans rfl rfl
def s13_34 : GC := .seq (.ops r13_33) s13_32
theorem s13_34_w {E : Env} {nt : Nat} {rd : Option Nat} {fr : Fr} {h : Heap} {Q : Ex → Fr → Heap → Prop} : s13_34.wp E nt rd fr h Q = (GC.seq (.ops r13_33) s13_32).wp E nt rd fr h Q := Eq.trans rfl rfl
def s13_35 : GC := .seq (.block 1 s13_34) s13_3
theorem s13_35_w {E : Env} {nt : Nat} {rd : Option Nat} {fr : Fr} {h : Heap} {Q : Ex → Fr → Heap → Prop} : s13_35.wp E nt rd fr h Q = (GC.seq (.block 1 s13_34) s13_3).wp E nt rd fr h Q := Eq.trans rfl rfl
def s13_36 : GC := .cond (.tmp 17) .skip (.exit 0)
theorem s13_36_w {E : Env} {nt : Nat} {rd : Option Nat} {fr : Fr} {h : Heap} {Q : Ex → Fr → Heap → Prop} : s13_36.wp E nt rd fr h Q = (GC.cond (.tmp 17) .skip (.exit 0)).wp E nt rd fr h Q := Eq.trans rfl rfl
def s13_37 : GC := .seq (s13_36) s13_35
theorem s13_37_w {E : Env} {nt : Nat} {rd : Option Nat} {fr : Fr} {h : Heap} {Q : Ex → Fr → Heap → Prop} : s13_37.wp E nt rd fr h Q = (GC.seq (s13_36) s13_35).wp E nt rd fr h Q := Eq.trans rfl rfl
def r13_38 : List GO := [⟨none, some 17, .binOp .lss 3 (.tmp 16) (.tmp 15) 3⟩]
theorem r13_38_w {E : Env} {fr : Fr} {h : Heap} {Q : Fr → Heap → Prop} : opsW E r13_38 fr h Q = opsW E [⟨none, some 17, .binOp .lss 3 (.tmp 16) (.tmp 15) 3⟩] fr h Q := Eq.trans rfl rfl
def s13_39 : GC := .seq (.ops r13_38) s13_37
theorem s13_39_w {E : Env} {nt : Nat} {rd : Option Nat} {fr : Fr} {h : Heap} {Q : Ex → Fr → Heap → Prop} : s13_39.wp E nt rd fr h Q = (GC.seq (.ops r13_38) s13_37).wp E nt rd fr h Q := Eq.trans rfl rfl
def s13_40 : GC := .loop s13_39
theorem s13_40_w {E : Env} {nt : Nat} {rd : Option Nat} {fr : Fr} {h : Heap} {Q : Ex → Fr → Heap → Prop} : s13_40.wp E nt rd fr h Q = (GC.loop s13_39).wp E nt rd fr h Q := Eq.trans rfl rfl
def s13_41 : GC := .block 0 s13_40
theorem s13_41_w {E : Env} {nt : Nat} {rd : Option Nat} {fr : Fr} {h : Heap} {Q : Ex → Fr → Heap → Prop} : s13_41.wp E nt rd fr h Q = (GC.block 0 s13_40).wp E nt rd fr h Q := Eq.trans rfl rfl
def r13_42 : List GO := [⟨none, some 13, .fieldAddr 45 (.tmp 1) 1⟩,
  ⟨none, some 14, .load 34 (.tmp 13)⟩,
  ⟨none, some 15, .call ⟨.builtin .len, ⟨[.tmp 14]⟩, ⟨[34]⟩⟩⟩,
  ⟨none, some 16, .move (.const (.int .i64 0))⟩]
theorem r13_42_w {E : Env} {fr : Fr} {h : Heap} {Q : Fr → Heap → Prop} : opsW E r13_42 fr h Q = opsW E [⟨none, some 13, .fieldAddr 45 (.tmp 1) 1⟩,
  ⟨none, some 14, .load 34 (.tmp 13)⟩,
  ⟨none, some 15, .call ⟨.builtin .len, ⟨[.tmp 14]⟩, ⟨[34]⟩⟩⟩,
  ⟨none, some 16, .move (.const (.int .i64 0))⟩] fr h Q := Eq.trans rfl rfl
def s13_43 : GC := .seq (.ops r13_42) s13_41
theorem s13_43_w {E : Env} {nt : Nat} {rd : Option Nat} {fr : Fr} {h : Heap} {Q : Ex → Fr → Heap → Prop} : s13_43.wp E nt rd fr h Q = (GC.seq (.ops r13_42) s13_41).wp E nt rd fr h Q := Eq.trans rfl rfl
def s13_44 : GC := .seq (s13_43) s13_1
theorem s13_44_w {E : Env} {nt : Nat} {rd : Option Nat} {fr : Fr} {h : Heap} {Q : Ex → Fr → Heap → Prop} : s13_44.wp E nt rd fr h Q = (GC.seq (s13_43) s13_1).wp E nt rd fr h Q := Eq.trans rfl rfl
def r13_45 : List GO := [⟨none, some 9, .load 45 (.tmp 1)⟩,
  ⟨none, some 10, .call ⟨.value (.func 21), ⟨[.tmp 9]⟩, ⟨[45]⟩⟩⟩,
  ⟨none, some 8, .move (.tmp 10)⟩,
  ⟨none, some 11, .extract (.tmp 8) 0⟩,
  ⟨none, some 12, .extract (.tmp 8) 1⟩,
  ⟨none, some 3, .assign (.tmp 11)⟩,
  ⟨none, some 4, .assign (.tmp 12)⟩]
theorem r13_45_w {E : Env} {fr : Fr} {h : Heap} {Q : Fr → Heap → Prop} : opsW E r13_45 fr h Q = opsW E [⟨none, some 9, .load 45 (.tmp 1)⟩,
  ⟨none, some 10, .call ⟨.value (.func 21), ⟨[.tmp 9]⟩, ⟨[45]⟩⟩⟩,
  ⟨none, some 8, .move (.tmp 10)⟩,
  ⟨none, some 11, .extract (.tmp 8) 0⟩,
  ⟨none, some 12, .extract (.tmp 8) 1⟩,
  ⟨none, some 3, .assign (.tmp 11)⟩,
  ⟨none, some 4, .assign (.tmp 12)⟩] fr h Q := Eq.trans rfl rfl
def s13_46 : GC := .seq (.ops r13_45) s13_44
theorem s13_46_w {E : Env} {nt : Nat} {rd : Option Nat} {fr : Fr} {h : Heap} {Q : Ex → Fr → Heap → Prop} : s13_46.wp E nt rd fr h Q = (GC.seq (.ops r13_45) s13_44).wp E nt rd fr h Q := Eq.trans rfl rfl
def r13_47 : List GO := [⟨none, some 1, .box 45 (.tmp 0)⟩,
  ⟨none, some 2, .assign (.const (.bool false))⟩]
theorem r13_47_w {E : Env} {fr : Fr} {h : Heap} {Q : Fr → Heap → Prop} : opsW E r13_47 fr h Q = opsW E [⟨none, some 1, .box 45 (.tmp 0)⟩,
  ⟨none, some 2, .assign (.const (.bool false))⟩] fr h Q := Eq.trans rfl rfl
def s13_48 : GC := .seq (.ops r13_47) s13_46
theorem s13_48_w {E : Env} {nt : Nat} {rd : Option Nat} {fr : Fr} {h : Heap} {Q : Ex → Fr → Heap → Prop} : s13_48.wp E nt rd fr h Q = (GC.seq (.ops r13_47) s13_46).wp E nt rd fr h Q := Eq.trans rfl rfl
theorem c13 : Try.f13.body.bind (clean env 50) = some s13_48 := by kernel_rfl
theorem e13 : env.funs.get 13 = some Try.f13 := by kernel_rfl
theorem F13 {args : List Value} {h : Heap} {K : Value → Heap → Prop} (hl : args.length = 1) (w : s13_48.wp env 50 none (setAll args 0 .leaf) h (resK env [.tmp 2] K)) : Ret env (.func 13) args h K :=
  Ret.of_body' rfl e13 c13 rfl rfl (by rw [hl]; decide) w
/-! helmsman/helmsmanref30.Whole -/
def r14_0 : List GO := [⟨none, some 2, .assign (.const (.bool true))⟩]
theorem r14_0_w {E : Env} {fr : Fr} {h : Heap} {Q : Fr → Heap → Prop} : opsW E r14_0 fr h Q = opsW E [⟨none, some 2, .assign (.const (.bool true))⟩] fr h Q := Eq.trans rfl rfl
def s14_1 : GC := .seq (.ops r14_0) .ret
theorem s14_1_w {E : Env} {nt : Nat} {rd : Option Nat} {fr : Fr} {h : Heap} {Q : Ex → Fr → Heap → Prop} : s14_1.wp E nt rd fr h Q = (GC.seq (.ops r14_0) .ret).wp E nt rd fr h Q := Eq.trans rfl rfl
def r14_2 : List GO := [⟨none, some 176, .move (.tmp 18)⟩,
  ⟨none, some 177, .binOp .add 3 (.tmp 176) (.const (.int .i64 1)) 3⟩,
  ⟨none, some 18, .assign (.tmp 177)⟩]
theorem r14_2_w {E : Env} {fr : Fr} {h : Heap} {Q : Fr → Heap → Prop} : opsW E r14_2 fr h Q = opsW E [⟨none, some 176, .move (.tmp 18)⟩,
  ⟨none, some 177, .binOp .add 3 (.tmp 176) (.const (.int .i64 1)) 3⟩,
  ⟨none, some 18, .assign (.tmp 177)⟩] fr h Q := Eq.trans rfl rfl
def s14_3 : GC := .ops r14_2
theorem s14_3_w {E : Env} {nt : Nat} {rd : Option Nat} {fr : Fr} {h : Heap} {Q : Ex → Fr → Heap → Prop} : s14_3.wp E nt rd fr h Q = (GC.ops r14_2).wp E nt rd fr h Q := Eq.trans rfl rfl
def r14_4 : List GO := [⟨none, some 2, .assign (.const (.bool false))⟩]
theorem r14_4_w {E : Env} {fr : Fr} {h : Heap} {Q : Fr → Heap → Prop} : opsW E r14_4 fr h Q = opsW E [⟨none, some 2, .assign (.const (.bool false))⟩] fr h Q := Eq.trans rfl rfl
def s14_5 : GC := .seq (.ops r14_4) .ret
theorem s14_5_w {E : Env} {nt : Nat} {rd : Option Nat} {fr : Fr} {h : Heap} {Q : Ex → Fr → Heap → Prop} : s14_5.wp E nt rd fr h Q = (GC.seq (.ops r14_4) .ret).wp E nt rd fr h Q := Eq.trans rfl rfl
def s14_6 : GC := .cond (.tmp 184) s14_5 .skip
theorem s14_6_w {E : Env} {nt : Nat} {rd : Option Nat} {fr : Fr} {h : Heap} {Q : Ex → Fr → Heap → Prop} : s14_6.wp E nt rd fr h Q = (GC.cond (.tmp 184) s14_5 .skip).wp E nt rd fr h Q := Eq.trans rfl rfl
def r14_7 : List GO := [⟨none, some 178, .move (.tmp 3)⟩,
  ⟨none, some 179, .move (.tmp 13)⟩,
  ⟨none, some 180, .move (.tmp 18)⟩,
  ⟨none, some 181, .indexAddr 38 (.tmp 179) (.tmp 180)⟩,
  ⟨none, some 182, .load 3 (.tmp 181)⟩,
  ⟨none, some 183, .call ⟨.value (.func 25), ⟨[.tmp 178, .tmp 182]⟩, ⟨[38, 3]⟩⟩⟩,
  ⟨none, some 184, .binOp .lss 3 (.tmp 183) (.const (.int .i64 0)) 3⟩]
theorem r14_7_w {E : Env} {fr : Fr} {h : Heap} {Q : Fr → Heap → Prop} : opsW E r14_7 fr h Q = opsW E [⟨none, some 178, .move (.tmp 3)⟩,
  ⟨none, some 179, .move (.tmp 13)⟩,
  ⟨none, some 180, .move (.tmp 18)⟩,
  ⟨none, some 181, .indexAddr 38 (.tmp 179) (.tmp 180)⟩,
  ⟨none, some 182, .load 3 (.tmp 181)⟩,
  ⟨none, some 183, .call ⟨.value (.func 25), ⟨[.tmp 178, .tmp 182]⟩, ⟨[38, 3]⟩⟩⟩,
  ⟨none, some 184, .binOp .lss 3 (.tmp 183) (.const (.int .i64 0)) 3⟩] fr h Q := Eq.trans rfl rfl
def s14_8 : GC := .seq (.ops r14_7) s14_6
theorem s14_8_w {E : Env} {nt : Nat} {rd : Option Nat} {fr : Fr} {h : Heap} {Q : Ex → Fr → Heap → Prop} : s14_8.wp E nt rd fr h Q = (GC.seq (.ops r14_7) s14_6).wp E nt rd fr h Q := Eq.trans rfl rfl
def s14_9 : GC := .seq (.block 12 s14_8) s14_3
theorem s14_9_w {E : Env} {nt : Nat} {rd : Option Nat} {fr : Fr} {h : Heap} {Q : Ex → Fr → Heap → Prop} : s14_9.wp E nt rd fr h Q = (GC.seq (.block 12 s14_8) s14_3).wp E nt rd fr h Q := Eq.trans rfl rfl
def s14_10 : GC := .cond (.tmp 175) .skip (.exit 11)
theorem s14_10_w {E : Env} {nt : Nat} {rd : Option Nat} {fr : Fr} {h : Heap} {Q : Ex → Fr → Heap → Prop} : s14_10.wp E nt rd fr h Q = (GC.cond (.tmp 175) .skip (.exit 11)).wp E nt rd fr h Q := Eq.trans rfl rfl
def r14_11 : List GO := [⟨none, some 172, .move (.tmp 18)⟩,
  ⟨none, some 173, .move (.tmp 13)⟩,
  ⟨none, some 174, .call ⟨.builtin .len, ⟨[.tmp 173]⟩, ⟨[38]⟩⟩⟩,
  ⟨none, some 175, .binOp .lss 3 (.tmp 172) (.tmp 174) 3⟩]
theorem r14_11_w {E : Env} {fr : Fr} {h : Heap} {Q : Fr → Heap → Prop} : opsW E r14_11 fr h Q = opsW E [⟨none, some 172, .move (.tmp 18)⟩,
  ⟨none, some 173, .move (.tmp 13)⟩,
  ⟨none, some 174, .call ⟨.builtin .len, ⟨[.tmp 173]⟩, ⟨[38]⟩⟩⟩,
  ⟨none, some 175, .binOp .lss 3 (.tmp 172) (.tmp 174) 3⟩] fr h Q := Eq.trans rfl rfl
def s14_12 : GC := .seq (.ops r14_11) s14_10
theorem s14_12_w {E : Env} {nt : Nat} {rd : Option Nat} {fr : Fr} {h : Heap} {Q : Ex → Fr → Heap → Prop} : s14_12.wp E nt rd fr h Q = (GC.seq (.ops r14_11) s14_10).wp E nt rd fr h Q := Eq.trans rfl rfl
def s14_13 : GC := .seq (s14_12) s14_9
theorem s14_13_w {E : Env} {nt : Nat} {rd : Option Nat} {fr : Fr} {h : Heap} {Q : Ex → Fr → Heap → Prop} : s14_13.wp E nt rd fr h Q = (GC.seq (s14_12) s14_9).wp E nt rd fr h Q := Eq.trans rfl rfl
def s14_14 : GC := .loop s14_13
theorem s14_14_w {E : Env} {nt : Nat} {rd : Option Nat} {fr : Fr} {h : Heap} {Q : Ex → Fr → Heap → Prop} : s14_14.wp E nt rd fr h Q = (GC.loop s14_13).wp E nt rd fr h Q := Eq.trans rfl rfl
def s14_15 : GC := .block 11 s14_14
theorem s14_15_w {E : Env} {nt : Nat} {rd : Option Nat} {fr : Fr} {h : Heap} {Q : Ex → Fr → Heap → Prop} : s14_15.wp E nt rd fr h Q = (GC.block 11 s14_14).wp E nt rd fr h Q := Eq.trans rfl rfl
def r14_16 : List GO := [⟨none, some 18, .assign (.const (.int .i64 0))⟩]
theorem r14_16_w {E : Env} {fr : Fr} {h : Heap} {Q : Fr → Heap → Prop} : opsW E r14_16 fr h Q = opsW E [⟨none, some 18, .assign (.const (.int .i64 0))⟩] fr h Q := Eq.trans rfl rfl
def s14_17 : GC := .seq (.ops r14_16) s14_15
theorem s14_17_w {E : Env} {nt : Nat} {rd : Option Nat} {fr : Fr} {h : Heap} {Q : Ex → Fr → Heap → Prop} : s14_17.wp E nt rd fr h Q = (GC.seq (.ops r14_16) s14_15).wp E nt rd fr h Q := Eq.trans rfl rfl
def s14_18 : GC := .seq (s14_17) s14_1
theorem s14_18_w {E : Env} {nt : Nat} {rd : Option Nat} {fr : Fr} {h : Heap} {Q : Ex → Fr → Heap → Prop} : s14_18.wp E nt rd fr h Q = (GC.seq (s14_17) s14_1).wp E nt rd fr h Q := Eq.trans rfl rfl
def r14_19 : List GO := [⟨none, some 161, .move (.tmp 17)⟩,
  ⟨none, some 162, .binOp .add 3 (.tmp 161) (.const (.int .i64 1)) 3⟩,
  ⟨none, some 17, .assign (.tmp 162)⟩]
theorem r14_19_w {E : Env} {fr : Fr} {h : Heap} {Q : Fr → Heap → Prop} : opsW E r14_19 fr h Q = opsW E [⟨none, some 161, .move (.tmp 17)⟩,
  ⟨none, some 162, .binOp .add 3 (.tmp 161) (.const (.int .i64 1)) 3⟩,
  ⟨none, some 17, .assign (.tmp 162)⟩] fr h Q := Eq.trans rfl rfl
def s14_20 : GC := .ops r14_19
theorem s14_20_w {E : Env} {nt : Nat} {rd : Option Nat} {fr : Fr} {h : Heap} {Q : Ex → Fr → Heap → Prop} : s14_20.wp E nt rd fr h Q = (GC.ops r14_19).wp E nt rd fr h Q := Eq.trans rfl rfl
def r14_21 : List GO := [⟨none, some 163, .move (.tmp 13)⟩,
  ⟨none, some 164, .fieldAddr 45 (.tmp 1) 6⟩,
  ⟨none, some 165, .load 43 (.tmp 164)⟩,
  ⟨none, some 166, .move (.tmp 17)⟩,
  ⟨none, some 167, .indexAddr 43 (.tmp 165) (.tmp 166)⟩,
  ⟨none, some 168, .fieldAddr 78 (.tmp 167) 1⟩,
  ⟨none, some 169, .load 3 (.tmp 168)⟩,
  ⟨none, some 170, .buildSlice 38 1 ⟨[(0, .tmp 169)]⟩⟩,
  ⟨none, some 171, .call ⟨.builtin .append, ⟨[.tmp 163, .tmp 170]⟩, ⟨[38, 38]⟩⟩⟩,
  ⟨none, some 13, .assign (.tmp 171)⟩]
theorem r14_21_w {E : Env} {fr : Fr} {h : Heap} {Q : Fr → Heap → Prop} : opsW E r14_21 fr h Q = opsW E [⟨none, some 163, .move (.tmp 13)⟩,
  ⟨none, some 164, .fieldAddr 45 (.tmp 1) 6⟩,
  ⟨none, some 165, .load 43 (.tmp 164)⟩,
  ⟨none, some 166, .move (.tmp 17)⟩,
  ⟨none, some 167, .indexAddr 43 (.tmp 165) (.tmp 166)⟩,
  ⟨none, some 168, .fieldAddr 78 (.tmp 167) 1⟩,
  ⟨none, some 169, .load 3 (.tmp 168)⟩,
  ⟨none, some 170, .buildSlice 38 1 ⟨[(0, .tmp 169)]⟩⟩,
  ⟨none, some 171, .call ⟨.builtin .append, ⟨[.tmp 163, .tmp 170]⟩, ⟨[38, 38]⟩⟩⟩,
  ⟨none, some 13, .assign (.tmp 171)⟩] fr h Q := Eq.trans rfl rfl
def s14_22 : GC := .ops r14_21
theorem s14_22_w {E : Env} {nt : Nat} {rd : Option Nat} {fr : Fr} {h : Heap} {Q : Ex → Fr → Heap → Prop} : s14_22.wp E nt rd fr h Q = (GC.ops r14_21).wp E nt rd fr h Q := Eq.trans rfl rfl
def s14_23 : GC := .seq (.block 10 s14_22) s14_20
theorem s14_23_w {E : Env} {nt : Nat} {rd : Option Nat} {fr : Fr} {h : Heap} {Q : Ex → Fr → Heap → Prop} : s14_23.wp E nt rd fr h Q = (GC.seq (.block 10 s14_22) s14_20).wp E nt rd fr h Q := Eq.trans rfl rfl
def s14_24 : GC := .cond (.tmp 160) .skip (.exit 9)
theorem s14_24_w {E : Env} {nt : Nat} {rd : Option Nat} {fr : Fr} {h : Heap} {Q : Ex → Fr → Heap → Prop} : s14_24.wp E nt rd fr h Q = (GC.cond (.tmp 160) .skip (.exit 9)).wp E nt rd fr h Q := Eq.trans rfl rfl
def r14_25 : List GO := [⟨none, some 156, .move (.tmp 17)⟩,
  ⟨none, some 157, .fieldAddr 45 (.tmp 1) 6⟩,
  ⟨none, some 158, .load 43 (.tmp 157)⟩,
  ⟨none, some 159, .call ⟨.builtin .len, ⟨[.tmp 158]⟩, ⟨[43]⟩⟩⟩,
  ⟨none, some 160, .binOp .lss 3 (.tmp 156) (.tmp 159) 3⟩]
theorem r14_25_w {E : Env} {fr : Fr} {h : Heap} {Q : Fr → Heap → Prop} : opsW E r14_25 fr h Q = opsW E [⟨none, some 156, .move (.tmp 17)⟩,
  ⟨none, some 157, .fieldAddr 45 (.tmp 1) 6⟩,
  ⟨none, some 158, .load 43 (.tmp 157)⟩,
  ⟨none, some 159, .call ⟨.builtin .len, ⟨[.tmp 158]⟩, ⟨[43]⟩⟩⟩,
  ⟨none, some 160, .binOp .lss 3 (.tmp 156) (.tmp 159) 3⟩] fr h Q := Eq.trans rfl rfl
def s14_26 : GC := .seq (.ops r14_25) s14_24
theorem s14_26_w {E : Env} {nt : Nat} {rd : Option Nat} {fr : Fr} {h : Heap} {Q : Ex → Fr → Heap → Prop} : s14_26.wp E nt rd fr h Q = (GC.seq (.ops r14_25) s14_24).wp E nt rd fr h Q := Eq.trans rfl rfl
def s14_27 : GC := .seq (s14_26) s14_23
theorem s14_27_w {E : Env} {nt : Nat} {rd : Option Nat} {fr : Fr} {h : Heap} {Q : Ex → Fr → Heap → Prop} : s14_27.wp E nt rd fr h Q = (GC.seq (s14_26) s14_23).wp E nt rd fr h Q := Eq.trans rfl rfl
def s14_28 : GC := .loop s14_27
theorem s14_28_w {E : Env} {nt : Nat} {rd : Option Nat} {fr : Fr} {h : Heap} {Q : Ex → Fr → Heap → Prop} : s14_28.wp E nt rd fr h Q = (GC.loop s14_27).wp E nt rd fr h Q := Eq.trans rfl rfl
def s14_29 : GC := .block 9 s14_28
theorem s14_29_w {E : Env} {nt : Nat} {rd : Option Nat} {fr : Fr} {h : Heap} {Q : Ex → Fr → Heap → Prop} : s14_29.wp E nt rd fr h Q = (GC.block 9 s14_28).wp E nt rd fr h Q := Eq.trans rfl rfl
def r14_30 : List GO := [⟨none, some 17, .assign (.const (.int .i64 0))⟩]
theorem r14_30_w {E : Env} {fr : Fr} {h : Heap} {Q : Fr → Heap → Prop} : opsW E r14_30 fr h Q = opsW E [⟨none, some 17, .assign (.const (.int .i64 0))⟩] fr h Q := Eq.trans rfl rfl
def s14_31 : GC := .seq (.ops r14_30) s14_29
theorem s14_31_w {E : Env} {nt : Nat} {rd : Option Nat} {fr : Fr} {h : Heap} {Q : Ex → Fr → Heap → Prop} : s14_31.wp E nt rd fr h Q = (GC.seq (.ops r14_30) s14_29).wp E nt rd fr h Q := Eq.trans rfl rfl
def s14_32 : GC := .seq (s14_31) s14_18
theorem s14_32_w {E : Env} {nt : Nat} {rd : Option Nat} {fr : Fr} {h : Heap} {Q : Ex → Fr → Heap → Prop} : s14_32.wp E nt rd fr h Q = (GC.seq (s14_31) s14_18).wp E nt rd fr h Q := Eq.trans rfl rfl
def r14_33 : List GO := [⟨none, some 151, .move (.tmp 13)⟩,
  ⟨none, some 152, .fieldAddr 45 (.tmp 1) 5⟩,
  ⟨none, some 153, .fieldAddr 42 (.tmp 152) 5⟩,
  ⟨none, some 154, .load 38 (.tmp 153)⟩,
  ⟨none, some 155, .call ⟨.builtin .append, ⟨[.tmp 151, .tmp 154]⟩, ⟨[38, 38]⟩⟩⟩,
  ⟨none, some 13, .assign (.tmp 155)⟩]
theorem r14_33_w {E : Env} {fr : Fr} {h : Heap} {Q : Fr → Heap → Prop} : opsW E r14_33 fr h Q = opsW E [⟨none, some 151, .move (.tmp 13)⟩,
  ⟨none, some 152, .fieldAddr 45 (.tmp 1) 5⟩,
  ⟨none, some 153, .fieldAddr 42 (.tmp 152) 5⟩,
  ⟨none, some 154, .load 38 (.tmp 153)⟩,
  ⟨none, some 155, .call ⟨.builtin .append, ⟨[.tmp 151, .tmp 154]⟩, ⟨[38, 38]⟩⟩⟩,
  ⟨none, some 13, .assign (.tmp 155)⟩] fr h Q := Eq.trans rfl rfl
def s14_34 : GC := .seq (.ops r14_33) s14_32
theorem s14_34_w {E : Env} {nt : Nat} {rd : Option Nat} {fr : Fr} {h : Heap} {Q : Ex → Fr → Heap → Prop} : s14_34.wp E nt rd fr h Q = (GC.seq (.ops r14_33) s14_32).wp E nt rd fr h Q := Eq.trans rfl rfl
def r14_35 : List GO := [⟨none, some 141, .move (.tmp 16)⟩,
  ⟨none, some 142, .binOp .add 3 (.tmp 141) (.const (.int .i64 1)) 3⟩,
  ⟨none, some 16, .assign (.tmp 142)⟩]
theorem r14_35_w {E : Env} {fr : Fr} {h : Heap} {Q : Fr → Heap → Prop} : opsW E r14_35 fr h Q = opsW E [⟨none, some 141, .move (.tmp 16)⟩,
  ⟨none, some 142, .binOp .add 3 (.tmp 141) (.const (.int .i64 1)) 3⟩,
  ⟨none, some 16, .assign (.tmp 142)⟩] fr h Q := Eq.trans rfl rfl
def s14_36 : GC := .ops r14_35
theorem s14_36_w {E : Env} {nt : Nat} {rd : Option Nat} {fr : Fr} {h : Heap} {Q : Ex → Fr → Heap → Prop} : s14_36.wp E nt rd fr h Q = (GC.ops r14_35).wp E nt rd fr h Q := Eq.trans rfl rfl
def r14_37 : List GO := [⟨none, some 143, .move (.tmp 13)⟩,
  ⟨none, some 144, .fieldAddr 45 (.tmp 1) 5⟩,
  ⟨none, some 145, .fieldAddr 42 (.tmp 144) 2⟩,
  ⟨none, some 146, .load 39 (.tmp 145)⟩,
  ⟨none, some 147, .move (.tmp 16)⟩,
  ⟨none, some 148, .indexAddr 39 (.tmp 146) (.tmp 147)⟩,
  ⟨none, some 149, .load 38 (.tmp 148)⟩,
  ⟨none, some 150, .call ⟨.builtin .append, ⟨[.tmp 143, .tmp 149]⟩, ⟨[38, 38]⟩⟩⟩,
  ⟨none, some 13, .assign (.tmp 150)⟩]
theorem r14_37_w {E : Env} {fr : Fr} {h : Heap} {Q : Fr → Heap → Prop} : opsW E r14_37 fr h Q = opsW E [⟨none, some 143, .move (.tmp 13)⟩,
  ⟨none, some 144, .fieldAddr 45 (.tmp 1) 5⟩,
  ⟨none, some 145, .fieldAddr 42 (.tmp 144) 2⟩,
  ⟨none, some 146, .load 39 (.tmp 145)⟩,
  ⟨none, some 147, .move (.tmp 16)⟩,
  ⟨none, some 148, .indexAddr 39 (.tmp 146) (.tmp 147)⟩,
  ⟨none, some 149, .load 38 (.tmp 148)⟩,
  ⟨none, some 150, .call ⟨.builtin .append, ⟨[.tmp 143, .tmp 149]⟩, ⟨[38, 38]⟩⟩⟩,
  ⟨none, some 13, .assign (.tmp 150)⟩] fr h Q := Eq.trans rfl rfl
def s14_38 : GC := .ops r14_37
theorem s14_38_w {E : Env} {nt : Nat} {rd : Option Nat} {fr : Fr} {h : Heap} {Q : Ex → Fr → Heap → Prop} : s14_38.wp E nt rd fr h Q = (GC.ops r14_37).wp E nt rd fr h Q := Eq.trans rfl rfl
def s14_39 : GC := .seq (.block 8 s14_38) s14_36
theorem s14_39_w {E : Env} {nt : Nat} {rd : Option Nat} {fr : Fr} {h : Heap} {Q : Ex → Fr → Heap → Prop} : s14_39.wp E nt rd fr h Q = (GC.seq (.block 8 s14_38) s14_36).wp E nt rd fr h Q := Eq.trans rfl rfl
def s14_40 : GC := .cond (.tmp 140) .skip (.exit 7)
theorem s14_40_w {E : Env} {nt : Nat} {rd : Option Nat} {fr : Fr} {h : Heap} {Q : Ex → Fr → Heap → Prop} : s14_40.wp E nt rd fr h Q = (GC.cond (.tmp 140) .skip (.exit 7)).wp E nt rd fr h Q := Eq.trans rfl rfl
def r14_41 : List GO := [⟨none, some 135, .move (.tmp 16)⟩,
  ⟨none, some 136, .fieldAddr 45 (.tmp 1) 5⟩,
  ⟨none, some 137, .fieldAddr 42 (.tmp 136) 2⟩,
  ⟨none, some 138, .load 39 (.tmp 137)⟩,
  ⟨none, some 139, .call ⟨.builtin .len, ⟨[.tmp 138]⟩, ⟨[39]⟩⟩⟩,
  ⟨none, some 140, .binOp .lss 3 (.tmp 135) (.tmp 139) 3⟩]
theorem r14_41_w {E : Env} {fr : Fr} {h : Heap} {Q : Fr → Heap → Prop} : opsW E r14_41 fr h Q = opsW E [⟨none, some 135, .move (.tmp 16)⟩,
  ⟨none, some 136, .fieldAddr 45 (.tmp 1) 5⟩,
  ⟨none, some 137, .fieldAddr 42 (.tmp 136) 2⟩,
  ⟨none, some 138, .load 39 (.tmp 137)⟩,
  ⟨none, some 139, .call ⟨.builtin .len, ⟨[.tmp 138]⟩, ⟨[39]⟩⟩⟩,
  ⟨none, some 140, .binOp .lss 3 (.tmp 135) (.tmp 139) 3⟩] fr h Q := Eq.trans rfl rfl
def s14_42 : GC := .seq (.ops r14_41) s14_40
theorem s14_42_w {E : Env} {nt : Nat} {rd : Option Nat} {fr : Fr} {h : Heap} {Q : Ex → Fr → Heap → Prop} : s14_42.wp E nt rd fr h Q = (GC.seq (.ops r14_41) s14_40).wp E nt rd fr h Q := Eq.trans rfl rfl
def s14_43 : GC := .seq (s14_42) s14_39
theorem s14_43_w {E : Env} {nt : Nat} {rd : Option Nat} {fr : Fr} {h : Heap} {Q : Ex → Fr → Heap → Prop} : s14_43.wp E nt rd fr h Q = (GC.seq (s14_42) s14_39).wp E nt rd fr h Q := Eq.trans rfl rfl
def s14_44 : GC := .loop s14_43
theorem s14_44_w {E : Env} {nt : Nat} {rd : Option Nat} {fr : Fr} {h : Heap} {Q : Ex → Fr → Heap → Prop} : s14_44.wp E nt rd fr h Q = (GC.loop s14_43).wp E nt rd fr h Q := Eq.trans rfl rfl
def s14_45 : GC := .block 7 s14_44
theorem s14_45_w {E : Env} {nt : Nat} {rd : Option Nat} {fr : Fr} {h : Heap} {Q : Ex → Fr → Heap → Prop} : s14_45.wp E nt rd fr h Q = (GC.block 7 s14_44).wp E nt rd fr h Q := Eq.trans rfl rfl
def r14_46 : List GO := [⟨none, some 16, .assign (.const (.int .i64 0))⟩]
theorem r14_46_w {E : Env} {fr : Fr} {h : Heap} {Q : Fr → Heap → Prop} : opsW E r14_46 fr h Q = opsW E [⟨none, some 16, .assign (.const (.int .i64 0))⟩] fr h Q := Eq.trans rfl rfl
def s14_47 : GC := .seq (.ops r14_46) s14_45
theorem s14_47_w {E : Env} {nt : Nat} {rd : Option Nat} {fr : Fr} {h : Heap} {Q : Ex → Fr → Heap → Prop} : s14_47.wp E nt rd fr h Q = (GC.seq (.ops r14_46) s14_45).wp E nt rd fr h Q := Eq.trans rfl rfl
def s14_48 : GC := .seq (s14_47) s14_34
theorem s14_48_w {E : Env} {nt : Nat} {rd : Option Nat} {fr : Fr} {h : Heap} {Q : Ex → Fr → Heap → Prop} : s14_48.wp E nt rd fr h Q = (GC.seq (s14_47) s14_34).wp E nt rd fr h Q := Eq.trans rfl rfl
def r14_49 : List GO := [⟨none, some 117, .move (.tmp 15)⟩,
  ⟨none, some 118, .binOp .add 3 (.tmp 117) (.const (.int .i64 1)) 3⟩,
  ⟨none, some 15, .assign (.tmp 118)⟩]
theorem r14_49_w {E : Env} {fr : Fr} {h : Heap} {Q : Fr → Heap → Prop} : opsW E r14_49 fr h Q = opsW E [⟨none, some 117, .move (.tmp 15)⟩,
  ⟨none, some 118, .binOp .add 3 (.tmp 117) (.const (.int .i64 1)) 3⟩,
  ⟨none, some 15, .assign (.tmp 118)⟩] fr h Q := Eq.trans rfl rfl
def s14_50 : GC := .ops r14_49
theorem s14_50_w {E : Env} {nt : Nat} {rd : Option Nat} {fr : Fr} {h : Heap} {Q : Ex → Fr → Heap → Prop} : s14_50.wp E nt rd fr h Q = (GC.ops r14_49).wp E nt rd fr h Q := Eq.trans rfl rfl
def r14_51 : List GO := [⟨none, some 126, .move (.tmp 13)⟩,
  ⟨none, some 127, .fieldAddr 45 (.tmp 1) 5⟩,
  ⟨none, some 128, .fieldAddr 42 (.tmp 127) 1⟩,
  ⟨none, some 129, .load 38 (.tmp 128)⟩,
  ⟨none, some 130, .move (.tmp 15)⟩,
  ⟨none, some 131, .indexAddr 38 (.tmp 129) (.tmp 130)⟩,
  ⟨none, some 132, .load 3 (.tmp 131)⟩,
  ⟨none, some 133, .buildSlice 38 1 ⟨[(0, .tmp 132)]⟩⟩,
  ⟨none, some 134, .call ⟨.builtin .append, ⟨[.tmp 126, .tmp 133]⟩, ⟨[38, 38]⟩⟩⟩,
  ⟨none, some 13, .assign (.tmp 134)⟩]
theorem r14_51_w {E : Env} {fr : Fr} {h : Heap} {Q : Fr → Heap → Prop} : opsW E r14_51 fr h Q = opsW E [⟨none, some 126, .move (.tmp 13)⟩,
  ⟨none, some 127, .fieldAddr 45 (.tmp 1) 5⟩,
  ⟨none, some 128, .fieldAddr 42 (.tmp 127) 1⟩,
  ⟨none, some 129, .load 38 (.tmp 128)⟩,
  ⟨none, some 130, .move (.tmp 15)⟩,
  ⟨none, some 131, .indexAddr 38 (.tmp 129) (.tmp 130)⟩,
  ⟨none, some 132, .load 3 (.tmp 131)⟩,
  ⟨none, some 133, .buildSlice 38 1 ⟨[(0, .tmp 132)]⟩⟩,
  ⟨none, some 134, .call ⟨.builtin .append, ⟨[.tmp 126, .tmp 133]⟩, ⟨[38, 38]⟩⟩⟩,
  ⟨none, some 13, .assign (.tmp 134)⟩] fr h Q := Eq.trans rfl rfl
def s14_52 : GC := .ops r14_51
theorem s14_52_w {E : Env} {nt : Nat} {rd : Option Nat} {fr : Fr} {h : Heap} {Q : Ex → Fr → Heap → Prop} : s14_52.wp E nt rd fr h Q = (GC.ops r14_51).wp E nt rd fr h Q := Eq.trans rfl rfl
def s14_53 : GC := .cond (.tmp 125) s14_52 .skip
theorem s14_53_w {E : Env} {nt : Nat} {rd : Option Nat} {fr : Fr} {h : Heap} {Q : Ex → Fr → Heap → Prop} : s14_53.wp E nt rd fr h Q = (GC.cond (.tmp 125) s14_52 .skip).wp E nt rd fr h Q := Eq.trans rfl rfl
def r14_54 : List GO := [⟨none, some 119, .fieldAddr 45 (.tmp 1) 5⟩,
  ⟨none, some 120, .fieldAddr 42 (.tmp 119) 1⟩,
  ⟨none, some 121, .load 38 (.tmp 120)⟩,
  ⟨none, some 122, .move (.tmp 15)⟩,
  ⟨none, some 123, .indexAddr 38 (.tmp 121) (.tmp 122)⟩,
  ⟨none, some 124, .load 3 (.tmp 123)⟩,
  ⟨none, some 125, .binOp .geq 3 (.tmp 124) (.const (.int .i64 0)) 3⟩]
theorem r14_54_w {E : Env} {fr : Fr} {h : Heap} {Q : Fr → Heap → Prop} : opsW E r14_54 fr h Q = opsW E [⟨none, some 119, .fieldAddr 45 (.tmp 1) 5⟩,
  ⟨none, some 120, .fieldAddr 42 (.tmp 119) 1⟩,
  ⟨none, some 121, .load 38 (.tmp 120)⟩,
  ⟨none, some 122, .move (.tmp 15)⟩,
  ⟨none, some 123, .indexAddr 38 (.tmp 121) (.tmp 122)⟩,
  ⟨none, some 124, .load 3 (.tmp 123)⟩,
  ⟨none, some 125, .binOp .geq 3 (.tmp 124) (.const (.int .i64 0)) 3⟩] fr h Q := Eq.trans rfl rfl
def s14_55 : GC := .seq (.ops r14_54) s14_53
theorem s14_55_w {E : Env} {nt : Nat} {rd : Option Nat} {fr : Fr} {h : Heap} {Q : Ex → Fr → Heap → Prop} : s14_55.wp E nt rd fr h Q = (GC.seq (.ops r14_54) s14_53).wp E nt rd fr h Q := Eq.trans rfl rfl
def s14_56 : GC := .seq (.block 6 s14_55) s14_50
theorem s14_56_w {E : Env} {nt : Nat} {rd : Option Nat} {fr : Fr} {h : Heap} {Q : Ex → Fr → Heap → Prop} : s14_56.wp E nt rd fr h Q = (GC.seq (.block 6 s14_55) s14_50).wp E nt rd fr h Q := Eq.trans rfl rfl
def s14_57 : GC := .cond (.tmp 116) .skip (.exit 5)
theorem s14_57_w {E : Env} {nt : Nat} {rd : Option Nat} {fr : Fr} {h : Heap} {Q : Ex → Fr → Heap → Prop} : s14_57.wp E nt rd fr h Q = (GC.cond (.tmp 116) .skip (.exit 5)).wp E nt rd fr h Q := Eq.trans rfl rfl
def r14_58 : List GO := [⟨none, some 111, .move (.tmp 15)⟩,
  ⟨none, some 112, .fieldAddr 45 (.tmp 1) 5⟩,
  ⟨none, some 113, .fieldAddr 42 (.tmp 112) 1⟩,
  ⟨none, some 114, .load 38 (.tmp 113)⟩,
  ⟨none, some 115, .call ⟨.builtin .len, ⟨[.tmp 114]⟩, ⟨[38]⟩⟩⟩,
  ⟨none, some 116, .binOp .lss 3 (.tmp 111) (.tmp 115) 3⟩]
theorem r14_58_w {E : Env} {fr : Fr} {h : Heap} {Q : Fr → Heap → Prop} : opsW E r14_58 fr h Q = opsW E [⟨none, some 111, .move (.tmp 15)⟩,
  ⟨none, some 112, .fieldAddr 45 (.tmp 1) 5⟩,
  ⟨none, some 113, .fieldAddr 42 (.tmp 112) 1⟩,
  ⟨none, some 114, .load 38 (.tmp 113)⟩,
  ⟨none, some 115, .call ⟨.builtin .len, ⟨[.tmp 114]⟩, ⟨[38]⟩⟩⟩,
  ⟨none, some 116, .binOp .lss 3 (.tmp 111) (.tmp 115) 3⟩] fr h Q := Eq.trans rfl rfl
def s14_59 : GC := .seq (.ops r14_58) s14_57
theorem s14_59_w {E : Env} {nt : Nat} {rd : Option Nat} {fr : Fr} {h : Heap} {Q : Ex → Fr → Heap → Prop} : s14_59.wp E nt rd fr h Q = (GC.seq (.ops r14_58) s14_57).wp E nt rd fr h Q := Eq.trans rfl rfl
def s14_60 : GC := .seq (s14_59) s14_56
theorem s14_60_w {E : Env} {nt : Nat} {rd : Option Nat} {fr : Fr} {h : Heap} {Q : Ex → Fr → Heap → Prop} : s14_60.wp E nt rd fr h Q = (GC.seq (s14_59) s14_56).wp E nt rd fr h Q := Eq.trans rfl rfl
def s14_61 : GC := .loop s14_60
theorem s14_61_w {E : Env} {nt : Nat} {rd : Option Nat} {fr : Fr} {h : Heap} {Q : Ex → Fr → Heap → Prop} : s14_61.wp E nt rd fr h Q = (GC.loop s14_60).wp E nt rd fr h Q := Eq.trans rfl rfl
def s14_62 : GC := .block 5 s14_61
theorem s14_62_w {E : Env} {nt : Nat} {rd : Option Nat} {fr : Fr} {h : Heap} {Q : Ex → Fr → Heap → Prop} : s14_62.wp E nt rd fr h Q = (GC.block 5 s14_61).wp E nt rd fr h Q := Eq.trans rfl rfl
def r14_63 : List GO := [⟨none, some 15, .assign (.const (.int .i64 0))⟩]
theorem r14_63_w {E : Env} {fr : Fr} {h : Heap} {Q : Fr → Heap → Prop} : opsW E r14_63 fr h Q = opsW E [⟨none, some 15, .assign (.const (.int .i64 0))⟩] fr h Q := Eq.trans rfl rfl
def s14_64 : GC := .seq (.ops r14_63) s14_62
theorem s14_64_w {E : Env} {nt : Nat} {rd : Option Nat} {fr : Fr} {h : Heap} {Q : Ex → Fr → Heap → Prop} : s14_64.wp E nt rd fr h Q = (GC.seq (.ops r14_63) s14_62).wp E nt rd fr h Q := Eq.trans rfl rfl
def s14_65 : GC := .seq (s14_64) s14_48
theorem s14_65_w {E : Env} {nt : Nat} {rd : Option Nat} {fr : Fr} {h : Heap} {Q : Ex → Fr → Heap → Prop} : s14_65.wp E nt rd fr h Q = (GC.seq (s14_64) s14_48).wp E nt rd fr h Q := Eq.trans rfl rfl
def r14_66 : List GO := [⟨none, some 93, .move (.tmp 14)⟩,
  ⟨none, some 94, .binOp .add 3 (.tmp 93) (.const (.int .i64 1)) 3⟩,
  ⟨none, some 14, .assign (.tmp 94)⟩]
theorem r14_66_w {E : Env} {fr : Fr} {h : Heap} {Q : Fr → Heap → Prop} : opsW E r14_66 fr h Q = opsW E [⟨none, some 93, .move (.tmp 14)⟩,
  ⟨none, some 94, .binOp .add 3 (.tmp 93) (.const (.int .i64 1)) 3⟩,
  ⟨none, some 14, .assign (.tmp 94)⟩] fr h Q := Eq.trans rfl rfl
def s14_67 : GC := .ops r14_66
theorem s14_67_w {E : Env} {nt : Nat} {rd : Option Nat} {fr : Fr} {h : Heap} {Q : Ex → Fr → Heap → Prop} : s14_67.wp E nt rd fr h Q = (GC.ops r14_66).wp E nt rd fr h Q := Eq.trans rfl rfl
def r14_68 : List GO := [⟨none, some 102, .move (.tmp 13)⟩,
  ⟨none, some 103, .fieldAddr 45 (.tmp 1) 5⟩,
  ⟨none, some 104, .fieldAddr 42 (.tmp 103) 0⟩,
  ⟨none, some 105, .load 38 (.tmp 104)⟩,
  ⟨none, some 106, .move (.tmp 14)⟩,
  ⟨none, some 107, .indexAddr 38 (.tmp 105) (.tmp 106)⟩,
  ⟨none, some 108, .load 3 (.tmp 107)⟩,
  ⟨none, some 109, .buildSlice 38 1 ⟨[(0, .tmp 108)]⟩⟩,
  ⟨none, some 110, .call ⟨.builtin .append, ⟨[.tmp 102, .tmp 109]⟩, ⟨[38, 38]⟩⟩⟩,
  ⟨none, some 13, .assign (.tmp 110)⟩]
theorem r14_68_w {E : Env} {fr : Fr} {h : Heap} {Q : Fr → Heap → Prop} : opsW E r14_68 fr h Q = opsW E [⟨none, some 102, .move (.tmp 13)⟩,
  ⟨none, some 103, .fieldAddr 45 (.tmp 1) 5⟩,
  ⟨none, some 104, .fieldAddr 42 (.tmp 103) 0⟩,
  ⟨none, some 105, .load 38 (.tmp 104)⟩,
  ⟨none, some 106, .move (.tmp 14)⟩,
  ⟨none, some 107, .indexAddr 38 (.tmp 105) (.tmp 106)⟩,
  ⟨none, some 108, .load 3 (.tmp 107)⟩,
  ⟨none, some 109, .buildSlice 38 1 ⟨[(0, .tmp 108)]⟩⟩,
  ⟨none, some 110, .call ⟨.builtin .append, ⟨[.tmp 102, .tmp 109]⟩, ⟨[38, 38]⟩⟩⟩,
  ⟨none, some 13, .assign (.tmp 110)⟩] fr h Q := Eq.trans rfl rfl
def s14_69 : GC := .ops r14_68
theorem s14_69_w {E : Env} {nt : Nat} {rd : Option Nat} {fr : Fr} {h : Heap} {Q : Ex → Fr → Heap → Prop} : s14_69.wp E nt rd fr h Q = (GC.ops r14_68).wp E nt rd fr h Q := Eq.trans rfl rfl
def s14_70 : GC := .cond (.tmp 101) s14_69 .skip
theorem s14_70_w {E : Env} {nt : Nat} {rd : Option Nat} {fr : Fr} {h : Heap} {Q : Ex → Fr → Heap → Prop} : s14_70.wp E nt rd fr h Q = (GC.cond (.tmp 101) s14_69 .skip).wp E nt rd fr h Q := Eq.trans rfl rfl
def r14_71 : List GO := [⟨none, some 95, .fieldAddr 45 (.tmp 1) 5⟩,
  ⟨none, some 96, .fieldAddr 42 (.tmp 95) 0⟩,
  ⟨none, some 97, .load 38 (.tmp 96)⟩,
  ⟨none, some 98, .move (.tmp 14)⟩,
  ⟨none, some 99, .indexAddr 38 (.tmp 97) (.tmp 98)⟩,
  ⟨none, some 100, .load 3 (.tmp 99)⟩,
  ⟨none, some 101, .binOp .geq 3 (.tmp 100) (.const (.int .i64 0)) 3⟩]
theorem r14_71_w {E : Env} {fr : Fr} {h : Heap} {Q : Fr → Heap → Prop} : opsW E r14_71 fr h Q = opsW E [⟨none, some 95, .fieldAddr 45 (.tmp 1) 5⟩,
  ⟨none, some 96, .fieldAddr 42 (.tmp 95) 0⟩,
  ⟨none, some 97, .load 38 (.tmp 96)⟩,
  ⟨none, some 98, .move (.tmp 14)⟩,
  ⟨none, some 99, .indexAddr 38 (.tmp 97) (.tmp 98)⟩,
  ⟨none, some 100, .load 3 (.tmp 99)⟩,
  ⟨none, some 101, .binOp .geq 3 (.tmp 100) (.const (.int .i64 0)) 3⟩] fr h Q := Eq.trans rfl rfl
def s14_72 : GC := .seq (.ops r14_71) s14_70
theorem s14_72_w {E : Env} {nt : Nat} {rd : Option Nat} {fr : Fr} {h : Heap} {Q : Ex → Fr → Heap → Prop} : s14_72.wp E nt rd fr h Q = (GC.seq (.ops r14_71) s14_70).wp E nt rd fr h Q := Eq.trans rfl rfl
def s14_73 : GC := .seq (.block 4 s14_72) s14_67
theorem s14_73_w {E : Env} {nt : Nat} {rd : Option Nat} {fr : Fr} {h : Heap} {Q : Ex → Fr → Heap → Prop} : s14_73.wp E nt rd fr h Q = (GC.seq (.block 4 s14_72) s14_67).wp E nt rd fr h Q := Eq.trans rfl rfl
def s14_74 : GC := .cond (.tmp 92) .skip (.exit 3)
theorem s14_74_w {E : Env} {nt : Nat} {rd : Option Nat} {fr : Fr} {h : Heap} {Q : Ex → Fr → Heap → Prop} : s14_74.wp E nt rd fr h Q = (GC.cond (.tmp 92) .skip (.exit 3)).wp E nt rd fr h Q := Eq.trans rfl rfl
def r14_75 : List GO := [⟨none, some 87, .move (.tmp 14)⟩,
  ⟨none, some 88, .fieldAddr 45 (.tmp 1) 5⟩,
  ⟨none, some 89, .fieldAddr 42 (.tmp 88) 0⟩,
  ⟨none, some 90, .load 38 (.tmp 89)⟩,
  ⟨none, some 91, .call ⟨.builtin .len, ⟨[.tmp 90]⟩, ⟨[38]⟩⟩⟩,
  ⟨none, some 92, .binOp .lss 3 (.tmp 87) (.tmp 91) 3⟩]
theorem r14_75_w {E : Env} {fr : Fr} {h : Heap} {Q : Fr → Heap → Prop} : opsW E r14_75 fr h Q = opsW E [⟨none, some 87, .move (.tmp 14)⟩,
  ⟨none, some 88, .fieldAddr 45 (.tmp 1) 5⟩,
  ⟨none, some 89, .fieldAddr 42 (.tmp 88) 0⟩,
  ⟨none, some 90, .load 38 (.tmp 89)⟩,
  ⟨none, some 91, .call ⟨.builtin .len, ⟨[.tmp 90]⟩, ⟨[38]⟩⟩⟩,
  ⟨none, some 92, .binOp .lss 3 (.tmp 87) (.tmp 91) 3⟩] fr h Q := Eq.trans rfl rfl
def s14_76 : GC := .seq (.ops r14_75) s14_74
theorem s14_76_w {E : Env} {nt : Nat} {rd : Option Nat} {fr : Fr} {h : Heap} {Q : Ex → Fr → Heap → Prop} : s14_76.wp E nt rd fr h Q = (GC.seq (.ops r14_75) s14_74).wp E nt rd fr h Q := Eq.trans rfl rfl
def s14_77 : GC := .seq (s14_76) s14_73
theorem s14_77_w {E : Env} {nt : Nat} {rd : Option Nat} {fr : Fr} {h : Heap} {Q : Ex → Fr → Heap → Prop} : s14_77.wp E nt rd fr h Q = (GC.seq (s14_76) s14_73).wp E nt rd fr h Q := Eq.trans rfl rfl
def s14_78 : GC := .loop s14_77
theorem s14_78_w {E : Env} {nt : Nat} {rd : Option Nat} {fr : Fr} {h : Heap} {Q : Ex → Fr → Heap → Prop} : s14_78.wp E nt rd fr h Q = (GC.loop s14_77).wp E nt rd fr h Q := Eq.trans rfl rfl
def s14_79 : GC := .block 3 s14_78
theorem s14_79_w {E : Env} {nt : Nat} {rd : Option Nat} {fr : Fr} {h : Heap} {Q : Ex → Fr → Heap → Prop} : s14_79.wp E nt rd fr h Q = (GC.block 3 s14_78).wp E nt rd fr h Q := Eq.trans rfl rfl
def r14_80 : List GO := [⟨none, some 14, .assign (.const (.int .i64 0))⟩]
theorem r14_80_w {E : Env} {fr : Fr} {h : Heap} {Q : Fr → Heap → Prop} : opsW E r14_80 fr h Q = opsW E [⟨none, some 14, .assign (.const (.int .i64 0))⟩] fr h Q := Eq.trans rfl rfl
def s14_81 : GC := .seq (.ops r14_80) s14_79
theorem s14_81_w {E : Env} {nt : Nat} {rd : Option Nat} {fr : Fr} {h : Heap} {Q : Ex → Fr → Heap → Prop} : s14_81.wp E nt rd fr h Q = (GC.seq (.ops r14_80) s14_79).wp E nt rd fr h Q := Eq.trans rfl rfl
def s14_82 : GC := .seq (s14_81) s14_65
theorem s14_82_w {E : Env} {nt : Nat} {rd : Option Nat} {fr : Fr} {h : Heap} {Q : Ex → Fr → Heap → Prop} : s14_82.wp E nt rd fr h Q = (GC.seq (s14_81) s14_65).wp E nt rd fr h Q := Eq.trans rfl rfl
def r14_83 : List GO := [⟨none, some 13, .assign (.const (.slice none 0 0))⟩]
theorem r14_83_w {E : Env} {fr : Fr} {h : Heap} {Q : Fr → Heap → Prop} : opsW E r14_83 fr h Q = opsW E [⟨none, some 13, .assign (.const (.slice none 0 0))⟩] fr h Q := Eq.trans rfl rfl
def s14_84 : GC := .seq (.ops r14_83) s14_82
theorem s14_84_w {E : Env} {nt : Nat} {rd : Option Nat} {fr : Fr} {h : Heap} {Q : Ex → Fr → Heap → Prop} : s14_84.wp E nt rd fr h Q = (GC.seq (.ops r14_83) s14_82).wp E nt rd fr h Q := Eq.trans rfl rfl
def r14_85 : List GO := [⟨none, some 25, .move (.tmp 4)⟩,
  ⟨none, some 26, .binOp .add 3 (.tmp 25) (.const (.int .i64 1)) 3⟩,
  ⟨none, some 4, .assign (.tmp 26)⟩]
theorem r14_85_w {E : Env} {fr : Fr} {h : Heap} {Q : Fr → Heap → Prop} : opsW E r14_85 fr h Q = opsW E [⟨none, some 25, .move (.tmp 4)⟩,
  ⟨none, some 26, .binOp .add 3 (.tmp 25) (.const (.int .i64 1)) 3⟩,
  ⟨none, some 4, .assign (.tmp 26)⟩] fr h Q := Eq.trans rfl rfl
def s14_86 : GC := .ops r14_85
theorem s14_86_w {E : Env} {nt : Nat} {rd : Option Nat} {fr : Fr} {h : Heap} {Q : Ex → Fr → Heap → Prop} : s14_86.wp E nt rd fr h Q = (GC.ops r14_85).wp E nt rd fr h Q := Eq.trans rfl rfl
def r14_87 : List GO := [⟨none, some 2, .assign (.const (.bool false))⟩]
theorem r14_87_w {E : Env} {fr : Fr} {h : Heap} {Q : Fr → Heap → Prop} : opsW E r14_87 fr h Q = opsW E [⟨none, some 2, .assign (.const (.bool false))⟩] fr h Q := Eq.trans rfl rfl
def s14_88 : GC := .seq (.ops r14_87) .ret
theorem s14_88_w {E : Env} {nt : Nat} {rd : Option Nat} {fr : Fr} {h : Heap} {Q : Ex → Fr → Heap → Prop} : s14_88.wp E nt rd fr h Q = (GC.seq (.ops r14_87) .ret).wp E nt rd fr h Q := Eq.trans rfl rfl
def s14_89 : GC := .cond (.tmp 86) s14_88 .skip
theorem s14_89_w {E : Env} {nt : Nat} {rd : Option Nat} {fr : Fr} {h : Heap} {Q : Ex → Fr → Heap → Prop} : s14_89.wp E nt rd fr h Q = (GC.cond (.tmp 86) s14_88 .skip).wp E nt rd fr h Q := Eq.trans rfl rfl
def r14_90 : List GO := [⟨none, some 73, .load 76 (.tmp 12)⟩,
  ⟨none, some 74, .move (.tmp 7)⟩,
  ⟨none, some 75, .move (.tmp 8)⟩,
  ⟨none, some 76, .move (.tmp 10)⟩,
  ⟨none, some 77, .build 76 ⟨[(0, .tmp 74), (1, .tmp 75), (2, .tmp 76)]⟩⟩,
  ⟨none, some 78, .binOp .neq 76 (.tmp 73) (.tmp 77) 76⟩,
  ⟨none, some 79, .move (.tmp 78)⟩,
  ⟨some (79, false), some 80, .move (.tmp 9)⟩,
  ⟨some (79, false), some 81, .unOp .not 4 (.tmp 80)⟩,
  ⟨none, some 82, .pick (.tmp 79) (.const (.bool true)) (.tmp 81)⟩,
  ⟨none, some 83, .move (.tmp 82)⟩,
  ⟨some (83, false), some 84, .move (.tmp 11)⟩,
  ⟨some (83, false), some 85, .unOp .not 4 (.tmp 84)⟩,
  ⟨none, some 86, .pick (.tmp 83) (.const (.bool true)) (.tmp 85)⟩]
theorem r14_90_w {E : Env} {fr : Fr} {h : Heap} {Q : Fr → Heap → Prop} : opsW E r14_90 fr h Q = opsW E [⟨none, some 73, .load 76 (.tmp 12)⟩,
  ⟨none, some 74, .move (.tmp 7)⟩,
  ⟨none, some 75, .move (.tmp 8)⟩,
  ⟨none, some 76, .move (.tmp 10)⟩,
  ⟨none, some 77, .build 76 ⟨[(0, .tmp 74), (1, .tmp 75), (2, .tmp 76)]⟩⟩,
  ⟨none, some 78, .binOp .neq 76 (.tmp 73) (.tmp 77) 76⟩,
  ⟨none, some 79, .move (.tmp 78)⟩,
  ⟨some (79, false), some 80, .move (.tmp 9)⟩,
  ⟨some (79, false), some 81, .unOp .not 4 (.tmp 80)⟩,
  ⟨none, some 82, .pick (.tmp 79) (.const (.bool true)) (.tmp 81)⟩,
  ⟨none, some 83, .move (.tmp 82)⟩,
  ⟨some (83, false), some 84, .move (.tmp 11)⟩,
  ⟨some (83, false), some 85, .unOp .not 4 (.tmp 84)⟩,
  ⟨none, some 86, .pick (.tmp 83) (.const (.bool true)) (.tmp 85)⟩] fr h Q := Eq.trans rfl rfl
def s14_91 : GC := .seq (.ops r14_90) s14_89
theorem s14_91_w {E : Env} {nt : Nat} {rd : Option Nat} {fr : Fr} {h : Heap} {Q : Ex → Fr → Heap → Prop} : s14_91.wp E nt rd fr h Q = (GC.seq (.ops r14_90) s14_89).wp E nt rd fr h Q := Eq.trans rfl rfl
def r14_92 : List GO := [⟨none, some 66, .indexAddr 76 (.tmp 12) (.const (.int .i64 0))⟩,
  ⟨none, none, .store 3 (.tmp 66) (.const (.int .i64 1))⟩]
theorem r14_92_w {E : Env} {fr : Fr} {h : Heap} {Q : Fr → Heap → Prop} : opsW E r14_92 fr h Q = opsW E [⟨none, some 66, .indexAddr 76 (.tmp 12) (.const (.int .i64 0))⟩,
  ⟨none, none, .store 3 (.tmp 66) (.const (.int .i64 1))⟩] fr h Q := Eq.trans rfl rfl
def s14_93 : GC := .ops r14_92
theorem s14_93_w {E : Env} {nt : Nat} {rd : Option Nat} {fr : Fr} {h : Heap} {Q : Ex → Fr → Heap → Prop} : s14_93.wp E nt rd fr h Q = (GC.ops r14_92).wp E nt rd fr h Q := Eq.trans rfl rfl
def r14_94 : List GO := [⟨none, some 69, .indexAddr 76 (.tmp 12) (.const (.int .i64 1))⟩,
  ⟨none, none, .store 3 (.tmp 69) (.const (.int .i64 1))⟩]
theorem r14_94_w {E : Env} {fr : Fr} {h : Heap} {Q : Fr → Heap → Prop} : opsW E r14_94 fr h Q = opsW E [⟨none, some 69, .indexAddr 76 (.tmp 12) (.const (.int .i64 1))⟩,
  ⟨none, none, .store 3 (.tmp 69) (.const (.int .i64 1))⟩] fr h Q := Eq.trans rfl rfl
def s14_95 : GC := .ops r14_94
theorem s14_95_w {E : Env} {nt : Nat} {rd : Option Nat} {fr : Fr} {h : Heap} {Q : Ex → Fr → Heap → Prop} : s14_95.wp E nt rd fr h Q = (GC.ops r14_94).wp E nt rd fr h Q := Eq.trans rfl rfl
def r14_96 : List GO := [⟨none, some 72, .indexAddr 76 (.tmp 12) (.const (.int .i64 2))⟩,
  ⟨none, none, .store 3 (.tmp 72) (.const (.int .i64 1))⟩]
theorem r14_96_w {E : Env} {fr : Fr} {h : Heap} {Q : Fr → Heap → Prop} : opsW E r14_96 fr h Q = opsW E [⟨none, some 72, .indexAddr 76 (.tmp 12) (.const (.int .i64 2))⟩,
  ⟨none, none, .store 3 (.tmp 72) (.const (.int .i64 1))⟩] fr h Q := Eq.trans rfl rfl
def s14_97 : GC := .ops r14_96
theorem s14_97_w {E : Env} {nt : Nat} {rd : Option Nat} {fr : Fr} {h : Heap} {Q : Ex → Fr → Heap → Prop} : s14_97.wp E nt rd fr h Q = (GC.ops r14_96).wp E nt rd fr h Q := Eq.trans rfl rfl
def s14_98 : GC := .cond (.tmp 70) s14_97 .skip
theorem s14_98_w {E : Env} {nt : Nat} {rd : Option Nat} {fr : Fr} {h : Heap} {Q : Ex → Fr → Heap → Prop} : s14_98.wp E nt rd fr h Q = (GC.cond (.tmp 70) s14_97 .skip).wp E nt rd fr h Q := Eq.trans rfl rfl
def r14_99 : List GO := [⟨none, some 71, .binOp .eql 60 (.tmp 63) (.const (.int .i64 4)) 60⟩,
  ⟨none, some 70, .assign (.tmp 71)⟩]
theorem r14_99_w {E : Env} {fr : Fr} {h : Heap} {Q : Fr → Heap → Prop} : opsW E r14_99 fr h Q = opsW E [⟨none, some 71, .binOp .eql 60 (.tmp 63) (.const (.int .i64 4)) 60⟩,
  ⟨none, some 70, .assign (.tmp 71)⟩] fr h Q := Eq.trans rfl rfl
def s14_100 : GC := .seq (.ops r14_99) s14_98
theorem s14_100_w {E : Env} {nt : Nat} {rd : Option Nat} {fr : Fr} {h : Heap} {Q : Ex → Fr → Heap → Prop} : s14_100.wp E nt rd fr h Q = (GC.seq (.ops r14_99) s14_98).wp E nt rd fr h Q := Eq.trans rfl rfl
def s14_101 : GC := .cond (.tmp 67) s14_95 s14_100
theorem s14_101_w {E : Env} {nt : Nat} {rd : Option Nat} {fr : Fr} {h : Heap} {Q : Ex → Fr → Heap → Prop} : s14_101.wp E nt rd fr h Q = (GC.cond (.tmp 67) s14_95 s14_100).wp E nt rd fr h Q := Eq.trans rfl rfl
def r14_102 : List GO := [⟨none, some 68, .binOp .eql 60 (.tmp 63) (.const (.int .i64 2)) 60⟩,
  ⟨none, some 67, .assign (.tmp 68)⟩]
theorem r14_102_w {E : Env} {fr : Fr} {h : Heap} {Q : Fr → Heap → Prop} : opsW E r14_102 fr h Q = opsW E [⟨none, some 68, .binOp .eql 60 (.tmp 63) (.const (.int .i64 2)) 60⟩,
  ⟨none, some 67, .assign (.tmp 68)⟩] fr h Q := Eq.trans rfl rfl
def s14_103 : GC := .seq (.ops r14_102) s14_101
theorem s14_103_w {E : Env} {nt : Nat} {rd : Option Nat} {fr : Fr} {h : Heap} {Q : Ex → Fr → Heap → Prop} : s14_103.wp E nt rd fr h Q = (GC.seq (.ops r14_102) s14_101).wp E nt rd fr h Q := Eq.trans rfl rfl
def s14_104 : GC := .cond (.tmp 64) s14_93 s14_103
theorem s14_104_w {E : Env} {nt : Nat} {rd : Option Nat} {fr : Fr} {h : Heap} {Q : Ex → Fr → Heap → Prop} : s14_104.wp E nt rd fr h Q = (GC.cond (.tmp 64) s14_93 s14_103).wp E nt rd fr h Q := Eq.trans rfl rfl
def r14_105 : List GO := [⟨none, some 65, .binOp .eql 60 (.tmp 63) (.const (.int .i64 1)) 60⟩,
  ⟨none, some 64, .assign (.tmp 65)⟩]
theorem r14_105_w {E : Env} {fr : Fr} {h : Heap} {Q : Fr → Heap → Prop} : opsW E r14_105 fr h Q = opsW E [⟨none, some 65, .binOp .eql 60 (.tmp 63) (.const (.int .i64 1)) 60⟩,
  ⟨none, some 64, .assign (.tmp 65)⟩] fr h Q := Eq.trans rfl rfl
def s14_106 : GC := .seq (.ops r14_105) s14_104
theorem s14_106_w {E : Env} {nt : Nat} {rd : Option Nat} {fr : Fr} {h : Heap} {Q : Ex → Fr → Heap → Prop} : s14_106.wp E nt rd fr h Q = (GC.seq (.ops r14_105) s14_104).wp E nt rd fr h Q := Eq.trans rfl rfl
def s14_107 : GC := .block 2 s14_106
theorem s14_107_w {E : Env} {nt : Nat} {rd : Option Nat} {fr : Fr} {h : Heap} {Q : Ex → Fr → Heap → Prop} : s14_107.wp E nt rd fr h Q = (GC.block 2 s14_106).wp E nt rd fr h Q := Eq.trans rfl rfl
def r14_108 : List GO := [⟨none, some 61, .fieldAddr 66 (.tmp 5) 1⟩,
  ⟨none, some 62, .fieldAddr 64 (.tmp 61) 0⟩,
  ⟨none, some 63, .load 60 (.tmp 62)⟩]
theorem r14_108_w {E : Env} {fr : Fr} {h : Heap} {Q : Fr → Heap → Prop} : opsW E r14_108 fr h Q = opsW E [⟨none, some 61, .fieldAddr 66 (.tmp 5) 1⟩,
  ⟨none, some 62, .fieldAddr 64 (.tmp 61) 0⟩,
  ⟨none, some 63, .load 60 (.tmp 62)⟩] fr h Q := Eq.trans rfl rfl
def s14_109 : GC := .seq (.ops r14_108) s14_107
theorem s14_109_w {E : Env} {nt : Nat} {rd : Option Nat} {fr : Fr} {h : Heap} {Q : Ex → Fr → Heap → Prop} : s14_109.wp E nt rd fr h Q = (GC.seq (.ops r14_108) s14_107).wp E nt rd fr h Q := Eq.trans rfl rfl
def s14_110 : GC := .seq (s14_109) s14_91
theorem s14_110_w {E : Env} {nt : Nat} {rd : Option Nat} {fr : Fr} {h : Heap} {Q : Ex → Fr → Heap → Prop} : s14_110.wp E nt rd fr h Q = (GC.seq (s14_109) s14_91).wp E nt rd fr h Q := Eq.trans rfl rfl
def r14_111 : List GO := [⟨none, some 60, .build 76 ⟨[(0, .const (.int .i64 0)), (1, .const (.int .i64 0)), (2, .const (.int .i64 0))]⟩⟩,
  ⟨none, some 12, .alloc 76⟩,
  ⟨none, none, .store 76 (.tmp 12) (.tmp 60)⟩]
theorem r14_111_w {E : Env} {fr : Fr} {h : Heap} {Q : Fr → Heap → Prop} : opsW E r14_111 fr h Q = opsW E [⟨none, some 60, .build 76 ⟨[(0, .const (.int .i64 0)), (1, .const (.int .i64 0)), (2, .const (.int .i64 0))]⟩⟩,
  ⟨none, some 12, .alloc 76⟩,
  ⟨none, none, .store 76 (.tmp 12) (.tmp 60)⟩] fr h Q := Eq.trans rfl rfl
def s14_112 : GC := .seq (.ops r14_111) s14_110
theorem s14_112_w {E : Env} {nt : Nat} {rd : Option Nat} {fr : Fr} {h : Heap} {Q : Ex → Fr → Heap → Prop} : s14_112.wp E nt rd fr h Q = (GC.seq (.ops r14_111) s14_110).wp E nt rd fr h Q := Eq.trans rfl rfl
def r14_113 : List GO := [⟨none, some 52, .load 45 (.tmp 1)⟩,
  ⟨none, some 53, .move (.tmp 6)⟩,
  ⟨none, some 54, .fieldAddr 66 (.tmp 5) 1⟩,
  ⟨none, some 55, .fieldAddr 64 (.tmp 54) 9⟩,
  ⟨none, some 56, .load 22 (.tmp 55)⟩,
  ⟨none, some 57, .call ⟨.value (.func 24), ⟨[.tmp 52, .tmp 53, .tmp 56]⟩, ⟨[45, 3, 22]⟩⟩⟩,
  ⟨none, some 51, .move (.tmp 57)⟩,
  ⟨none, some 58, .extract (.tmp 51) 0⟩,
  ⟨none, some 59, .extract (.tmp 51) 1⟩,
  ⟨none, some 10, .assign (.tmp 58)⟩,
  ⟨none, some 11, .assign (.tmp 59)⟩]
theorem r14_113_w {E : Env} {fr : Fr} {h : Heap} {Q : Fr → Heap → Prop} : opsW E r14_113 fr h Q = opsW E [⟨none, some 52, .load 45 (.tmp 1)⟩,
  ⟨none, some 53, .move (.tmp 6)⟩,
  ⟨none, some 54, .fieldAddr 66 (.tmp 5) 1⟩,
  ⟨none, some 55, .fieldAddr 64 (.tmp 54) 9⟩,
  ⟨none, some 56, .load 22 (.tmp 55)⟩,
  ⟨none, some 57, .call ⟨.value (.func 24), ⟨[.tmp 52, .tmp 53, .tmp 56]⟩, ⟨[45, 3, 22]⟩⟩⟩,
  ⟨none, some 51, .move (.tmp 57)⟩,
  ⟨none, some 58, .extract (.tmp 51) 0⟩,
  ⟨none, some 59, .extract (.tmp 51) 1⟩,
  ⟨none, some 10, .assign (.tmp 58)⟩,
  ⟨none, some 11, .assign (.tmp 59)⟩] fr h Q := Eq.trans rfl rfl
def s14_114 : GC := .seq (.ops r14_113) s14_112
theorem s14_114_w {E : Env} {nt : Nat} {rd : Option Nat} {fr : Fr} {h : Heap} {Q : Ex → Fr → Heap → Prop} : s14_114.wp E nt rd fr h Q = (GC.seq (.ops r14_113) s14_112).wp E nt rd fr h Q := Eq.trans rfl rfl
def r14_115 : List GO := [⟨none, some 43, .load 45 (.tmp 1)⟩,
  ⟨none, some 44, .move (.tmp 6)⟩,
  ⟨none, some 45, .fieldAddr 66 (.tmp 5) 1⟩,
  ⟨none, some 46, .fieldAddr 64 (.tmp 45) 4⟩,
  ⟨none, some 47, .load 5 (.tmp 46)⟩,
  ⟨none, some 48, .call ⟨.value (.func 23), ⟨[.tmp 43, .tmp 44, .tmp 47]⟩, ⟨[45, 3, 5]⟩⟩⟩,
  ⟨none, some 42, .move (.tmp 48)⟩,
  ⟨none, some 49, .extract (.tmp 42) 0⟩,
  ⟨none, some 50, .extract (.tmp 42) 1⟩,
  ⟨none, some 8, .assign (.tmp 49)⟩,
  ⟨none, some 9, .assign (.tmp 50)⟩]
theorem r14_115_w {E : Env} {fr : Fr} {h : Heap} {Q : Fr → Heap → Prop} : opsW E r14_115 fr h Q = opsW E [⟨none, some 43, .load 45 (.tmp 1)⟩,
  ⟨none, some 44, .move (.tmp 6)⟩,
  ⟨none, some 45, .fieldAddr 66 (.tmp 5) 1⟩,
  ⟨none, some 46, .fieldAddr 64 (.tmp 45) 4⟩,
  ⟨none, some 47, .load 5 (.tmp 46)⟩,
  ⟨none, some 48, .call ⟨.value (.func 23), ⟨[.tmp 43, .tmp 44, .tmp 47]⟩, ⟨[45, 3, 5]⟩⟩⟩,
  ⟨none, some 42, .move (.tmp 48)⟩,
  ⟨none, some 49, .extract (.tmp 42) 0⟩,
  ⟨none, some 50, .extract (.tmp 42) 1⟩,
  ⟨none, some 8, .assign (.tmp 49)⟩,
  ⟨none, some 9, .assign (.tmp 50)⟩] fr h Q := Eq.trans rfl rfl
def s14_116 : GC := .seq (.ops r14_115) s14_114
theorem s14_116_w {E : Env} {nt : Nat} {rd : Option Nat} {fr : Fr} {h : Heap} {Q : Ex → Fr → Heap → Prop} : s14_116.wp E nt rd fr h Q = (GC.seq (.ops r14_115) s14_114).wp E nt rd fr h Q := Eq.trans rfl rfl
def r14_117 : List GO := [⟨none, some 39, .load 45 (.tmp 1)⟩,
  ⟨none, some 40, .move (.tmp 6)⟩,
  ⟨none, some 41, .call ⟨.value (.func 22), ⟨[.tmp 39, .tmp 40]⟩, ⟨[45, 3]⟩⟩⟩,
  ⟨none, some 7, .assign (.tmp 41)⟩]
theorem r14_117_w {E : Env} {fr : Fr} {h : Heap} {Q : Fr → Heap → Prop} : opsW E r14_117 fr h Q = opsW E [⟨none, some 39, .load 45 (.tmp 1)⟩,
  ⟨none, some 40, .move (.tmp 6)⟩,
  ⟨none, some 41, .call ⟨.value (.func 22), ⟨[.tmp 39, .tmp 40]⟩, ⟨[45, 3]⟩⟩⟩,
  ⟨none, some 7, .assign (.tmp 41)⟩] fr h Q := Eq.trans rfl rfl
def s14_118 : GC := .seq (.ops r14_117) s14_116
theorem s14_118_w {E : Env} {nt : Nat} {rd : Option Nat} {fr : Fr} {h : Heap} {Q : Ex → Fr → Heap → Prop} : s14_118.wp E nt rd fr h Q = (GC.seq (.ops r14_117) s14_116).wp E nt rd fr h Q := Eq.trans rfl rfl
def r14_119 : List GO := [⟨none, some 35, .move (.tmp 3)⟩,
  ⟨none, some 36, .move (.tmp 6)⟩,
  ⟨none, some 37, .buildSlice 38 1 ⟨[(0, .tmp 36)]⟩⟩,
  ⟨none, some 38, .call ⟨.builtin .append, ⟨[.tmp 35, .tmp 37]⟩, ⟨[38, 38]⟩⟩⟩,
  ⟨none, some 3, .assign (.tmp 38)⟩]
theorem r14_119_w {E : Env} {fr : Fr} {h : Heap} {Q : Fr → Heap → Prop} : opsW E r14_119 fr h Q = opsW E [⟨none, some 35, .move (.tmp 3)⟩,
  ⟨none, some 36, .move (.tmp 6)⟩,
  ⟨none, some 37, .buildSlice 38 1 ⟨[(0, .tmp 36)]⟩⟩,
  ⟨none, some 38, .call ⟨.builtin .append, ⟨[.tmp 35, .tmp 37]⟩, ⟨[38, 38]⟩⟩⟩,
  ⟨none, some 3, .assign (.tmp 38)⟩] fr h Q := Eq.trans rfl rfl
def s14_120 : GC := .seq (.ops r14_119) s14_118
theorem s14_120_w {E : Env} {nt : Nat} {rd : Option Nat} {fr : Fr} {h : Heap} {Q : Ex → Fr → Heap → Prop} : s14_120.wp E nt rd fr h Q = (GC.seq (.ops r14_119) s14_118).wp E nt rd fr h Q := Eq.trans rfl rfl
def r14_121 : List GO := [⟨none, some 32, .fieldAddr 66 (.tmp 5) 0⟩,
  ⟨none, some 33, .fieldAddr 59 (.tmp 32) 0⟩,
  ⟨none, some 34, .load 3 (.tmp 33)⟩,
  ⟨none, some 6, .assign (.tmp 34)⟩]
theorem r14_121_w {E : Env} {fr : Fr} {h : Heap} {Q : Fr → Heap → Prop} : opsW E r14_121 fr h Q = opsW E [⟨none, some 32, .fieldAddr 66 (.tmp 5) 0⟩,
  ⟨none, some 33, .fieldAddr 59 (.tmp 32) 0⟩,
  ⟨none, some 34, .load 3 (.tmp 33)⟩,
  ⟨none, some 6, .assign (.tmp 34)⟩] fr h Q := Eq.trans rfl rfl
def s14_122 : GC := .seq (.ops r14_121) s14_120
theorem s14_122_w {E : Env} {nt : Nat} {rd : Option Nat} {fr : Fr} {h : Heap} {Q : Ex → Fr → Heap → Prop} : s14_122.wp E nt rd fr h Q = (GC.seq (.ops r14_121) s14_120).wp E nt rd fr h Q := Eq.trans rfl rfl
def r14_123 : List GO := [⟨none, some 27, .fieldAddr 45 (.tmp 1) 1⟩,
  ⟨none, some 28, .load 34 (.tmp 27)⟩,
  ⟨none, some 29, .move (.tmp 4)⟩,
  ⟨none, some 30, .indexAddr 34 (.tmp 28) (.tmp 29)⟩,
  ⟨none, some 31, .load 66 (.tmp 30)⟩,
  ⟨none, some 5, .alloc 66⟩,
  ⟨none, none, .store 66 (.tmp 5) (.tmp 31)⟩]
theorem r14_123_w {E : Env} {fr : Fr} {h : Heap} {Q : Fr → Heap → Prop} : opsW E r14_123 fr h Q = opsW E [⟨none, some 27, .fieldAddr 45 (.tmp 1) 1⟩,
  ⟨none, some 28, .load 34 (.tmp 27)⟩,
  ⟨none, some 29, .move (.tmp 4)⟩,
  ⟨none, some 30, .indexAddr 34 (.tmp 28) (.tmp 29)⟩,
  ⟨none, some 31, .load 66 (.tmp 30)⟩,
  ⟨none, some 5, .alloc 66⟩,
  ⟨none, none, .store 66 (.tmp 5) (.tmp 31)⟩] fr h Q := Eq.trans rfl rfl
def s14_124 : GC := .seq (.ops r14_123) s14_122
theorem s14_124_w {E : Env} {nt : Nat} {rd : Option Nat} {fr : Fr} {h : Heap} {Q : Ex → Fr → Heap → Prop} : s14_124.wp E nt rd fr h Q = (GC.seq (.ops r14_123) s14_122).wp E nt rd fr h Q := Eq.trans rfl rfl
def s14_125 : GC := .seq (.block 1 s14_124) s14_86
theorem s14_125_w {E : Env} {nt : Nat} {rd : Option Nat} {fr : Fr} {h : Heap} {Q : Ex → Fr → Heap → Prop} : s14_125.wp E nt rd fr h Q = (GC.seq (.block 1 s14_124) s14_86).wp E nt rd fr h Q := Eq.trans rfl rfl
def s14_126 : GC := .cond (.tmp 24) .skip (.exit 0)
theorem s14_126_w {E : Env} {nt : Nat} {rd : Option Nat} {fr : Fr} {h : Heap} {Q : Ex → Fr → Heap → Prop} : s14_126.wp E nt rd fr h Q = (GC.cond (.tmp 24) .skip (.exit 0)).wp E nt rd fr h Q := Eq.trans rfl rfl
def r14_127 : List GO := [⟨none, some 20, .move (.tmp 4)⟩,
  ⟨none, some 21, .fieldAddr 45 (.tmp 1) 1⟩,
  ⟨none, some 22, .load 34 (.tmp 21)⟩,
  ⟨none, some 23, .call ⟨.builtin .len, ⟨[.tmp 22]⟩, ⟨[34]⟩⟩⟩,
  ⟨none, some 24, .binOp .lss 3 (.tmp 20) (.tmp 23) 3⟩]
theorem r14_127_w {E : Env} {fr : Fr} {h : Heap} {Q : Fr → Heap → Prop} : opsW E r14_127 fr h Q = opsW E [⟨none, some 20, .move (.tmp 4)⟩,
  ⟨none, some 21, .fieldAddr 45 (.tmp 1) 1⟩,
  ⟨none, some 22, .load 34 (.tmp 21)⟩,
  ⟨none, some 23, .call ⟨.builtin .len, ⟨[.tmp 22]⟩, ⟨[34]⟩⟩⟩,
  ⟨none, some 24, .binOp .lss 3 (.tmp 20) (.tmp 23) 3⟩] fr h Q := Eq.trans rfl rfl
def s14_128 : GC := .seq (.ops r14_127) s14_126
theorem s14_128_w {E : Env} {nt : Nat} {rd : Option Nat} {fr : Fr} {h : Heap} {Q : Ex → Fr → Heap → Prop} : s14_128.wp E nt rd fr h Q = (GC.seq (.ops r14_127) s14_126).wp E nt rd fr h Q := Eq.trans rfl rfl
def s14_129 : GC := .seq (s14_128) s14_125
theorem s14_129_w {E : Env} {nt : Nat} {rd : Option Nat} {fr : Fr} {h : Heap} {Q : Ex → Fr → Heap → Prop} : s14_129.wp E nt rd fr h Q = (GC.seq (s14_128) s14_125).wp E nt rd fr h Q := Eq.trans rfl rfl
def s14_130 : GC := .loop s14_129
theorem s14_130_w {E : Env} {nt : Nat} {rd : Option Nat} {fr : Fr} {h : Heap} {Q : Ex → Fr → Heap → Prop} : s14_130.wp E nt rd fr h Q = (GC.loop s14_129).wp E nt rd fr h Q := Eq.trans rfl rfl
def s14_131 : GC := .block 0 s14_130
theorem s14_131_w {E : Env} {nt : Nat} {rd : Option Nat} {fr : Fr} {h : Heap} {Q : Ex → Fr → Heap → Prop} : s14_131.wp E nt rd fr h Q = (GC.block 0 s14_130).wp E nt rd fr h Q := Eq.trans rfl rfl
def r14_132 : List GO := [⟨none, some 4, .assign (.const (.int .i64 0))⟩]
theorem r14_132_w {E : Env} {fr : Fr} {h : Heap} {Q : Fr → Heap → Prop} : opsW E r14_132 fr h Q = opsW E [⟨none, some 4, .assign (.const (.int .i64 0))⟩] fr h Q := Eq.trans rfl rfl
def s14_133 : GC := .seq (.ops r14_132) s14_131
theorem s14_133_w {E : Env} {nt : Nat} {rd : Option Nat} {fr : Fr} {h : Heap} {Q : Ex → Fr → Heap → Prop} : s14_133.wp E nt rd fr h Q = (GC.seq (.ops r14_132) s14_131).wp E nt rd fr h Q := Eq.trans rfl rfl
def s14_134 : GC := .seq (s14_133) s14_84
theorem s14_134_w {E : Env} {nt : Nat} {rd : Option Nat} {fr : Fr} {h : Heap} {Q : Ex → Fr → Heap → Prop} : s14_134.wp E nt rd fr h Q = (GC.seq (s14_133) s14_84).wp E nt rd fr h Q := Eq.trans rfl rfl
def r14_135 : List GO := [⟨none, some 19, .buildSlice 38 0 ⟨[]⟩⟩,
  ⟨none, some 3, .assign (.tmp 19)⟩]
theorem r14_135_w {E : Env} {fr : Fr} {h : Heap} {Q : Fr → Heap → Prop} : opsW E r14_135 fr h Q = opsW E [⟨none, some 19, .buildSlice 38 0 ⟨[]⟩⟩,
  ⟨none, some 3, .assign (.tmp 19)⟩] fr h Q := Eq.trans rfl rfl
def s14_136 : GC := .seq (.ops r14_135) s14_134
theorem s14_136_w {E : Env} {nt : Nat} {rd : Option Nat} {fr : Fr} {h : Heap} {Q : Ex → Fr → Heap → Prop} : s14_136.wp E nt rd fr h Q = (GC.seq (.ops r14_135) s14_134).wp E nt rd fr h Q := Eq.trans rfl rfl
def r14_137 : List GO := [⟨none, some 1, .box 45 (.tmp 0)⟩,
  ⟨none, some 2, .assign (.const (.bool false))⟩]
theorem r14_137_w {E : Env} {fr : Fr} {h : Heap} {Q : Fr → Heap → Prop} : opsW E r14_137 fr h Q = opsW E [⟨none, some 1, .box 45 (.tmp 0)⟩,
  ⟨none, some 2, .assign (.const (.bool false))⟩] fr h Q := Eq.trans rfl rfl
def s14_138 : GC := .seq (.ops r14_137) s14_136
theorem s14_138_w {E : Env} {nt : Nat} {rd : Option Nat} {fr : Fr} {h : Heap} {Q : Ex → Fr → Heap → Prop} : s14_138.wp E nt rd fr h Q = (GC.seq (.ops r14_137) s14_136).wp E nt rd fr h Q := Eq.trans rfl rfl
theorem c14 : Try.f14.body.bind (clean env 185) = some s14_138 := by kernel_rfl
theorem e14 : env.funs.get 14 = some Try.f14 := by kernel_rfl
theorem F14 {args : List Value} {h : Heap} {K : Value → Heap → Prop} (hl : args.length = 1) (w : s14_138.wp env 185 none (setAll args 0 .leaf) h (resK env [.tmp 2] K)) : Ret env (.func 14) args h K :=
  Ret.of_body' rfl e14 c14 rfl rfl (by rw [hl]; decide) w
/-! helmsman/fair.counted -/
def r21_0 : List GO := [⟨none, some 100, .load 67 (.tmp 2)⟩,
  ⟨none, some 101, .move (.tmp 3)⟩,
  ⟨none, none, .store 67 (.tmp 2) (.tmp 100)⟩,
  ⟨none, some 3, .assign (.tmp 101)⟩]
theorem r21_0_w {E : Env} {fr : Fr} {h : Heap} {Q : Fr → Heap → Prop} : opsW E r21_0 fr h Q = opsW E [⟨none, some 100, .load 67 (.tmp 2)⟩,
  ⟨none, some 101, .move (.tmp 3)⟩,
  ⟨none, none, .store 67 (.tmp 2) (.tmp 100)⟩,
  ⟨none, some 3, .assign (.tmp 101)⟩] fr h Q := Eq.trans rfl rfl
def s21_1 : GC := .seq (.ops r21_0) .ret
theorem s21_1_w {E : Env} {nt : Nat} {rd : Option Nat} {fr : Fr} {h : Heap} {Q : Ex → Fr → Heap → Prop} : s21_1.wp E nt rd fr h Q = (GC.seq (.ops r21_0) .ret).wp E nt rd fr h Q := Eq.trans rfl rfl
def r21_2 : List GO := [⟨none, some 99, .binOp .add 3 (.tmp 80) (.const (.int .i64 1)) 3⟩,
  ⟨none, some 80, .move (.tmp 99)⟩]
theorem r21_2_w {E : Env} {fr : Fr} {h : Heap} {Q : Fr → Heap → Prop} : opsW E r21_2 fr h Q = opsW E [⟨none, some 99, .binOp .add 3 (.tmp 80) (.const (.int .i64 1)) 3⟩,
  ⟨none, some 80, .move (.tmp 99)⟩] fr h Q := Eq.trans rfl rfl
def s21_3 : GC := .ops r21_2
theorem s21_3_w {E : Env} {nt : Nat} {rd : Option Nat} {fr : Fr} {h : Heap} {Q : Ex → Fr → Heap → Prop} : s21_3.wp E nt rd fr h Q = (GC.ops r21_2).wp E nt rd fr h Q := Eq.trans rfl rfl
def p21_4 : List (GO × List GO) := [(⟨none, some 88, .move (.tmp 3)⟩, []),
  (⟨none, some 89, .move (.tmp 88)⟩, []),
  (⟨some (89, true), some 90, .move (.tmp 6)⟩, []),
  (⟨some (89, true), some 91, .fieldAddr 78 (.tmp 14) 1⟩, []),
  (⟨some (89, true), some 92, .load 3 (.tmp 91)⟩, []),
  (⟨some (89, true), some 95, .fieldAddr 78 (.tmp 14) 0⟩, []),
  (⟨some (89, true), some 96, .load 22 (.tmp 95)⟩, []),
  (⟨some (89, true), some 93, .call ⟨.value (.tmp 90), ⟨[.tmp 92]⟩, ⟨[3]⟩⟩⟩, [⟨some (89, true), some 96, .load 22 (.tmp 95)⟩]),
  (⟨some (89, true), some 94, .field 64 (.tmp 93) 9⟩, []),
  (⟨some (89, true), some 97, .binOp .eql 22 (.tmp 94) (.tmp 96) 22⟩, []),
  (⟨none, some 98, .pick (.tmp 89) (.tmp 97) (.const (.bool false))⟩, []),
  (⟨none, some 3, .assign (.tmp 98)⟩, [])]
theorem p21_4_w {E : Env} {fr : Fr} {h : Heap} {Q : Fr → Heap → Prop} : planW E p21_4 fr h Q = planW E [(⟨none, some 88, .move (.tmp 3)⟩, []),
  (⟨none, some 89, .move (.tmp 88)⟩, []),
  (⟨some (89, true), some 90, .move (.tmp 6)⟩, []),
  (⟨some (89, true), some 91, .fieldAddr 78 (.tmp 14) 1⟩, []),
  (⟨some (89, true), some 92, .load 3 (.tmp 91)⟩, []),
  (⟨some (89, true), some 95, .fieldAddr 78 (.tmp 14) 0⟩, []),
  (⟨some (89, true), some 96, .load 22 (.tmp 95)⟩, []),
  (⟨some (89, true), some 93, .call ⟨.value (.tmp 90), ⟨[.tmp 92]⟩, ⟨[3]⟩⟩⟩, [⟨some (89, true), some 96, .load 22 (.tmp 95)⟩]),
  (⟨some (89, true), some 94, .field 64 (.tmp 93) 9⟩, []),
  (⟨some (89, true), some 97, .binOp .eql 22 (.tmp 94) (.tmp 96) 22⟩, []),
  (⟨none, some 98, .pick (.tmp 89) (.tmp 97) (.const (.bool false))⟩, []),
  (⟨none, some 3, .assign (.tmp 98)⟩, [])] fr h Q := Eq.trans rfl rfl
def s21_5 : GC := .plan p21_4
theorem s21_5_w {E : Env} {nt : Nat} {rd : Option Nat} {fr : Fr} {h : Heap} {Q : Ex → Fr → Heap → Prop} : s21_5.wp E nt rd fr h Q = (GC.plan p21_4).wp E nt rd fr h Q := Eq.trans rfl rfl
def r21_6 : List GO := [⟨none, some 84, .move (.tmp 4)⟩,
  ⟨none, some 85, .fieldAddr 78 (.tmp 14) 1⟩,
  ⟨none, some 86, .load 3 (.tmp 85)⟩,
  ⟨none, some 87, .call ⟨.value (.tmp 84), ⟨[.tmp 86, .func 52]⟩, ⟨[3, 116]⟩⟩⟩]
theorem r21_6_w {E : Env} {fr : Fr} {h : Heap} {Q : Fr → Heap → Prop} : opsW E r21_6 fr h Q = opsW E [⟨none, some 84, .move (.tmp 4)⟩,
  ⟨none, some 85, .fieldAddr 78 (.tmp 14) 1⟩,
  ⟨none, some 86, .load 3 (.tmp 85)⟩,
  ⟨none, some 87, .call ⟨.value (.tmp 84), ⟨[.tmp 86, .func 52]⟩, ⟨[3, 116]⟩⟩⟩] fr h Q := Eq.trans rfl rfl
def s21_7 : GC := .seq (.ops r21_6) s21_5
theorem s21_7_w {E : Env} {nt : Nat} {rd : Option Nat} {fr : Fr} {h : Heap} {Q : Ex → Fr → Heap → Prop} : s21_7.wp E nt rd fr h Q = (GC.seq (.ops r21_6) s21_5).wp E nt rd fr h Q := Eq.trans rfl rfl
def r21_8 : List GO := [⟨none, some 82, .indexAddr 43 (.tmp 78) (.tmp 80)⟩,
  ⟨none, some 83, .load 78 (.tmp 82)⟩,
  ⟨none, some 14, .alloc 78⟩,
  ⟨none, none, .store 78 (.tmp 14) (.tmp 83)⟩]
theorem r21_8_w {E : Env} {fr : Fr} {h : Heap} {Q : Fr → Heap → Prop} : opsW E r21_8 fr h Q = opsW E [⟨none, some 82, .indexAddr 43 (.tmp 78) (.tmp 80)⟩,
  ⟨none, some 83, .load 78 (.tmp 82)⟩,
  ⟨none, some 14, .alloc 78⟩,
  ⟨none, none, .store 78 (.tmp 14) (.tmp 83)⟩] fr h Q := Eq.trans rfl rfl
def s21_9 : GC := .seq (.ops r21_8) s21_7
theorem s21_9_w {E : Env} {nt : Nat} {rd : Option Nat} {fr : Fr} {h : Heap} {Q : Ex → Fr → Heap → Prop} : s21_9.wp E nt rd fr h Q = (GC.seq (.ops r21_8) s21_7).wp E nt rd fr h Q := Eq.trans rfl rfl
def s21_10 : GC := .seq (.block 7 s21_9) s21_3
theorem s21_10_w {E : Env} {nt : Nat} {rd : Option Nat} {fr : Fr} {h : Heap} {Q : Ex → Fr → Heap → Prop} : s21_10.wp E nt rd fr h Q = (GC.seq (.block 7 s21_9) s21_3).wp E nt rd fr h Q := Eq.trans rfl rfl
def s21_11 : GC := .cond (.tmp 81) .skip (.exit 6)
theorem s21_11_w {E : Env} {nt : Nat} {rd : Option Nat} {fr : Fr} {h : Heap} {Q : Ex → Fr → Heap → Prop} : s21_11.wp E nt rd fr h Q = (GC.cond (.tmp 81) .skip (.exit 6)).wp E nt rd fr h Q := Eq.trans rfl rfl
def s21_12 : GC := .seq (s21_11) s21_10
theorem s21_12_w {E : Env} {nt : Nat} {rd : Option Nat} {fr : Fr} {h : Heap} {Q : Ex → Fr → Heap → Prop} : s21_12.wp E nt rd fr h Q = (GC.seq (s21_11) s21_10).wp E nt rd fr h Q := Eq.trans rfl rfl
def r21_13 : List GO := [⟨none, some 81, .binOp .lss 3 (.tmp 80) (.tmp 79) 3⟩]
theorem r21_13_w {E : Env} {fr : Fr} {h : Heap} {Q : Fr → Heap → Prop} : opsW E r21_13 fr h Q = opsW E [⟨none, some 81, .binOp .lss 3 (.tmp 80) (.tmp 79) 3⟩] fr h Q := Eq.trans rfl rfl
def s21_14 : GC := .seq (.ops r21_13) s21_12
theorem s21_14_w {E : Env} {nt : Nat} {rd : Option Nat} {fr : Fr} {h : Heap} {Q : Ex → Fr → Heap → Prop} : s21_14.wp E nt rd fr h Q = (GC.seq (.ops r21_13) s21_12).wp E nt rd fr h Q := Eq.trans rfl rfl
def s21_15 : GC := .loop s21_14
theorem s21_15_w {E : Env} {nt : Nat} {rd : Option Nat} {fr : Fr} {h : Heap} {Q : Ex → Fr → Heap → Prop} : s21_15.wp E nt rd fr h Q = (GC.loop s21_14).wp E nt rd fr h Q := Eq.trans rfl rfl
def s21_16 : GC := .block 6 s21_15
theorem s21_16_w {E : Env} {nt : Nat} {rd : Option Nat} {fr : Fr} {h : Heap} {Q : Ex → Fr → Heap → Prop} : s21_16.wp E nt rd fr h Q = (GC.block 6 s21_15).wp E nt rd fr h Q := Eq.trans rfl rfl
def r21_17 : List GO := [⟨none, some 77, .fieldAddr 45 (.tmp 1) 6⟩,
  ⟨none, some 78, .load 43 (.tmp 77)⟩,
  ⟨none, some 79, .call ⟨.builtin .len, ⟨[.tmp 78]⟩, ⟨[43]⟩⟩⟩,
  ⟨none, some 80, .move (.const (.int .i64 0))⟩]
theorem r21_17_w {E : Env} {fr : Fr} {h : Heap} {Q : Fr → Heap → Prop} : opsW E r21_17 fr h Q = opsW E [⟨none, some 77, .fieldAddr 45 (.tmp 1) 6⟩,
  ⟨none, some 78, .load 43 (.tmp 77)⟩,
  ⟨none, some 79, .call ⟨.builtin .len, ⟨[.tmp 78]⟩, ⟨[43]⟩⟩⟩,
  ⟨none, some 80, .move (.const (.int .i64 0))⟩] fr h Q := Eq.trans rfl rfl
def s21_18 : GC := .seq (.ops r21_17) s21_16
theorem s21_18_w {E : Env} {nt : Nat} {rd : Option Nat} {fr : Fr} {h : Heap} {Q : Ex → Fr → Heap → Prop} : s21_18.wp E nt rd fr h Q = (GC.seq (.ops r21_17) s21_16).wp E nt rd fr h Q := Eq.trans rfl rfl
def s21_19 : GC := .seq (s21_18) s21_1
theorem s21_19_w {E : Env} {nt : Nat} {rd : Option Nat} {fr : Fr} {h : Heap} {Q : Ex → Fr → Heap → Prop} : s21_19.wp E nt rd fr h Q = (GC.seq (s21_18) s21_1).wp E nt rd fr h Q := Eq.trans rfl rfl
def r21_20 : List GO := [⟨none, some 76, .binOp .add 3 (.tmp 68) (.const (.int .i64 1)) 3⟩,
  ⟨none, some 68, .move (.tmp 76)⟩]
theorem r21_20_w {E : Env} {fr : Fr} {h : Heap} {Q : Fr → Heap → Prop} : opsW E r21_20 fr h Q = opsW E [⟨none, some 76, .binOp .add 3 (.tmp 68) (.const (.int .i64 1)) 3⟩,
  ⟨none, some 68, .move (.tmp 76)⟩] fr h Q := Eq.trans rfl rfl
def s21_21 : GC := .ops r21_20
theorem s21_21_w {E : Env} {nt : Nat} {rd : Option Nat} {fr : Fr} {h : Heap} {Q : Ex → Fr → Heap → Prop} : s21_21.wp E nt rd fr h Q = (GC.ops r21_20).wp E nt rd fr h Q := Eq.trans rfl rfl
def r21_22 : List GO := [⟨none, some 72, .move (.tmp 4)⟩,
  ⟨none, some 73, .move (.tmp 12)⟩,
  ⟨none, some 74, .move (.tmp 5)⟩,
  ⟨none, some 75, .call ⟨.value (.tmp 72), ⟨[.tmp 73, .tmp 74]⟩, ⟨[3, 116]⟩⟩⟩]
theorem r21_22_w {E : Env} {fr : Fr} {h : Heap} {Q : Fr → Heap → Prop} : opsW E r21_22 fr h Q = opsW E [⟨none, some 72, .move (.tmp 4)⟩,
  ⟨none, some 73, .move (.tmp 12)⟩,
  ⟨none, some 74, .move (.tmp 5)⟩,
  ⟨none, some 75, .call ⟨.value (.tmp 72), ⟨[.tmp 73, .tmp 74]⟩, ⟨[3, 116]⟩⟩⟩] fr h Q := Eq.trans rfl rfl
def s21_23 : GC := .ops r21_22
theorem s21_23_w {E : Env} {nt : Nat} {rd : Option Nat} {fr : Fr} {h : Heap} {Q : Ex → Fr → Heap → Prop} : s21_23.wp E nt rd fr h Q = (GC.ops r21_22).wp E nt rd fr h Q := Eq.trans rfl rfl
def r21_24 : List GO := [⟨none, some 70, .indexAddr 38 (.tmp 66) (.tmp 68)⟩,
  ⟨none, some 71, .load 3 (.tmp 70)⟩,
  ⟨none, some 12, .assign (.tmp 71)⟩]
theorem r21_24_w {E : Env} {fr : Fr} {h : Heap} {Q : Fr → Heap → Prop} : opsW E r21_24 fr h Q = opsW E [⟨none, some 70, .indexAddr 38 (.tmp 66) (.tmp 68)⟩,
  ⟨none, some 71, .load 3 (.tmp 70)⟩,
  ⟨none, some 12, .assign (.tmp 71)⟩] fr h Q := Eq.trans rfl rfl
def s21_25 : GC := .seq (.ops r21_24) s21_23
theorem s21_25_w {E : Env} {nt : Nat} {rd : Option Nat} {fr : Fr} {h : Heap} {Q : Ex → Fr → Heap → Prop} : s21_25.wp E nt rd fr h Q = (GC.seq (.ops r21_24) s21_23).wp E nt rd fr h Q := Eq.trans rfl rfl
def s21_26 : GC := .seq (.block 5 s21_25) s21_21
theorem s21_26_w {E : Env} {nt : Nat} {rd : Option Nat} {fr : Fr} {h : Heap} {Q : Ex → Fr → Heap → Prop} : s21_26.wp E nt rd fr h Q = (GC.seq (.block 5 s21_25) s21_21).wp E nt rd fr h Q := Eq.trans rfl rfl
def s21_27 : GC := .cond (.tmp 69) .skip (.exit 4)
theorem s21_27_w {E : Env} {nt : Nat} {rd : Option Nat} {fr : Fr} {h : Heap} {Q : Ex → Fr → Heap → Prop} : s21_27.wp E nt rd fr h Q = (GC.cond (.tmp 69) .skip (.exit 4)).wp E nt rd fr h Q := Eq.trans rfl rfl
def s21_28 : GC := .seq (s21_27) s21_26
theorem s21_28_w {E : Env} {nt : Nat} {rd : Option Nat} {fr : Fr} {h : Heap} {Q : Ex → Fr → Heap → Prop} : s21_28.wp E nt rd fr h Q = (GC.seq (s21_27) s21_26).wp E nt rd fr h Q := Eq.trans rfl rfl
def r21_29 : List GO := [⟨none, some 69, .binOp .lss 3 (.tmp 68) (.tmp 67) 3⟩]
theorem r21_29_w {E : Env} {fr : Fr} {h : Heap} {Q : Fr → Heap → Prop} : opsW E r21_29 fr h Q = opsW E [⟨none, some 69, .binOp .lss 3 (.tmp 68) (.tmp 67) 3⟩] fr h Q := Eq.trans rfl rfl
def s21_30 : GC := .seq (.ops r21_29) s21_28
theorem s21_30_w {E : Env} {nt : Nat} {rd : Option Nat} {fr : Fr} {h : Heap} {Q : Ex → Fr → Heap → Prop} : s21_30.wp E nt rd fr h Q = (GC.seq (.ops r21_29) s21_28).wp E nt rd fr h Q := Eq.trans rfl rfl
def s21_31 : GC := .loop s21_30
theorem s21_31_w {E : Env} {nt : Nat} {rd : Option Nat} {fr : Fr} {h : Heap} {Q : Ex → Fr → Heap → Prop} : s21_31.wp E nt rd fr h Q = (GC.loop s21_30).wp E nt rd fr h Q := Eq.trans rfl rfl
def s21_32 : GC := .block 4 s21_31
theorem s21_32_w {E : Env} {nt : Nat} {rd : Option Nat} {fr : Fr} {h : Heap} {Q : Ex → Fr → Heap → Prop} : s21_32.wp E nt rd fr h Q = (GC.block 4 s21_31).wp E nt rd fr h Q := Eq.trans rfl rfl
def p21_33 : List (GO × List GO) := [(⟨none, some 57, .fieldAddr 45 (.tmp 1) 5⟩, []),
  (⟨none, some 58, .fieldAddr 42 (.tmp 57) 2⟩, []),
  (⟨none, some 59, .load 39 (.tmp 58)⟩, []),
  (⟨none, some 61, .fieldAddr 45 (.tmp 1) 5⟩, []),
  (⟨none, some 62, .fieldAddr 42 (.tmp 61) 5⟩, []),
  (⟨none, some 63, .load 38 (.tmp 62)⟩, []),
  (⟨none, some 64, .buildSlice 39 1 ⟨[(0, .tmp 63)]⟩⟩, []),
  (⟨none, some 68, .move (.const (.int .i64 0))⟩, []),
  (⟨none, some 60, .call ⟨.value (.func 51), ⟨[.tmp 59]⟩, ⟨[39]⟩⟩⟩, [⟨none, some 63, .load 38 (.tmp 62)⟩]),
  (⟨none, some 65, .call ⟨.builtin .append, ⟨[.tmp 60, .tmp 64]⟩, ⟨[39, 39]⟩⟩⟩, []),
  (⟨none, some 66, .call ⟨.value (.func 50), ⟨[.tmp 65]⟩, ⟨[39]⟩⟩⟩, []),
  (⟨none, some 67, .call ⟨.builtin .len, ⟨[.tmp 66]⟩, ⟨[38]⟩⟩⟩, [])]
theorem p21_33_w {E : Env} {fr : Fr} {h : Heap} {Q : Fr → Heap → Prop} : planW E p21_33 fr h Q = planW E [(⟨none, some 57, .fieldAddr 45 (.tmp 1) 5⟩, []),
  (⟨none, some 58, .fieldAddr 42 (.tmp 57) 2⟩, []),
  (⟨none, some 59, .load 39 (.tmp 58)⟩, []),
  (⟨none, some 61, .fieldAddr 45 (.tmp 1) 5⟩, []),
  (⟨none, some 62, .fieldAddr 42 (.tmp 61) 5⟩, []),
  (⟨none, some 63, .load 38 (.tmp 62)⟩, []),
  (⟨none, some 64, .buildSlice 39 1 ⟨[(0, .tmp 63)]⟩⟩, []),
  (⟨none, some 68, .move (.const (.int .i64 0))⟩, []),
  (⟨none, some 60, .call ⟨.value (.func 51), ⟨[.tmp 59]⟩, ⟨[39]⟩⟩⟩, [⟨none, some 63, .load 38 (.tmp 62)⟩]),
  (⟨none, some 65, .call ⟨.builtin .append, ⟨[.tmp 60, .tmp 64]⟩, ⟨[39, 39]⟩⟩⟩, []),
  (⟨none, some 66, .call ⟨.value (.func 50), ⟨[.tmp 65]⟩, ⟨[39]⟩⟩⟩, []),
  (⟨none, some 67, .call ⟨.builtin .len, ⟨[.tmp 66]⟩, ⟨[38]⟩⟩⟩, [])] fr h Q := Eq.trans rfl rfl
def s21_34 : GC := .seq (.plan p21_33) s21_32
theorem s21_34_w {E : Env} {nt : Nat} {rd : Option Nat} {fr : Fr} {h : Heap} {Q : Ex → Fr → Heap → Prop} : s21_34.wp E nt rd fr h Q = (GC.seq (.plan p21_33) s21_32).wp E nt rd fr h Q := Eq.trans rfl rfl
def s21_35 : GC := .seq (s21_34) s21_19
theorem s21_35_w {E : Env} {nt : Nat} {rd : Option Nat} {fr : Fr} {h : Heap} {Q : Ex → Fr → Heap → Prop} : s21_35.wp E nt rd fr h Q = (GC.seq (s21_34) s21_19).wp E nt rd fr h Q := Eq.trans rfl rfl
def r21_36 : List GO := [⟨none, some 56, .binOp .add 3 (.tmp 46) (.const (.int .i64 1)) 3⟩,
  ⟨none, some 46, .move (.tmp 56)⟩]
theorem r21_36_w {E : Env} {fr : Fr} {h : Heap} {Q : Fr → Heap → Prop} : opsW E r21_36 fr h Q = opsW E [⟨none, some 56, .binOp .add 3 (.tmp 46) (.const (.int .i64 1)) 3⟩,
  ⟨none, some 46, .move (.tmp 56)⟩] fr h Q := Eq.trans rfl rfl
def s21_37 : GC := .ops r21_36
theorem s21_37_w {E : Env} {nt : Nat} {rd : Option Nat} {fr : Fr} {h : Heap} {Q : Ex → Fr → Heap → Prop} : s21_37.wp E nt rd fr h Q = (GC.ops r21_36).wp E nt rd fr h Q := Eq.trans rfl rfl
def r21_38 : List GO := [⟨none, some 52, .move (.tmp 4)⟩,
  ⟨none, some 53, .move (.tmp 10)⟩,
  ⟨none, some 54, .move (.tmp 5)⟩,
  ⟨none, some 55, .call ⟨.value (.tmp 52), ⟨[.tmp 53, .tmp 54]⟩, ⟨[3, 116]⟩⟩⟩]
theorem r21_38_w {E : Env} {fr : Fr} {h : Heap} {Q : Fr → Heap → Prop} : opsW E r21_38 fr h Q = opsW E [⟨none, some 52, .move (.tmp 4)⟩,
  ⟨none, some 53, .move (.tmp 10)⟩,
  ⟨none, some 54, .move (.tmp 5)⟩,
  ⟨none, some 55, .call ⟨.value (.tmp 52), ⟨[.tmp 53, .tmp 54]⟩, ⟨[3, 116]⟩⟩⟩] fr h Q := Eq.trans rfl rfl
def s21_39 : GC := .ops r21_38
theorem s21_39_w {E : Env} {nt : Nat} {rd : Option Nat} {fr : Fr} {h : Heap} {Q : Ex → Fr → Heap → Prop} : s21_39.wp E nt rd fr h Q = (GC.ops r21_38).wp E nt rd fr h Q := Eq.trans rfl rfl
def s21_40 : GC := .cond (.tmp 51) s21_39 .skip
theorem s21_40_w {E : Env} {nt : Nat} {rd : Option Nat} {fr : Fr} {h : Heap} {Q : Ex → Fr → Heap → Prop} : s21_40.wp E nt rd fr h Q = (GC.cond (.tmp 51) s21_39 .skip).wp E nt rd fr h Q := Eq.trans rfl rfl
def r21_41 : List GO := [⟨none, some 50, .move (.tmp 10)⟩,
  ⟨none, some 51, .binOp .geq 3 (.tmp 50) (.const (.int .i64 0)) 3⟩]
theorem r21_41_w {E : Env} {fr : Fr} {h : Heap} {Q : Fr → Heap → Prop} : opsW E r21_41 fr h Q = opsW E [⟨none, some 50, .move (.tmp 10)⟩,
  ⟨none, some 51, .binOp .geq 3 (.tmp 50) (.const (.int .i64 0)) 3⟩] fr h Q := Eq.trans rfl rfl
def s21_42 : GC := .seq (.ops r21_41) s21_40
theorem s21_42_w {E : Env} {nt : Nat} {rd : Option Nat} {fr : Fr} {h : Heap} {Q : Ex → Fr → Heap → Prop} : s21_42.wp E nt rd fr h Q = (GC.seq (.ops r21_41) s21_40).wp E nt rd fr h Q := Eq.trans rfl rfl
def r21_43 : List GO := [⟨none, some 48, .indexAddr 38 (.tmp 44) (.tmp 46)⟩,
  ⟨none, some 49, .load 3 (.tmp 48)⟩,
  ⟨none, some 10, .assign (.tmp 49)⟩]
theorem r21_43_w {E : Env} {fr : Fr} {h : Heap} {Q : Fr → Heap → Prop} : opsW E r21_43 fr h Q = opsW E [⟨none, some 48, .indexAddr 38 (.tmp 44) (.tmp 46)⟩,
  ⟨none, some 49, .load 3 (.tmp 48)⟩,
  ⟨none, some 10, .assign (.tmp 49)⟩] fr h Q := Eq.trans rfl rfl
def s21_44 : GC := .seq (.ops r21_43) s21_42
theorem s21_44_w {E : Env} {nt : Nat} {rd : Option Nat} {fr : Fr} {h : Heap} {Q : Ex → Fr → Heap → Prop} : s21_44.wp E nt rd fr h Q = (GC.seq (.ops r21_43) s21_42).wp E nt rd fr h Q := Eq.trans rfl rfl
def s21_45 : GC := .seq (.block 3 s21_44) s21_37
theorem s21_45_w {E : Env} {nt : Nat} {rd : Option Nat} {fr : Fr} {h : Heap} {Q : Ex → Fr → Heap → Prop} : s21_45.wp E nt rd fr h Q = (GC.seq (.block 3 s21_44) s21_37).wp E nt rd fr h Q := Eq.trans rfl rfl
def s21_46 : GC := .cond (.tmp 47) .skip (.exit 2)
theorem s21_46_w {E : Env} {nt : Nat} {rd : Option Nat} {fr : Fr} {h : Heap} {Q : Ex → Fr → Heap → Prop} : s21_46.wp E nt rd fr h Q = (GC.cond (.tmp 47) .skip (.exit 2)).wp E nt rd fr h Q := Eq.trans rfl rfl
def s21_47 : GC := .seq (s21_46) s21_45
theorem s21_47_w {E : Env} {nt : Nat} {rd : Option Nat} {fr : Fr} {h : Heap} {Q : Ex → Fr → Heap → Prop} : s21_47.wp E nt rd fr h Q = (GC.seq (s21_46) s21_45).wp E nt rd fr h Q := Eq.trans rfl rfl
def r21_48 : List GO := [⟨none, some 47, .binOp .lss 3 (.tmp 46) (.tmp 45) 3⟩]
theorem r21_48_w {E : Env} {fr : Fr} {h : Heap} {Q : Fr → Heap → Prop} : opsW E r21_48 fr h Q = opsW E [⟨none, some 47, .binOp .lss 3 (.tmp 46) (.tmp 45) 3⟩] fr h Q := Eq.trans rfl rfl
def s21_49 : GC := .seq (.ops r21_48) s21_47
theorem s21_49_w {E : Env} {nt : Nat} {rd : Option Nat} {fr : Fr} {h : Heap} {Q : Ex → Fr → Heap → Prop} : s21_49.wp E nt rd fr h Q = (GC.seq (.ops r21_48) s21_47).wp E nt rd fr h Q := Eq.trans rfl rfl
def s21_50 : GC := .loop s21_49
theorem s21_50_w {E : Env} {nt : Nat} {rd : Option Nat} {fr : Fr} {h : Heap} {Q : Ex → Fr → Heap → Prop} : s21_50.wp E nt rd fr h Q = (GC.loop s21_49).wp E nt rd fr h Q := Eq.trans rfl rfl
def s21_51 : GC := .block 2 s21_50
theorem s21_51_w {E : Env} {nt : Nat} {rd : Option Nat} {fr : Fr} {h : Heap} {Q : Ex → Fr → Heap → Prop} : s21_51.wp E nt rd fr h Q = (GC.block 2 s21_50).wp E nt rd fr h Q := Eq.trans rfl rfl
def r21_52 : List GO := [⟨none, some 42, .fieldAddr 45 (.tmp 1) 5⟩,
  ⟨none, some 43, .fieldAddr 42 (.tmp 42) 1⟩,
  ⟨none, some 44, .load 38 (.tmp 43)⟩,
  ⟨none, some 45, .call ⟨.builtin .len, ⟨[.tmp 44]⟩, ⟨[38]⟩⟩⟩,
  ⟨none, some 46, .move (.const (.int .i64 0))⟩]
theorem r21_52_w {E : Env} {fr : Fr} {h : Heap} {Q : Fr → Heap → Prop} : opsW E r21_52 fr h Q = opsW E [⟨none, some 42, .fieldAddr 45 (.tmp 1) 5⟩,
  ⟨none, some 43, .fieldAddr 42 (.tmp 42) 1⟩,
  ⟨none, some 44, .load 38 (.tmp 43)⟩,
  ⟨none, some 45, .call ⟨.builtin .len, ⟨[.tmp 44]⟩, ⟨[38]⟩⟩⟩,
  ⟨none, some 46, .move (.const (.int .i64 0))⟩] fr h Q := Eq.trans rfl rfl
def s21_53 : GC := .seq (.ops r21_52) s21_51
theorem s21_53_w {E : Env} {nt : Nat} {rd : Option Nat} {fr : Fr} {h : Heap} {Q : Ex → Fr → Heap → Prop} : s21_53.wp E nt rd fr h Q = (GC.seq (.ops r21_52) s21_51).wp E nt rd fr h Q := Eq.trans rfl rfl
def s21_54 : GC := .seq (s21_53) s21_35
theorem s21_54_w {E : Env} {nt : Nat} {rd : Option Nat} {fr : Fr} {h : Heap} {Q : Ex → Fr → Heap → Prop} : s21_54.wp E nt rd fr h Q = (GC.seq (s21_53) s21_35).wp E nt rd fr h Q := Eq.trans rfl rfl
def r21_55 : List GO := [⟨none, some 41, .binOp .add 3 (.tmp 22) (.const (.int .i64 1)) 3⟩,
  ⟨none, some 22, .move (.tmp 41)⟩]
theorem r21_55_w {E : Env} {fr : Fr} {h : Heap} {Q : Fr → Heap → Prop} : opsW E r21_55 fr h Q = opsW E [⟨none, some 41, .binOp .add 3 (.tmp 22) (.const (.int .i64 1)) 3⟩,
  ⟨none, some 22, .move (.tmp 41)⟩] fr h Q := Eq.trans rfl rfl
def s21_56 : GC := .ops r21_55
theorem s21_56_w {E : Env} {nt : Nat} {rd : Option Nat} {fr : Fr} {h : Heap} {Q : Ex → Fr → Heap → Prop} : s21_56.wp E nt rd fr h Q = (GC.ops r21_55).wp E nt rd fr h Q := Eq.trans rfl rfl
def r21_57 : List GO := [⟨none, some 32, .move (.tmp 3)⟩,
  ⟨none, some 33, .move (.tmp 32)⟩,
  ⟨some (33, true), some 34, .move (.tmp 6)⟩,
  ⟨some (33, true), some 35, .move (.tmp 8)⟩,
  ⟨some (33, true), some 36, .call ⟨.value (.tmp 34), ⟨[.tmp 35]⟩, ⟨[3]⟩⟩⟩,
  ⟨some (33, true), some 37, .field 64 (.tmp 36) 4⟩,
  ⟨some (33, true), some 38, .move (.tmp 7)⟩,
  ⟨some (33, true), some 39, .call ⟨.value (.func 49), ⟨[.tmp 37, .tmp 38]⟩, ⟨[5, 3]⟩⟩⟩,
  ⟨none, some 40, .pick (.tmp 33) (.tmp 39) (.const (.bool false))⟩,
  ⟨none, some 3, .assign (.tmp 40)⟩]
theorem r21_57_w {E : Env} {fr : Fr} {h : Heap} {Q : Fr → Heap → Prop} : opsW E r21_57 fr h Q = opsW E [⟨none, some 32, .move (.tmp 3)⟩,
  ⟨none, some 33, .move (.tmp 32)⟩,
  ⟨some (33, true), some 34, .move (.tmp 6)⟩,
  ⟨some (33, true), some 35, .move (.tmp 8)⟩,
  ⟨some (33, true), some 36, .call ⟨.value (.tmp 34), ⟨[.tmp 35]⟩, ⟨[3]⟩⟩⟩,
  ⟨some (33, true), some 37, .field 64 (.tmp 36) 4⟩,
  ⟨some (33, true), some 38, .move (.tmp 7)⟩,
  ⟨some (33, true), some 39, .call ⟨.value (.func 49), ⟨[.tmp 37, .tmp 38]⟩, ⟨[5, 3]⟩⟩⟩,
  ⟨none, some 40, .pick (.tmp 33) (.tmp 39) (.const (.bool false))⟩,
  ⟨none, some 3, .assign (.tmp 40)⟩] fr h Q := Eq.trans rfl rfl
def s21_58 : GC := .ops r21_57
theorem s21_58_w {E : Env} {nt : Nat} {rd : Option Nat} {fr : Fr} {h : Heap} {Q : Ex → Fr → Heap → Prop} : s21_58.wp E nt rd fr h Q = (GC.ops r21_57).wp E nt rd fr h Q := Eq.trans rfl rfl
def r21_59 : List GO := [⟨none, some 29, .move (.tmp 4)⟩,
  ⟨none, some 30, .move (.tmp 8)⟩,
  ⟨none, some 31, .call ⟨.value (.tmp 29), ⟨[.tmp 30, .func 48]⟩, ⟨[3, 116]⟩⟩⟩]
theorem r21_59_w {E : Env} {fr : Fr} {h : Heap} {Q : Fr → Heap → Prop} : opsW E r21_59 fr h Q = opsW E [⟨none, some 29, .move (.tmp 4)⟩,
  ⟨none, some 30, .move (.tmp 8)⟩,
  ⟨none, some 31, .call ⟨.value (.tmp 29), ⟨[.tmp 30, .func 48]⟩, ⟨[3, 116]⟩⟩⟩] fr h Q := Eq.trans rfl rfl
def s21_60 : GC := .seq (.ops r21_59) s21_58
theorem s21_60_w {E : Env} {nt : Nat} {rd : Option Nat} {fr : Fr} {h : Heap} {Q : Ex → Fr → Heap → Prop} : s21_60.wp E nt rd fr h Q = (GC.seq (.ops r21_59) s21_58).wp E nt rd fr h Q := Eq.trans rfl rfl
def s21_61 : GC := .cond (.tmp 28) s21_60 .skip
theorem s21_61_w {E : Env} {nt : Nat} {rd : Option Nat} {fr : Fr} {h : Heap} {Q : Ex → Fr → Heap → Prop} : s21_61.wp E nt rd fr h Q = (GC.cond (.tmp 28) s21_60 .skip).wp E nt rd fr h Q := Eq.trans rfl rfl
def r21_62 : List GO := [⟨none, some 27, .move (.tmp 8)⟩,
  ⟨none, some 28, .binOp .geq 3 (.tmp 27) (.const (.int .i64 0)) 3⟩]
theorem r21_62_w {E : Env} {fr : Fr} {h : Heap} {Q : Fr → Heap → Prop} : opsW E r21_62 fr h Q = opsW E [⟨none, some 27, .move (.tmp 8)⟩,
  ⟨none, some 28, .binOp .geq 3 (.tmp 27) (.const (.int .i64 0)) 3⟩] fr h Q := Eq.trans rfl rfl
def s21_63 : GC := .seq (.ops r21_62) s21_61
theorem s21_63_w {E : Env} {nt : Nat} {rd : Option Nat} {fr : Fr} {h : Heap} {Q : Ex → Fr → Heap → Prop} : s21_63.wp E nt rd fr h Q = (GC.seq (.ops r21_62) s21_61).wp E nt rd fr h Q := Eq.trans rfl rfl
def r21_64 : List GO := [⟨none, some 24, .move (.tmp 22)⟩,
  ⟨none, some 25, .indexAddr 38 (.tmp 20) (.tmp 22)⟩,
  ⟨none, some 26, .load 3 (.tmp 25)⟩,
  ⟨none, some 7, .assign (.tmp 24)⟩,
  ⟨none, some 8, .assign (.tmp 26)⟩]
theorem r21_64_w {E : Env} {fr : Fr} {h : Heap} {Q : Fr → Heap → Prop} : opsW E r21_64 fr h Q = opsW E [⟨none, some 24, .move (.tmp 22)⟩,
  ⟨none, some 25, .indexAddr 38 (.tmp 20) (.tmp 22)⟩,
  ⟨none, some 26, .load 3 (.tmp 25)⟩,
  ⟨none, some 7, .assign (.tmp 24)⟩,
  ⟨none, some 8, .assign (.tmp 26)⟩] fr h Q := Eq.trans rfl rfl
def s21_65 : GC := .seq (.ops r21_64) s21_63
theorem s21_65_w {E : Env} {nt : Nat} {rd : Option Nat} {fr : Fr} {h : Heap} {Q : Ex → Fr → Heap → Prop} : s21_65.wp E nt rd fr h Q = (GC.seq (.ops r21_64) s21_63).wp E nt rd fr h Q := Eq.trans rfl rfl
def s21_66 : GC := .seq (.block 1 s21_65) s21_56
theorem s21_66_w {E : Env} {nt : Nat} {rd : Option Nat} {fr : Fr} {h : Heap} {Q : Ex → Fr → Heap → Prop} : s21_66.wp E nt rd fr h Q = (GC.seq (.block 1 s21_65) s21_56).wp E nt rd fr h Q := Eq.trans rfl rfl
def s21_67 : GC := .cond (.tmp 23) .skip (.exit 0)
theorem s21_67_w {E : Env} {nt : Nat} {rd : Option Nat} {fr : Fr} {h : Heap} {Q : Ex → Fr → Heap → Prop} : s21_67.wp E nt rd fr h Q = (GC.cond (.tmp 23) .skip (.exit 0)).wp E nt rd fr h Q := Eq.trans rfl rfl
def s21_68 : GC := .seq (s21_67) s21_66
theorem s21_68_w {E : Env} {nt : Nat} {rd : Option Nat} {fr : Fr} {h : Heap} {Q : Ex → Fr → Heap → Prop} : s21_68.wp E nt rd fr h Q = (GC.seq (s21_67) s21_66).wp E nt rd fr h Q := Eq.trans rfl rfl
def r21_69 : List GO := [⟨none, some 23, .binOp .lss 3 (.tmp 22) (.tmp 21) 3⟩]
theorem r21_69_w {E : Env} {fr : Fr} {h : Heap} {Q : Fr → Heap → Prop} : opsW E r21_69 fr h Q = opsW E [⟨none, some 23, .binOp .lss 3 (.tmp 22) (.tmp 21) 3⟩] fr h Q := Eq.trans rfl rfl
def s21_70 : GC := .seq (.ops r21_69) s21_68
theorem s21_70_w {E : Env} {nt : Nat} {rd : Option Nat} {fr : Fr} {h : Heap} {Q : Ex → Fr → Heap → Prop} : s21_70.wp E nt rd fr h Q = (GC.seq (.ops r21_69) s21_68).wp E nt rd fr h Q := Eq.trans rfl rfl
def s21_71 : GC := .loop s21_70
theorem s21_71_w {E : Env} {nt : Nat} {rd : Option Nat} {fr : Fr} {h : Heap} {Q : Ex → Fr → Heap → Prop} : s21_71.wp E nt rd fr h Q = (GC.loop s21_70).wp E nt rd fr h Q := Eq.trans rfl rfl
def s21_72 : GC := .block 0 s21_71
theorem s21_72_w {E : Env} {nt : Nat} {rd : Option Nat} {fr : Fr} {h : Heap} {Q : Ex → Fr → Heap → Prop} : s21_72.wp E nt rd fr h Q = (GC.block 0 s21_71).wp E nt rd fr h Q := Eq.trans rfl rfl
def r21_73 : List GO := [⟨none, some 18, .fieldAddr 45 (.tmp 1) 5⟩,
  ⟨none, some 19, .fieldAddr 42 (.tmp 18) 0⟩,
  ⟨none, some 20, .load 38 (.tmp 19)⟩,
  ⟨none, some 21, .call ⟨.builtin .len, ⟨[.tmp 20]⟩, ⟨[38]⟩⟩⟩,
  ⟨none, some 22, .move (.const (.int .i64 0))⟩]
theorem r21_73_w {E : Env} {fr : Fr} {h : Heap} {Q : Fr → Heap → Prop} : opsW E r21_73 fr h Q = opsW E [⟨none, some 18, .fieldAddr 45 (.tmp 1) 5⟩,
  ⟨none, some 19, .fieldAddr 42 (.tmp 18) 0⟩,
  ⟨none, some 20, .load 38 (.tmp 19)⟩,
  ⟨none, some 21, .call ⟨.builtin .len, ⟨[.tmp 20]⟩, ⟨[38]⟩⟩⟩,
  ⟨none, some 22, .move (.const (.int .i64 0))⟩] fr h Q := Eq.trans rfl rfl
def s21_74 : GC := .seq (.ops r21_73) s21_72
theorem s21_74_w {E : Env} {nt : Nat} {rd : Option Nat} {fr : Fr} {h : Heap} {Q : Ex → Fr → Heap → Prop} : s21_74.wp E nt rd fr h Q = (GC.seq (.ops r21_73) s21_72).wp E nt rd fr h Q := Eq.trans rfl rfl
def s21_75 : GC := .seq (s21_74) s21_54
theorem s21_75_w {E : Env} {nt : Nat} {rd : Option Nat} {fr : Fr} {h : Heap} {Q : Ex → Fr → Heap → Prop} : s21_75.wp E nt rd fr h Q = (GC.seq (s21_74) s21_54).wp E nt rd fr h Q := Eq.trans rfl rfl
def r21_76 : List GO := [⟨none, some 17, .makeFunc (.func 45) ⟨[]⟩ ⟨[.tmp 1]⟩⟩,
  ⟨none, some 6, .assign (.tmp 17)⟩]
theorem r21_76_w {E : Env} {fr : Fr} {h : Heap} {Q : Fr → Heap → Prop} : opsW E r21_76 fr h Q = opsW E [⟨none, some 17, .makeFunc (.func 45) ⟨[]⟩ ⟨[.tmp 1]⟩⟩,
  ⟨none, some 6, .assign (.tmp 17)⟩] fr h Q := Eq.trans rfl rfl
def s21_77 : GC := .seq (.ops r21_76) s21_75
theorem s21_77_w {E : Env} {nt : Nat} {rd : Option Nat} {fr : Fr} {h : Heap} {Q : Ex → Fr → Heap → Prop} : s21_77.wp E nt rd fr h Q = (GC.seq (.ops r21_76) s21_75).wp E nt rd fr h Q := Eq.trans rfl rfl
def r21_78 : List GO := [⟨none, some 5, .assign (.func 44)⟩]
theorem r21_78_w {E : Env} {fr : Fr} {h : Heap} {Q : Fr → Heap → Prop} : opsW E r21_78 fr h Q = opsW E [⟨none, some 5, .assign (.func 44)⟩] fr h Q := Eq.trans rfl rfl
def s21_79 : GC := .seq (.ops r21_78) s21_77
theorem s21_79_w {E : Env} {nt : Nat} {rd : Option Nat} {fr : Fr} {h : Heap} {Q : Ex → Fr → Heap → Prop} : s21_79.wp E nt rd fr h Q = (GC.seq (.ops r21_78) s21_77).wp E nt rd fr h Q := Eq.trans rfl rfl
def r21_80 : List GO := [⟨none, some 16, .makeFunc (.func 43) ⟨[]⟩ ⟨[.tmp 2]⟩⟩,
  ⟨none, some 4, .assign (.tmp 16)⟩]
theorem r21_80_w {E : Env} {fr : Fr} {h : Heap} {Q : Fr → Heap → Prop} : opsW E r21_80 fr h Q = opsW E [⟨none, some 16, .makeFunc (.func 43) ⟨[]⟩ ⟨[.tmp 2]⟩⟩,
  ⟨none, some 4, .assign (.tmp 16)⟩] fr h Q := Eq.trans rfl rfl
def s21_81 : GC := .seq (.ops r21_80) s21_79
theorem s21_81_w {E : Env} {nt : Nat} {rd : Option Nat} {fr : Fr} {h : Heap} {Q : Ex → Fr → Heap → Prop} : s21_81.wp E nt rd fr h Q = (GC.seq (.ops r21_80) s21_79).wp E nt rd fr h Q := Eq.trans rfl rfl
def r21_82 : List GO := [⟨none, some 15, .makeMap 67 none⟩,
  ⟨none, none, .store 67 (.tmp 2) (.tmp 15)⟩,
  ⟨none, some 3, .assign (.const (.bool true))⟩]
theorem r21_82_w {E : Env} {fr : Fr} {h : Heap} {Q : Fr → Heap → Prop} : opsW E r21_82 fr h Q = opsW E [⟨none, some 15, .makeMap 67 none⟩,
  ⟨none, none, .store 67 (.tmp 2) (.tmp 15)⟩,
  ⟨none, some 3, .assign (.const (.bool true))⟩] fr h Q := Eq.trans rfl rfl
def s21_83 : GC := .seq (.ops r21_82) s21_81
theorem s21_83_w {E : Env} {nt : Nat} {rd : Option Nat} {fr : Fr} {h : Heap} {Q : Ex → Fr → Heap → Prop} : s21_83.wp E nt rd fr h Q = (GC.seq (.ops r21_82) s21_81).wp E nt rd fr h Q := Eq.trans rfl rfl
def r21_84 : List GO := [⟨none, some 1, .box 45 (.tmp 0)⟩,
  ⟨none, some 2, .alloc 67⟩,
  ⟨none, some 3, .assign (.const (.bool false))⟩]
theorem r21_84_w {E : Env} {fr : Fr} {h : Heap} {Q : Fr → Heap → Prop} : opsW E r21_84 fr h Q = opsW E [⟨none, some 1, .box 45 (.tmp 0)⟩,
  ⟨none, some 2, .alloc 67⟩,
  ⟨none, some 3, .assign (.const (.bool false))⟩] fr h Q := Eq.trans rfl rfl
def s21_85 : GC := .seq (.ops r21_84) s21_83
theorem s21_85_w {E : Env} {nt : Nat} {rd : Option Nat} {fr : Fr} {h : Heap} {Q : Ex → Fr → Heap → Prop} : s21_85.wp E nt rd fr h Q = (GC.seq (.ops r21_84) s21_83).wp E nt rd fr h Q := Eq.trans rfl rfl
theorem c21 : Try.f21.body.bind (clean env 102) = some s21_85 := by kernel_rfl
theorem e21 : env.funs.get 21 = some Try.f21 := by kernel_rfl
theorem F21 {args : List Value} {h : Heap} {K : Value → Heap → Prop} (hl : args.length = 1) (w : s21_85.wp env 102 none (setAll args 0 .leaf) h (resK env [.cell 2 67, .tmp 3] K)) : Ret env (.func 21) args h K :=
  Ret.of_body' rfl e21 c21 rfl rfl (by rw [hl]; decide) w
/-! helmsman/helmsmanref30.queues -/
def r22_0 : List GO := [⟨none, some 78, .move (.tmp 5)⟩,
  ⟨none, some 4, .assign (.tmp 78)⟩]
theorem r22_0_w {E : Env} {fr : Fr} {h : Heap} {Q : Fr → Heap → Prop} : opsW E r22_0 fr h Q = opsW E [⟨none, some 78, .move (.tmp 5)⟩,
  ⟨none, some 4, .assign (.tmp 78)⟩] fr h Q := Eq.trans rfl rfl
def s22_1 : GC := .seq (.ops r22_0) .ret
theorem s22_1_w {E : Env} {nt : Nat} {rd : Option Nat} {fr : Fr} {h : Heap} {Q : Ex → Fr → Heap → Prop} : s22_1.wp E nt rd fr h Q = (GC.seq (.ops r22_0) .ret).wp E nt rd fr h Q := Eq.trans rfl rfl
def r22_2 : List GO := [⟨none, some 66, .move (.tmp 9)⟩,
  ⟨none, some 67, .binOp .add 3 (.tmp 66) (.const (.int .i64 1)) 3⟩,
  ⟨none, some 9, .assign (.tmp 67)⟩]
theorem r22_2_w {E : Env} {fr : Fr} {h : Heap} {Q : Fr → Heap → Prop} : opsW E r22_2 fr h Q = opsW E [⟨none, some 66, .move (.tmp 9)⟩,
  ⟨none, some 67, .binOp .add 3 (.tmp 66) (.const (.int .i64 1)) 3⟩,
  ⟨none, some 9, .assign (.tmp 67)⟩] fr h Q := Eq.trans rfl rfl
def s22_3 : GC := .ops r22_2
theorem s22_3_w {E : Env} {nt : Nat} {rd : Option Nat} {fr : Fr} {h : Heap} {Q : Ex → Fr → Heap → Prop} : s22_3.wp E nt rd fr h Q = (GC.ops r22_2).wp E nt rd fr h Q := Eq.trans rfl rfl
def r22_4 : List GO := [⟨none, some 76, .move (.tmp 5)⟩,
  ⟨none, some 77, .binOp .add 3 (.tmp 76) (.const (.int .i64 1)) 3⟩,
  ⟨none, some 5, .assign (.tmp 77)⟩]
theorem r22_4_w {E : Env} {fr : Fr} {h : Heap} {Q : Fr → Heap → Prop} : opsW E r22_4 fr h Q = opsW E [⟨none, some 76, .move (.tmp 5)⟩,
  ⟨none, some 77, .binOp .add 3 (.tmp 76) (.const (.int .i64 1)) 3⟩,
  ⟨none, some 5, .assign (.tmp 77)⟩] fr h Q := Eq.trans rfl rfl
def s22_5 : GC := .ops r22_4
theorem s22_5_w {E : Env} {nt : Nat} {rd : Option Nat} {fr : Fr} {h : Heap} {Q : Ex → Fr → Heap → Prop} : s22_5.wp E nt rd fr h Q = (GC.ops r22_4).wp E nt rd fr h Q := Eq.trans rfl rfl
def s22_6 : GC := .cond (.tmp 75) s22_5 .skip
theorem s22_6_w {E : Env} {nt : Nat} {rd : Option Nat} {fr : Fr} {h : Heap} {Q : Ex → Fr → Heap → Prop} : s22_6.wp E nt rd fr h Q = (GC.cond (.tmp 75) s22_5 .skip).wp E nt rd fr h Q := Eq.trans rfl rfl
def r22_7 : List GO := [⟨none, some 68, .fieldAddr 45 (.tmp 2) 5⟩,
  ⟨none, some 69, .fieldAddr 42 (.tmp 68) 5⟩,
  ⟨none, some 70, .load 38 (.tmp 69)⟩,
  ⟨none, some 71, .move (.tmp 9)⟩,
  ⟨none, some 72, .indexAddr 38 (.tmp 70) (.tmp 71)⟩,
  ⟨none, some 73, .load 3 (.tmp 72)⟩,
  ⟨none, some 74, .move (.tmp 1)⟩,
  ⟨none, some 75, .binOp .eql 3 (.tmp 73) (.tmp 74) 3⟩]
theorem r22_7_w {E : Env} {fr : Fr} {h : Heap} {Q : Fr → Heap → Prop} : opsW E r22_7 fr h Q = opsW E [⟨none, some 68, .fieldAddr 45 (.tmp 2) 5⟩,
  ⟨none, some 69, .fieldAddr 42 (.tmp 68) 5⟩,
  ⟨none, some 70, .load 38 (.tmp 69)⟩,
  ⟨none, some 71, .move (.tmp 9)⟩,
  ⟨none, some 72, .indexAddr 38 (.tmp 70) (.tmp 71)⟩,
  ⟨none, some 73, .load 3 (.tmp 72)⟩,
  ⟨none, some 74, .move (.tmp 1)⟩,
  ⟨none, some 75, .binOp .eql 3 (.tmp 73) (.tmp 74) 3⟩] fr h Q := Eq.trans rfl rfl
def s22_8 : GC := .seq (.ops r22_7) s22_6
theorem s22_8_w {E : Env} {nt : Nat} {rd : Option Nat} {fr : Fr} {h : Heap} {Q : Ex → Fr → Heap → Prop} : s22_8.wp E nt rd fr h Q = (GC.seq (.ops r22_7) s22_6).wp E nt rd fr h Q := Eq.trans rfl rfl
def s22_9 : GC := .seq (.block 7 s22_8) s22_3
theorem s22_9_w {E : Env} {nt : Nat} {rd : Option Nat} {fr : Fr} {h : Heap} {Q : Ex → Fr → Heap → Prop} : s22_9.wp E nt rd fr h Q = (GC.seq (.block 7 s22_8) s22_3).wp E nt rd fr h Q := Eq.trans rfl rfl
def s22_10 : GC := .cond (.tmp 65) .skip (.exit 6)
theorem s22_10_w {E : Env} {nt : Nat} {rd : Option Nat} {fr : Fr} {h : Heap} {Q : Ex → Fr → Heap → Prop} : s22_10.wp E nt rd fr h Q = (GC.cond (.tmp 65) .skip (.exit 6)).wp E nt rd fr h Q := Eq.trans rfl rfl
def r22_11 : List GO := [⟨none, some 60, .move (.tmp 9)⟩,
  ⟨none, some 61, .fieldAddr 45 (.tmp 2) 5⟩,
  ⟨none, some 62, .fieldAddr 42 (.tmp 61) 5⟩,
  ⟨none, some 63, .load 38 (.tmp 62)⟩,
  ⟨none, some 64, .call ⟨.builtin .len, ⟨[.tmp 63]⟩, ⟨[38]⟩⟩⟩,
  ⟨none, some 65, .binOp .lss 3 (.tmp 60) (.tmp 64) 3⟩]
theorem r22_11_w {E : Env} {fr : Fr} {h : Heap} {Q : Fr → Heap → Prop} : opsW E r22_11 fr h Q = opsW E [⟨none, some 60, .move (.tmp 9)⟩,
  ⟨none, some 61, .fieldAddr 45 (.tmp 2) 5⟩,
  ⟨none, some 62, .fieldAddr 42 (.tmp 61) 5⟩,
  ⟨none, some 63, .load 38 (.tmp 62)⟩,
  ⟨none, some 64, .call ⟨.builtin .len, ⟨[.tmp 63]⟩, ⟨[38]⟩⟩⟩,
  ⟨none, some 65, .binOp .lss 3 (.tmp 60) (.tmp 64) 3⟩] fr h Q := Eq.trans rfl rfl
def s22_12 : GC := .seq (.ops r22_11) s22_10
theorem s22_12_w {E : Env} {nt : Nat} {rd : Option Nat} {fr : Fr} {h : Heap} {Q : Ex → Fr → Heap → Prop} : s22_12.wp E nt rd fr h Q = (GC.seq (.ops r22_11) s22_10).wp E nt rd fr h Q := Eq.trans rfl rfl
def s22_13 : GC := .seq (s22_12) s22_9
theorem s22_13_w {E : Env} {nt : Nat} {rd : Option Nat} {fr : Fr} {h : Heap} {Q : Ex → Fr → Heap → Prop} : s22_13.wp E nt rd fr h Q = (GC.seq (s22_12) s22_9).wp E nt rd fr h Q := Eq.trans rfl rfl
def s22_14 : GC := .loop s22_13
theorem s22_14_w {E : Env} {nt : Nat} {rd : Option Nat} {fr : Fr} {h : Heap} {Q : Ex → Fr → Heap → Prop} : s22_14.wp E nt rd fr h Q = (GC.loop s22_13).wp E nt rd fr h Q := Eq.trans rfl rfl
def s22_15 : GC := .block 6 s22_14
theorem s22_15_w {E : Env} {nt : Nat} {rd : Option Nat} {fr : Fr} {h : Heap} {Q : Ex → Fr → Heap → Prop} : s22_15.wp E nt rd fr h Q = (GC.block 6 s22_14).wp E nt rd fr h Q := Eq.trans rfl rfl
def r22_16 : List GO := [⟨none, some 9, .assign (.const (.int .i64 0))⟩]
theorem r22_16_w {E : Env} {fr : Fr} {h : Heap} {Q : Fr → Heap → Prop} : opsW E r22_16 fr h Q = opsW E [⟨none, some 9, .assign (.const (.int .i64 0))⟩] fr h Q := Eq.trans rfl rfl
def s22_17 : GC := .seq (.ops r22_16) s22_15
theorem s22_17_w {E : Env} {nt : Nat} {rd : Option Nat} {fr : Fr} {h : Heap} {Q : Ex → Fr → Heap → Prop} : s22_17.wp E nt rd fr h Q = (GC.seq (.ops r22_16) s22_15).wp E nt rd fr h Q := Eq.trans rfl rfl
def s22_18 : GC := .seq (s22_17) s22_1
theorem s22_18_w {E : Env} {nt : Nat} {rd : Option Nat} {fr : Fr} {h : Heap} {Q : Ex → Fr → Heap → Prop} : s22_18.wp E nt rd fr h Q = (GC.seq (s22_17) s22_1).wp E nt rd fr h Q := Eq.trans rfl rfl
def r22_19 : List GO := [⟨none, some 34, .move (.tmp 7)⟩,
  ⟨none, some 35, .binOp .add 3 (.tmp 34) (.const (.int .i64 1)) 3⟩,
  ⟨none, some 7, .assign (.tmp 35)⟩]
theorem r22_19_w {E : Env} {fr : Fr} {h : Heap} {Q : Fr → Heap → Prop} : opsW E r22_19 fr h Q = opsW E [⟨none, some 34, .move (.tmp 7)⟩,
  ⟨none, some 35, .binOp .add 3 (.tmp 34) (.const (.int .i64 1)) 3⟩,
  ⟨none, some 7, .assign (.tmp 35)⟩] fr h Q := Eq.trans rfl rfl
def s22_20 : GC := .ops r22_19
theorem s22_20_w {E : Env} {nt : Nat} {rd : Option Nat} {fr : Fr} {h : Heap} {Q : Ex → Fr → Heap → Prop} : s22_20.wp E nt rd fr h Q = (GC.ops r22_19).wp E nt rd fr h Q := Eq.trans rfl rfl
def r22_21 : List GO := [⟨none, some 45, .move (.tmp 8)⟩,
  ⟨none, some 46, .binOp .add 3 (.tmp 45) (.const (.int .i64 1)) 3⟩,
  ⟨none, some 8, .assign (.tmp 46)⟩]
theorem r22_21_w {E : Env} {fr : Fr} {h : Heap} {Q : Fr → Heap → Prop} : opsW E r22_21 fr h Q = opsW E [⟨none, some 45, .move (.tmp 8)⟩,
  ⟨none, some 46, .binOp .add 3 (.tmp 45) (.const (.int .i64 1)) 3⟩,
  ⟨none, some 8, .assign (.tmp 46)⟩] fr h Q := Eq.trans rfl rfl
def s22_22 : GC := .ops r22_21
theorem s22_22_w {E : Env} {nt : Nat} {rd : Option Nat} {fr : Fr} {h : Heap} {Q : Ex → Fr → Heap → Prop} : s22_22.wp E nt rd fr h Q = (GC.ops r22_21).wp E nt rd fr h Q := Eq.trans rfl rfl
def r22_23 : List GO := [⟨none, some 58, .move (.tmp 5)⟩,
  ⟨none, some 59, .binOp .add 3 (.tmp 58) (.const (.int .i64 1)) 3⟩,
  ⟨none, some 5, .assign (.tmp 59)⟩]
theorem r22_23_w {E : Env} {fr : Fr} {h : Heap} {Q : Fr → Heap → Prop} : opsW E r22_23 fr h Q = opsW E [⟨none, some 58, .move (.tmp 5)⟩,
  ⟨none, some 59, .binOp .add 3 (.tmp 58) (.const (.int .i64 1)) 3⟩,
  ⟨none, some 5, .assign (.tmp 59)⟩] fr h Q := Eq.trans rfl rfl
def s22_24 : GC := .ops r22_23
theorem s22_24_w {E : Env} {nt : Nat} {rd : Option Nat} {fr : Fr} {h : Heap} {Q : Ex → Fr → Heap → Prop} : s22_24.wp E nt rd fr h Q = (GC.ops r22_23).wp E nt rd fr h Q := Eq.trans rfl rfl
def s22_25 : GC := .cond (.tmp 57) s22_24 .skip
theorem s22_25_w {E : Env} {nt : Nat} {rd : Option Nat} {fr : Fr} {h : Heap} {Q : Ex → Fr → Heap → Prop} : s22_25.wp E nt rd fr h Q = (GC.cond (.tmp 57) s22_24 .skip).wp E nt rd fr h Q := Eq.trans rfl rfl
def r22_26 : List GO := [⟨none, some 47, .fieldAddr 45 (.tmp 2) 5⟩,
  ⟨none, some 48, .fieldAddr 42 (.tmp 47) 2⟩,
  ⟨none, some 49, .load 39 (.tmp 48)⟩,
  ⟨none, some 50, .move (.tmp 7)⟩,
  ⟨none, some 51, .indexAddr 39 (.tmp 49) (.tmp 50)⟩,
  ⟨none, some 52, .load 38 (.tmp 51)⟩,
  ⟨none, some 53, .move (.tmp 8)⟩,
  ⟨none, some 54, .indexAddr 38 (.tmp 52) (.tmp 53)⟩,
  ⟨none, some 55, .load 3 (.tmp 54)⟩,
  ⟨none, some 56, .move (.tmp 1)⟩,
  ⟨none, some 57, .binOp .eql 3 (.tmp 55) (.tmp 56) 3⟩]
theorem r22_26_w {E : Env} {fr : Fr} {h : Heap} {Q : Fr → Heap → Prop} : opsW E r22_26 fr h Q = opsW E [⟨none, some 47, .fieldAddr 45 (.tmp 2) 5⟩,
  ⟨none, some 48, .fieldAddr 42 (.tmp 47) 2⟩,
  ⟨none, some 49, .load 39 (.tmp 48)⟩,
  ⟨none, some 50, .move (.tmp 7)⟩,
  ⟨none, some 51, .indexAddr 39 (.tmp 49) (.tmp 50)⟩,
  ⟨none, some 52, .load 38 (.tmp 51)⟩,
  ⟨none, some 53, .move (.tmp 8)⟩,
  ⟨none, some 54, .indexAddr 38 (.tmp 52) (.tmp 53)⟩,
  ⟨none, some 55, .load 3 (.tmp 54)⟩,
  ⟨none, some 56, .move (.tmp 1)⟩,
  ⟨none, some 57, .binOp .eql 3 (.tmp 55) (.tmp 56) 3⟩] fr h Q := Eq.trans rfl rfl
def s22_27 : GC := .seq (.ops r22_26) s22_25
theorem s22_27_w {E : Env} {nt : Nat} {rd : Option Nat} {fr : Fr} {h : Heap} {Q : Ex → Fr → Heap → Prop} : s22_27.wp E nt rd fr h Q = (GC.seq (.ops r22_26) s22_25).wp E nt rd fr h Q := Eq.trans rfl rfl
def s22_28 : GC := .seq (.block 5 s22_27) s22_22
theorem s22_28_w {E : Env} {nt : Nat} {rd : Option Nat} {fr : Fr} {h : Heap} {Q : Ex → Fr → Heap → Prop} : s22_28.wp E nt rd fr h Q = (GC.seq (.block 5 s22_27) s22_22).wp E nt rd fr h Q := Eq.trans rfl rfl
def s22_29 : GC := .cond (.tmp 44) .skip (.exit 4)
theorem s22_29_w {E : Env} {nt : Nat} {rd : Option Nat} {fr : Fr} {h : Heap} {Q : Ex → Fr → Heap → Prop} : s22_29.wp E nt rd fr h Q = (GC.cond (.tmp 44) .skip (.exit 4)).wp E nt rd fr h Q := Eq.trans rfl rfl
def r22_30 : List GO := [⟨none, some 36, .move (.tmp 8)⟩,
  ⟨none, some 37, .fieldAddr 45 (.tmp 2) 5⟩,
  ⟨none, some 38, .fieldAddr 42 (.tmp 37) 2⟩,
  ⟨none, some 39, .load 39 (.tmp 38)⟩,
  ⟨none, some 40, .move (.tmp 7)⟩,
  ⟨none, some 41, .indexAddr 39 (.tmp 39) (.tmp 40)⟩,
  ⟨none, some 42, .load 38 (.tmp 41)⟩,
  ⟨none, some 43, .call ⟨.builtin .len, ⟨[.tmp 42]⟩, ⟨[38]⟩⟩⟩,
  ⟨none, some 44, .binOp .lss 3 (.tmp 36) (.tmp 43) 3⟩]
theorem r22_30_w {E : Env} {fr : Fr} {h : Heap} {Q : Fr → Heap → Prop} : opsW E r22_30 fr h Q = opsW E [⟨none, some 36, .move (.tmp 8)⟩,
  ⟨none, some 37, .fieldAddr 45 (.tmp 2) 5⟩,
  ⟨none, some 38, .fieldAddr 42 (.tmp 37) 2⟩,
  ⟨none, some 39, .load 39 (.tmp 38)⟩,
  ⟨none, some 40, .move (.tmp 7)⟩,
  ⟨none, some 41, .indexAddr 39 (.tmp 39) (.tmp 40)⟩,
  ⟨none, some 42, .load 38 (.tmp 41)⟩,
  ⟨none, some 43, .call ⟨.builtin .len, ⟨[.tmp 42]⟩, ⟨[38]⟩⟩⟩,
  ⟨none, some 44, .binOp .lss 3 (.tmp 36) (.tmp 43) 3⟩] fr h Q := Eq.trans rfl rfl
def s22_31 : GC := .seq (.ops r22_30) s22_29
theorem s22_31_w {E : Env} {nt : Nat} {rd : Option Nat} {fr : Fr} {h : Heap} {Q : Ex → Fr → Heap → Prop} : s22_31.wp E nt rd fr h Q = (GC.seq (.ops r22_30) s22_29).wp E nt rd fr h Q := Eq.trans rfl rfl
def s22_32 : GC := .seq (s22_31) s22_28
theorem s22_32_w {E : Env} {nt : Nat} {rd : Option Nat} {fr : Fr} {h : Heap} {Q : Ex → Fr → Heap → Prop} : s22_32.wp E nt rd fr h Q = (GC.seq (s22_31) s22_28).wp E nt rd fr h Q := Eq.trans rfl rfl
def s22_33 : GC := .loop s22_32
theorem s22_33_w {E : Env} {nt : Nat} {rd : Option Nat} {fr : Fr} {h : Heap} {Q : Ex → Fr → Heap → Prop} : s22_33.wp E nt rd fr h Q = (GC.loop s22_32).wp E nt rd fr h Q := Eq.trans rfl rfl
def s22_34 : GC := .block 4 s22_33
theorem s22_34_w {E : Env} {nt : Nat} {rd : Option Nat} {fr : Fr} {h : Heap} {Q : Ex → Fr → Heap → Prop} : s22_34.wp E nt rd fr h Q = (GC.block 4 s22_33).wp E nt rd fr h Q := Eq.trans rfl rfl
def r22_35 : List GO := [⟨none, some 8, .assign (.const (.int .i64 0))⟩]
theorem r22_35_w {E : Env} {fr : Fr} {h : Heap} {Q : Fr → Heap → Prop} : opsW E r22_35 fr h Q = opsW E [⟨none, some 8, .assign (.const (.int .i64 0))⟩] fr h Q := Eq.trans rfl rfl
def s22_36 : GC := .seq (.ops r22_35) s22_34
theorem s22_36_w {E : Env} {nt : Nat} {rd : Option Nat} {fr : Fr} {h : Heap} {Q : Ex → Fr → Heap → Prop} : s22_36.wp E nt rd fr h Q = (GC.seq (.ops r22_35) s22_34).wp E nt rd fr h Q := Eq.trans rfl rfl
def s22_37 : GC := .seq (.block 3 s22_36) s22_20
theorem s22_37_w {E : Env} {nt : Nat} {rd : Option Nat} {fr : Fr} {h : Heap} {Q : Ex → Fr → Heap → Prop} : s22_37.wp E nt rd fr h Q = (GC.seq (.block 3 s22_36) s22_20).wp E nt rd fr h Q := Eq.trans rfl rfl
def s22_38 : GC := .cond (.tmp 33) .skip (.exit 2)
theorem s22_38_w {E : Env} {nt : Nat} {rd : Option Nat} {fr : Fr} {h : Heap} {Q : Ex → Fr → Heap → Prop} : s22_38.wp E nt rd fr h Q = (GC.cond (.tmp 33) .skip (.exit 2)).wp E nt rd fr h Q := Eq.trans rfl rfl
def r22_39 : List GO := [⟨none, some 28, .move (.tmp 7)⟩,
  ⟨none, some 29, .fieldAddr 45 (.tmp 2) 5⟩,
  ⟨none, some 30, .fieldAddr 42 (.tmp 29) 2⟩,
  ⟨none, some 31, .load 39 (.tmp 30)⟩,
  ⟨none, some 32, .call ⟨.builtin .len, ⟨[.tmp 31]⟩, ⟨[39]⟩⟩⟩,
  ⟨none, some 33, .binOp .lss 3 (.tmp 28) (.tmp 32) 3⟩]
theorem r22_39_w {E : Env} {fr : Fr} {h : Heap} {Q : Fr → Heap → Prop} : opsW E r22_39 fr h Q = opsW E [⟨none, some 28, .move (.tmp 7)⟩,
  ⟨none, some 29, .fieldAddr 45 (.tmp 2) 5⟩,
  ⟨none, some 30, .fieldAddr 42 (.tmp 29) 2⟩,
  ⟨none, some 31, .load 39 (.tmp 30)⟩,
  ⟨none, some 32, .call ⟨.builtin .len, ⟨[.tmp 31]⟩, ⟨[39]⟩⟩⟩,
  ⟨none, some 33, .binOp .lss 3 (.tmp 28) (.tmp 32) 3⟩] fr h Q := Eq.trans rfl rfl
def s22_40 : GC := .seq (.ops r22_39) s22_38
theorem s22_40_w {E : Env} {nt : Nat} {rd : Option Nat} {fr : Fr} {h : Heap} {Q : Ex → Fr → Heap → Prop} : s22_40.wp E nt rd fr h Q = (GC.seq (.ops r22_39) s22_38).wp E nt rd fr h Q := Eq.trans rfl rfl
def s22_41 : GC := .seq (s22_40) s22_37
theorem s22_41_w {E : Env} {nt : Nat} {rd : Option Nat} {fr : Fr} {h : Heap} {Q : Ex → Fr → Heap → Prop} : s22_41.wp E nt rd fr h Q = (GC.seq (s22_40) s22_37).wp E nt rd fr h Q := Eq.trans rfl rfl
def s22_42 : GC := .loop s22_41
theorem s22_42_w {E : Env} {nt : Nat} {rd : Option Nat} {fr : Fr} {h : Heap} {Q : Ex → Fr → Heap → Prop} : s22_42.wp E nt rd fr h Q = (GC.loop s22_41).wp E nt rd fr h Q := Eq.trans rfl rfl
def s22_43 : GC := .block 2 s22_42
theorem s22_43_w {E : Env} {nt : Nat} {rd : Option Nat} {fr : Fr} {h : Heap} {Q : Ex → Fr → Heap → Prop} : s22_43.wp E nt rd fr h Q = (GC.block 2 s22_42).wp E nt rd fr h Q := Eq.trans rfl rfl
def r22_44 : List GO := [⟨none, some 7, .assign (.const (.int .i64 0))⟩]
theorem r22_44_w {E : Env} {fr : Fr} {h : Heap} {Q : Fr → Heap → Prop} : opsW E r22_44 fr h Q = opsW E [⟨none, some 7, .assign (.const (.int .i64 0))⟩] fr h Q := Eq.trans rfl rfl
def s22_45 : GC := .seq (.ops r22_44) s22_43
theorem s22_45_w {E : Env} {nt : Nat} {rd : Option Nat} {fr : Fr} {h : Heap} {Q : Ex → Fr → Heap → Prop} : s22_45.wp E nt rd fr h Q = (GC.seq (.ops r22_44) s22_43).wp E nt rd fr h Q := Eq.trans rfl rfl
def s22_46 : GC := .seq (s22_45) s22_18
theorem s22_46_w {E : Env} {nt : Nat} {rd : Option Nat} {fr : Fr} {h : Heap} {Q : Ex → Fr → Heap → Prop} : s22_46.wp E nt rd fr h Q = (GC.seq (s22_45) s22_18).wp E nt rd fr h Q := Eq.trans rfl rfl
def r22_47 : List GO := [⟨none, some 16, .move (.tmp 6)⟩,
  ⟨none, some 17, .binOp .add 3 (.tmp 16) (.const (.int .i64 1)) 3⟩,
  ⟨none, some 6, .assign (.tmp 17)⟩]
theorem r22_47_w {E : Env} {fr : Fr} {h : Heap} {Q : Fr → Heap → Prop} : opsW E r22_47 fr h Q = opsW E [⟨none, some 16, .move (.tmp 6)⟩,
  ⟨none, some 17, .binOp .add 3 (.tmp 16) (.const (.int .i64 1)) 3⟩,
  ⟨none, some 6, .assign (.tmp 17)⟩] fr h Q := Eq.trans rfl rfl
def s22_48 : GC := .ops r22_47
theorem s22_48_w {E : Env} {nt : Nat} {rd : Option Nat} {fr : Fr} {h : Heap} {Q : Ex → Fr → Heap → Prop} : s22_48.wp E nt rd fr h Q = (GC.ops r22_47).wp E nt rd fr h Q := Eq.trans rfl rfl
def r22_49 : List GO := [⟨none, some 26, .move (.tmp 5)⟩,
  ⟨none, some 27, .binOp .add 3 (.tmp 26) (.const (.int .i64 1)) 3⟩,
  ⟨none, some 5, .assign (.tmp 27)⟩]
theorem r22_49_w {E : Env} {fr : Fr} {h : Heap} {Q : Fr → Heap → Prop} : opsW E r22_49 fr h Q = opsW E [⟨none, some 26, .move (.tmp 5)⟩,
  ⟨none, some 27, .binOp .add 3 (.tmp 26) (.const (.int .i64 1)) 3⟩,
  ⟨none, some 5, .assign (.tmp 27)⟩] fr h Q := Eq.trans rfl rfl
def s22_50 : GC := .ops r22_49
theorem s22_50_w {E : Env} {nt : Nat} {rd : Option Nat} {fr : Fr} {h : Heap} {Q : Ex → Fr → Heap → Prop} : s22_50.wp E nt rd fr h Q = (GC.ops r22_49).wp E nt rd fr h Q := Eq.trans rfl rfl
def s22_51 : GC := .cond (.tmp 25) s22_50 .skip
theorem s22_51_w {E : Env} {nt : Nat} {rd : Option Nat} {fr : Fr} {h : Heap} {Q : Ex → Fr → Heap → Prop} : s22_51.wp E nt rd fr h Q = (GC.cond (.tmp 25) s22_50 .skip).wp E nt rd fr h Q := Eq.trans rfl rfl
def r22_52 : List GO := [⟨none, some 18, .fieldAddr 45 (.tmp 2) 5⟩,
  ⟨none, some 19, .fieldAddr 42 (.tmp 18) 1⟩,
  ⟨none, some 20, .load 38 (.tmp 19)⟩,
  ⟨none, some 21, .move (.tmp 6)⟩,
  ⟨none, some 22, .indexAddr 38 (.tmp 20) (.tmp 21)⟩,
  ⟨none, some 23, .load 3 (.tmp 22)⟩,
  ⟨none, some 24, .move (.tmp 1)⟩,
  ⟨none, some 25, .binOp .eql 3 (.tmp 23) (.tmp 24) 3⟩]
theorem r22_52_w {E : Env} {fr : Fr} {h : Heap} {Q : Fr → Heap → Prop} : opsW E r22_52 fr h Q = opsW E [⟨none, some 18, .fieldAddr 45 (.tmp 2) 5⟩,
  ⟨none, some 19, .fieldAddr 42 (.tmp 18) 1⟩,
  ⟨none, some 20, .load 38 (.tmp 19)⟩,
  ⟨none, some 21, .move (.tmp 6)⟩,
  ⟨none, some 22, .indexAddr 38 (.tmp 20) (.tmp 21)⟩,
  ⟨none, some 23, .load 3 (.tmp 22)⟩,
  ⟨none, some 24, .move (.tmp 1)⟩,
  ⟨none, some 25, .binOp .eql 3 (.tmp 23) (.tmp 24) 3⟩] fr h Q := Eq.trans rfl rfl
def s22_53 : GC := .seq (.ops r22_52) s22_51
theorem s22_53_w {E : Env} {nt : Nat} {rd : Option Nat} {fr : Fr} {h : Heap} {Q : Ex → Fr → Heap → Prop} : s22_53.wp E nt rd fr h Q = (GC.seq (.ops r22_52) s22_51).wp E nt rd fr h Q := Eq.trans rfl rfl
def s22_54 : GC := .seq (.block 1 s22_53) s22_48
theorem s22_54_w {E : Env} {nt : Nat} {rd : Option Nat} {fr : Fr} {h : Heap} {Q : Ex → Fr → Heap → Prop} : s22_54.wp E nt rd fr h Q = (GC.seq (.block 1 s22_53) s22_48).wp E nt rd fr h Q := Eq.trans rfl rfl
def s22_55 : GC := .cond (.tmp 15) .skip (.exit 0)
theorem s22_55_w {E : Env} {nt : Nat} {rd : Option Nat} {fr : Fr} {h : Heap} {Q : Ex → Fr → Heap → Prop} : s22_55.wp E nt rd fr h Q = (GC.cond (.tmp 15) .skip (.exit 0)).wp E nt rd fr h Q := Eq.trans rfl rfl
def r22_56 : List GO := [⟨none, some 10, .move (.tmp 6)⟩,
  ⟨none, some 11, .fieldAddr 45 (.tmp 2) 5⟩,
  ⟨none, some 12, .fieldAddr 42 (.tmp 11) 1⟩,
  ⟨none, some 13, .load 38 (.tmp 12)⟩,
  ⟨none, some 14, .call ⟨.builtin .len, ⟨[.tmp 13]⟩, ⟨[38]⟩⟩⟩,
  ⟨none, some 15, .binOp .lss 3 (.tmp 10) (.tmp 14) 3⟩]
theorem r22_56_w {E : Env} {fr : Fr} {h : Heap} {Q : Fr → Heap → Prop} : opsW E r22_56 fr h Q = opsW E [⟨none, some 10, .move (.tmp 6)⟩,
  ⟨none, some 11, .fieldAddr 45 (.tmp 2) 5⟩,
  ⟨none, some 12, .fieldAddr 42 (.tmp 11) 1⟩,
  ⟨none, some 13, .load 38 (.tmp 12)⟩,
  ⟨none, some 14, .call ⟨.builtin .len, ⟨[.tmp 13]⟩, ⟨[38]⟩⟩⟩,
  ⟨none, some 15, .binOp .lss 3 (.tmp 10) (.tmp 14) 3⟩] fr h Q := Eq.trans rfl rfl
def s22_57 : GC := .seq (.ops r22_56) s22_55
theorem s22_57_w {E : Env} {nt : Nat} {rd : Option Nat} {fr : Fr} {h : Heap} {Q : Ex → Fr → Heap → Prop} : s22_57.wp E nt rd fr h Q = (GC.seq (.ops r22_56) s22_55).wp E nt rd fr h Q := Eq.trans rfl rfl
def s22_58 : GC := .seq (s22_57) s22_54
theorem s22_58_w {E : Env} {nt : Nat} {rd : Option Nat} {fr : Fr} {h : Heap} {Q : Ex → Fr → Heap → Prop} : s22_58.wp E nt rd fr h Q = (GC.seq (s22_57) s22_54).wp E nt rd fr h Q := Eq.trans rfl rfl
def s22_59 : GC := .loop s22_58
theorem s22_59_w {E : Env} {nt : Nat} {rd : Option Nat} {fr : Fr} {h : Heap} {Q : Ex → Fr → Heap → Prop} : s22_59.wp E nt rd fr h Q = (GC.loop s22_58).wp E nt rd fr h Q := Eq.trans rfl rfl
def s22_60 : GC := .block 0 s22_59
theorem s22_60_w {E : Env} {nt : Nat} {rd : Option Nat} {fr : Fr} {h : Heap} {Q : Ex → Fr → Heap → Prop} : s22_60.wp E nt rd fr h Q = (GC.block 0 s22_59).wp E nt rd fr h Q := Eq.trans rfl rfl
def r22_61 : List GO := [⟨none, some 6, .assign (.const (.int .i64 0))⟩]
theorem r22_61_w {E : Env} {fr : Fr} {h : Heap} {Q : Fr → Heap → Prop} : opsW E r22_61 fr h Q = opsW E [⟨none, some 6, .assign (.const (.int .i64 0))⟩] fr h Q := Eq.trans rfl rfl
def s22_62 : GC := .seq (.ops r22_61) s22_60
theorem s22_62_w {E : Env} {nt : Nat} {rd : Option Nat} {fr : Fr} {h : Heap} {Q : Ex → Fr → Heap → Prop} : s22_62.wp E nt rd fr h Q = (GC.seq (.ops r22_61) s22_60).wp E nt rd fr h Q := Eq.trans rfl rfl
def s22_63 : GC := .seq (s22_62) s22_46
theorem s22_63_w {E : Env} {nt : Nat} {rd : Option Nat} {fr : Fr} {h : Heap} {Q : Ex → Fr → Heap → Prop} : s22_63.wp E nt rd fr h Q = (GC.seq (s22_62) s22_46).wp E nt rd fr h Q := Eq.trans rfl rfl
def r22_64 : List GO := [⟨none, some 5, .assign (.const (.int .i64 0))⟩]
theorem r22_64_w {E : Env} {fr : Fr} {h : Heap} {Q : Fr → Heap → Prop} : opsW E r22_64 fr h Q = opsW E [⟨none, some 5, .assign (.const (.int .i64 0))⟩] fr h Q := Eq.trans rfl rfl
def s22_65 : GC := .seq (.ops r22_64) s22_63
theorem s22_65_w {E : Env} {nt : Nat} {rd : Option Nat} {fr : Fr} {h : Heap} {Q : Ex → Fr → Heap → Prop} : s22_65.wp E nt rd fr h Q = (GC.seq (.ops r22_64) s22_63).wp E nt rd fr h Q := Eq.trans rfl rfl
def r22_66 : List GO := [⟨none, some 2, .box 45 (.tmp 0)⟩,
  ⟨none, some 4, .assign (.const (.int .i64 0))⟩]
theorem r22_66_w {E : Env} {fr : Fr} {h : Heap} {Q : Fr → Heap → Prop} : opsW E r22_66 fr h Q = opsW E [⟨none, some 2, .box 45 (.tmp 0)⟩,
  ⟨none, some 4, .assign (.const (.int .i64 0))⟩] fr h Q := Eq.trans rfl rfl
def s22_67 : GC := .seq (.ops r22_66) s22_65
theorem s22_67_w {E : Env} {nt : Nat} {rd : Option Nat} {fr : Fr} {h : Heap} {Q : Ex → Fr → Heap → Prop} : s22_67.wp E nt rd fr h Q = (GC.seq (.ops r22_66) s22_65).wp E nt rd fr h Q := Eq.trans rfl rfl
theorem c22 : Try.f22.body.bind (clean env 79) = some s22_67 := by kernel_rfl
theorem e22 : env.funs.get 22 = some Try.f22 := by kernel_rfl
theorem F22 {args : List Value} {h : Heap} {K : Value → Heap → Prop} (hl : args.length = 2) (w : s22_67.wp env 79 none (setAll args 0 .leaf) h (resK env [.tmp 4] K)) : Ret env (.func 22) args h K :=
  Ret.of_body' rfl e22 c22 rfl rfl (by rw [hl]; decide) w
/-! helmsman/helmsmanref30.runs -/
def r23_0 : List GO := [⟨none, some 35, .move (.tmp 8)⟩,
  ⟨none, some 36, .move (.tmp 9)⟩,
  ⟨none, some 6, .assign (.tmp 35)⟩,
  ⟨none, some 7, .assign (.tmp 36)⟩]
theorem r23_0_w {E : Env} {fr : Fr} {h : Heap} {Q : Fr → Heap → Prop} : opsW E r23_0 fr h Q = opsW E [⟨none, some 35, .move (.tmp 8)⟩,
  ⟨none, some 36, .move (.tmp 9)⟩,
  ⟨none, some 6, .assign (.tmp 35)⟩,
  ⟨none, some 7, .assign (.tmp 36)⟩] fr h Q := Eq.trans rfl rfl
def s23_1 : GC := .seq (.ops r23_0) .ret
theorem s23_1_w {E : Env} {nt : Nat} {rd : Option Nat} {fr : Fr} {h : Heap} {Q : Ex → Fr → Heap → Prop} : s23_1.wp E nt rd fr h Q = (GC.seq (.ops r23_0) .ret).wp E nt rd fr h Q := Eq.trans rfl rfl
def r23_2 : List GO := [⟨none, some 17, .move (.tmp 10)⟩,
  ⟨none, some 18, .binOp .add 3 (.tmp 17) (.const (.int .i64 1)) 3⟩,
  ⟨none, some 10, .assign (.tmp 18)⟩]
theorem r23_2_w {E : Env} {fr : Fr} {h : Heap} {Q : Fr → Heap → Prop} : opsW E r23_2 fr h Q = opsW E [⟨none, some 17, .move (.tmp 10)⟩,
  ⟨none, some 18, .binOp .add 3 (.tmp 17) (.const (.int .i64 1)) 3⟩,
  ⟨none, some 10, .assign (.tmp 18)⟩] fr h Q := Eq.trans rfl rfl
def s23_3 : GC := .ops r23_2
theorem s23_3_w {E : Env} {nt : Nat} {rd : Option Nat} {fr : Fr} {h : Heap} {Q : Ex → Fr → Heap → Prop} : s23_3.wp E nt rd fr h Q = (GC.ops r23_2).wp E nt rd fr h Q := Eq.trans rfl rfl
def r23_4 : List GO := [⟨none, some 29, .move (.tmp 9)⟩,
  ⟨none, some 30, .move (.tmp 29)⟩,
  ⟨some (30, true), some 31, .move (.tmp 2)⟩,
  ⟨some (30, true), some 32, .move (.tmp 10)⟩,
  ⟨some (30, true), some 33, .call ⟨.value (.func 53), ⟨[.tmp 31, .tmp 32]⟩, ⟨[5, 3]⟩⟩⟩,
  ⟨none, some 34, .pick (.tmp 30) (.tmp 33) (.const (.bool false))⟩,
  ⟨none, some 9, .assign (.tmp 34)⟩]
theorem r23_4_w {E : Env} {fr : Fr} {h : Heap} {Q : Fr → Heap → Prop} : opsW E r23_4 fr h Q = opsW E [⟨none, some 29, .move (.tmp 9)⟩,
  ⟨none, some 30, .move (.tmp 29)⟩,
  ⟨some (30, true), some 31, .move (.tmp 2)⟩,
  ⟨some (30, true), some 32, .move (.tmp 10)⟩,
  ⟨some (30, true), some 33, .call ⟨.value (.func 53), ⟨[.tmp 31, .tmp 32]⟩, ⟨[5, 3]⟩⟩⟩,
  ⟨none, some 34, .pick (.tmp 30) (.tmp 33) (.const (.bool false))⟩,
  ⟨none, some 9, .assign (.tmp 34)⟩] fr h Q := Eq.trans rfl rfl
def s23_5 : GC := .ops r23_4
theorem s23_5_w {E : Env} {nt : Nat} {rd : Option Nat} {fr : Fr} {h : Heap} {Q : Ex → Fr → Heap → Prop} : s23_5.wp E nt rd fr h Q = (GC.ops r23_4).wp E nt rd fr h Q := Eq.trans rfl rfl
def r23_6 : List GO := [⟨none, some 27, .move (.tmp 8)⟩,
  ⟨none, some 28, .binOp .add 3 (.tmp 27) (.const (.int .i64 1)) 3⟩,
  ⟨none, some 8, .assign (.tmp 28)⟩]
theorem r23_6_w {E : Env} {fr : Fr} {h : Heap} {Q : Fr → Heap → Prop} : opsW E r23_6 fr h Q = opsW E [⟨none, some 27, .move (.tmp 8)⟩,
  ⟨none, some 28, .binOp .add 3 (.tmp 27) (.const (.int .i64 1)) 3⟩,
  ⟨none, some 8, .assign (.tmp 28)⟩] fr h Q := Eq.trans rfl rfl
def s23_7 : GC := .seq (.ops r23_6) s23_5
theorem s23_7_w {E : Env} {nt : Nat} {rd : Option Nat} {fr : Fr} {h : Heap} {Q : Ex → Fr → Heap → Prop} : s23_7.wp E nt rd fr h Q = (GC.seq (.ops r23_6) s23_5).wp E nt rd fr h Q := Eq.trans rfl rfl
def s23_8 : GC := .cond (.tmp 26) s23_7 .skip
theorem s23_8_w {E : Env} {nt : Nat} {rd : Option Nat} {fr : Fr} {h : Heap} {Q : Ex → Fr → Heap → Prop} : s23_8.wp E nt rd fr h Q = (GC.cond (.tmp 26) s23_7 .skip).wp E nt rd fr h Q := Eq.trans rfl rfl
def r23_9 : List GO := [⟨none, some 19, .fieldAddr 45 (.tmp 3) 5⟩,
  ⟨none, some 20, .fieldAddr 42 (.tmp 19) 0⟩,
  ⟨none, some 21, .load 38 (.tmp 20)⟩,
  ⟨none, some 22, .move (.tmp 10)⟩,
  ⟨none, some 23, .indexAddr 38 (.tmp 21) (.tmp 22)⟩,
  ⟨none, some 24, .load 3 (.tmp 23)⟩,
  ⟨none, some 25, .move (.tmp 1)⟩,
  ⟨none, some 26, .binOp .eql 3 (.tmp 24) (.tmp 25) 3⟩]
theorem r23_9_w {E : Env} {fr : Fr} {h : Heap} {Q : Fr → Heap → Prop} : opsW E r23_9 fr h Q = opsW E [⟨none, some 19, .fieldAddr 45 (.tmp 3) 5⟩,
  ⟨none, some 20, .fieldAddr 42 (.tmp 19) 0⟩,
  ⟨none, some 21, .load 38 (.tmp 20)⟩,
  ⟨none, some 22, .move (.tmp 10)⟩,
  ⟨none, some 23, .indexAddr 38 (.tmp 21) (.tmp 22)⟩,
  ⟨none, some 24, .load 3 (.tmp 23)⟩,
  ⟨none, some 25, .move (.tmp 1)⟩,
  ⟨none, some 26, .binOp .eql 3 (.tmp 24) (.tmp 25) 3⟩] fr h Q := Eq.trans rfl rfl
def s23_10 : GC := .seq (.ops r23_9) s23_8
theorem s23_10_w {E : Env} {nt : Nat} {rd : Option Nat} {fr : Fr} {h : Heap} {Q : Ex → Fr → Heap → Prop} : s23_10.wp E nt rd fr h Q = (GC.seq (.ops r23_9) s23_8).wp E nt rd fr h Q := Eq.trans rfl rfl
def s23_11 : GC := .seq (.block 1 s23_10) s23_3
theorem s23_11_w {E : Env} {nt : Nat} {rd : Option Nat} {fr : Fr} {h : Heap} {Q : Ex → Fr → Heap → Prop} : s23_11.wp E nt rd fr h Q = (GC.seq (.block 1 s23_10) s23_3).wp E nt rd fr h Q := Eq.trans rfl rfl
def s23_12 : GC := .cond (.tmp 16) .skip (.exit 0)
theorem s23_12_w {E : Env} {nt : Nat} {rd : Option Nat} {fr : Fr} {h : Heap} {Q : Ex → Fr → Heap → Prop} : s23_12.wp E nt rd fr h Q = (GC.cond (.tmp 16) .skip (.exit 0)).wp E nt rd fr h Q := Eq.trans rfl rfl
def r23_13 : List GO := [⟨none, some 11, .move (.tmp 10)⟩,
  ⟨none, some 12, .fieldAddr 45 (.tmp 3) 5⟩,
  ⟨none, some 13, .fieldAddr 42 (.tmp 12) 0⟩,
  ⟨none, some 14, .load 38 (.tmp 13)⟩,
  ⟨none, some 15, .call ⟨.builtin .len, ⟨[.tmp 14]⟩, ⟨[38]⟩⟩⟩,
  ⟨none, some 16, .binOp .lss 3 (.tmp 11) (.tmp 15) 3⟩]
theorem r23_13_w {E : Env} {fr : Fr} {h : Heap} {Q : Fr → Heap → Prop} : opsW E r23_13 fr h Q = opsW E [⟨none, some 11, .move (.tmp 10)⟩,
  ⟨none, some 12, .fieldAddr 45 (.tmp 3) 5⟩,
  ⟨none, some 13, .fieldAddr 42 (.tmp 12) 0⟩,
  ⟨none, some 14, .load 38 (.tmp 13)⟩,
  ⟨none, some 15, .call ⟨.builtin .len, ⟨[.tmp 14]⟩, ⟨[38]⟩⟩⟩,
  ⟨none, some 16, .binOp .lss 3 (.tmp 11) (.tmp 15) 3⟩] fr h Q := Eq.trans rfl rfl
def s23_14 : GC := .seq (.ops r23_13) s23_12
theorem s23_14_w {E : Env} {nt : Nat} {rd : Option Nat} {fr : Fr} {h : Heap} {Q : Ex → Fr → Heap → Prop} : s23_14.wp E nt rd fr h Q = (GC.seq (.ops r23_13) s23_12).wp E nt rd fr h Q := Eq.trans rfl rfl
def s23_15 : GC := .seq (s23_14) s23_11
theorem s23_15_w {E : Env} {nt : Nat} {rd : Option Nat} {fr : Fr} {h : Heap} {Q : Ex → Fr → Heap → Prop} : s23_15.wp E nt rd fr h Q = (GC.seq (s23_14) s23_11).wp E nt rd fr h Q := Eq.trans rfl rfl
def s23_16 : GC := .loop s23_15
theorem s23_16_w {E : Env} {nt : Nat} {rd : Option Nat} {fr : Fr} {h : Heap} {Q : Ex → Fr → Heap → Prop} : s23_16.wp E nt rd fr h Q = (GC.loop s23_15).wp E nt rd fr h Q := Eq.trans rfl rfl
def s23_17 : GC := .block 0 s23_16
theorem s23_17_w {E : Env} {nt : Nat} {rd : Option Nat} {fr : Fr} {h : Heap} {Q : Ex → Fr → Heap → Prop} : s23_17.wp E nt rd fr h Q = (GC.block 0 s23_16).wp E nt rd fr h Q := Eq.trans rfl rfl
def r23_18 : List GO := [⟨none, some 10, .assign (.const (.int .i64 0))⟩]
theorem r23_18_w {E : Env} {fr : Fr} {h : Heap} {Q : Fr → Heap → Prop} : opsW E r23_18 fr h Q = opsW E [⟨none, some 10, .assign (.const (.int .i64 0))⟩] fr h Q := Eq.trans rfl rfl
def s23_19 : GC := .seq (.ops r23_18) s23_17
theorem s23_19_w {E : Env} {nt : Nat} {rd : Option Nat} {fr : Fr} {h : Heap} {Q : Ex → Fr → Heap → Prop} : s23_19.wp E nt rd fr h Q = (GC.seq (.ops r23_18) s23_17).wp E nt rd fr h Q := Eq.trans rfl rfl
def s23_20 : GC := .seq (s23_19) s23_1
theorem s23_20_w {E : Env} {nt : Nat} {rd : Option Nat} {fr : Fr} {h : Heap} {Q : Ex → Fr → Heap → Prop} : s23_20.wp E nt rd fr h Q = (GC.seq (s23_19) s23_1).wp E nt rd fr h Q := Eq.trans rfl rfl
def r23_21 : List GO := [⟨none, some 8, .assign (.const (.int .i64 0))⟩,
  ⟨none, some 9, .assign (.const (.bool true))⟩]
theorem r23_21_w {E : Env} {fr : Fr} {h : Heap} {Q : Fr → Heap → Prop} : opsW E r23_21 fr h Q = opsW E [⟨none, some 8, .assign (.const (.int .i64 0))⟩,
  ⟨none, some 9, .assign (.const (.bool true))⟩] fr h Q := Eq.trans rfl rfl
def s23_22 : GC := .seq (.ops r23_21) s23_20
theorem s23_22_w {E : Env} {nt : Nat} {rd : Option Nat} {fr : Fr} {h : Heap} {Q : Ex → Fr → Heap → Prop} : s23_22.wp E nt rd fr h Q = (GC.seq (.ops r23_21) s23_20).wp E nt rd fr h Q := Eq.trans rfl rfl
def r23_23 : List GO := [⟨none, some 3, .box 45 (.tmp 0)⟩,
  ⟨none, some 6, .assign (.const (.int .i64 0))⟩,
  ⟨none, some 7, .assign (.const (.bool false))⟩]
theorem r23_23_w {E : Env} {fr : Fr} {h : Heap} {Q : Fr → Heap → Prop} : opsW E r23_23 fr h Q = opsW E [⟨none, some 3, .box 45 (.tmp 0)⟩,
  ⟨none, some 6, .assign (.const (.int .i64 0))⟩,
  ⟨none, some 7, .assign (.const (.bool false))⟩] fr h Q := Eq.trans rfl rfl
def s23_24 : GC := .seq (.ops r23_23) s23_22
theorem s23_24_w {E : Env} {nt : Nat} {rd : Option Nat} {fr : Fr} {h : Heap} {Q : Ex → Fr → Heap → Prop} : s23_24.wp E nt rd fr h Q = (GC.seq (.ops r23_23) s23_22).wp E nt rd fr h Q := Eq.trans rfl rfl
theorem c23 : Try.f23.body.bind (clean env 37) = some s23_24 := by kernel_rfl
theorem e23 : env.funs.get 23 = some Try.f23 := by kernel_rfl
theorem F23 {args : List Value} {h : Heap} {K : Value → Heap → Prop} (hl : args.length = 3) (w : s23_24.wp env 37 none (setAll args 0 .leaf) h (resK env [.tmp 6, .tmp 7] K)) : Ret env (.func 23) args h K :=
  Ret.of_body' rfl e23 c23 rfl rfl (by rw [hl]; decide) w
/-! helmsman/helmsmanref30.timers -/
def r24_0 : List GO := [⟨none, some 39, .move (.tmp 8)⟩,
  ⟨none, some 40, .move (.tmp 9)⟩,
  ⟨none, some 6, .assign (.tmp 39)⟩,
  ⟨none, some 7, .assign (.tmp 40)⟩]
theorem r24_0_w {E : Env} {fr : Fr} {h : Heap} {Q : Fr → Heap → Prop} : opsW E r24_0 fr h Q = opsW E [⟨none, some 39, .move (.tmp 8)⟩,
  ⟨none, some 40, .move (.tmp 9)⟩,
  ⟨none, some 6, .assign (.tmp 39)⟩,
  ⟨none, some 7, .assign (.tmp 40)⟩] fr h Q := Eq.trans rfl rfl
def s24_1 : GC := .seq (.ops r24_0) .ret
theorem s24_1_w {E : Env} {nt : Nat} {rd : Option Nat} {fr : Fr} {h : Heap} {Q : Ex → Fr → Heap → Prop} : s24_1.wp E nt rd fr h Q = (GC.seq (.ops r24_0) .ret).wp E nt rd fr h Q := Eq.trans rfl rfl
def r24_2 : List GO := [⟨none, some 16, .move (.tmp 10)⟩,
  ⟨none, some 17, .binOp .add 3 (.tmp 16) (.const (.int .i64 1)) 3⟩,
  ⟨none, some 10, .assign (.tmp 17)⟩]
theorem r24_2_w {E : Env} {fr : Fr} {h : Heap} {Q : Fr → Heap → Prop} : opsW E r24_2 fr h Q = opsW E [⟨none, some 16, .move (.tmp 10)⟩,
  ⟨none, some 17, .binOp .add 3 (.tmp 16) (.const (.int .i64 1)) 3⟩,
  ⟨none, some 10, .assign (.tmp 17)⟩] fr h Q := Eq.trans rfl rfl
def s24_3 : GC := .ops r24_2
theorem s24_3_w {E : Env} {nt : Nat} {rd : Option Nat} {fr : Fr} {h : Heap} {Q : Ex → Fr → Heap → Prop} : s24_3.wp E nt rd fr h Q = (GC.ops r24_2).wp E nt rd fr h Q := Eq.trans rfl rfl
def r24_4 : List GO := [⟨none, some 28, .move (.tmp 9)⟩,
  ⟨none, some 29, .move (.tmp 28)⟩,
  ⟨some (29, true), some 30, .fieldAddr 45 (.tmp 3) 6⟩,
  ⟨some (29, true), some 31, .load 43 (.tmp 30)⟩,
  ⟨some (29, true), some 32, .move (.tmp 10)⟩,
  ⟨some (29, true), some 33, .indexAddr 43 (.tmp 31) (.tmp 32)⟩,
  ⟨some (29, true), some 34, .fieldAddr 78 (.tmp 33) 0⟩,
  ⟨some (29, true), some 35, .load 22 (.tmp 34)⟩,
  ⟨some (29, true), some 36, .move (.tmp 2)⟩,
  ⟨some (29, true), some 37, .binOp .eql 22 (.tmp 35) (.tmp 36) 22⟩,
  ⟨none, some 38, .pick (.tmp 29) (.tmp 37) (.const (.bool false))⟩,
  ⟨none, some 9, .assign (.tmp 38)⟩]
theorem r24_4_w {E : Env} {fr : Fr} {h : Heap} {Q : Fr → Heap → Prop} : opsW E r24_4 fr h Q = opsW E [⟨none, some 28, .move (.tmp 9)⟩,
  ⟨none, some 29, .move (.tmp 28)⟩,
  ⟨some (29, true), some 30, .fieldAddr 45 (.tmp 3) 6⟩,
  ⟨some (29, true), some 31, .load 43 (.tmp 30)⟩,
  ⟨some (29, true), some 32, .move (.tmp 10)⟩,
  ⟨some (29, true), some 33, .indexAddr 43 (.tmp 31) (.tmp 32)⟩,
  ⟨some (29, true), some 34, .fieldAddr 78 (.tmp 33) 0⟩,
  ⟨some (29, true), some 35, .load 22 (.tmp 34)⟩,
  ⟨some (29, true), some 36, .move (.tmp 2)⟩,
  ⟨some (29, true), some 37, .binOp .eql 22 (.tmp 35) (.tmp 36) 22⟩,
  ⟨none, some 38, .pick (.tmp 29) (.tmp 37) (.const (.bool false))⟩,
  ⟨none, some 9, .assign (.tmp 38)⟩] fr h Q := Eq.trans rfl rfl
def s24_5 : GC := .ops r24_4
theorem s24_5_w {E : Env} {nt : Nat} {rd : Option Nat} {fr : Fr} {h : Heap} {Q : Ex → Fr → Heap → Prop} : s24_5.wp E nt rd fr h Q = (GC.ops r24_4).wp E nt rd fr h Q := Eq.trans rfl rfl
def r24_6 : List GO := [⟨none, some 26, .move (.tmp 8)⟩,
  ⟨none, some 27, .binOp .add 3 (.tmp 26) (.const (.int .i64 1)) 3⟩,
  ⟨none, some 8, .assign (.tmp 27)⟩]
theorem r24_6_w {E : Env} {fr : Fr} {h : Heap} {Q : Fr → Heap → Prop} : opsW E r24_6 fr h Q = opsW E [⟨none, some 26, .move (.tmp 8)⟩,
  ⟨none, some 27, .binOp .add 3 (.tmp 26) (.const (.int .i64 1)) 3⟩,
  ⟨none, some 8, .assign (.tmp 27)⟩] fr h Q := Eq.trans rfl rfl
def s24_7 : GC := .seq (.ops r24_6) s24_5
theorem s24_7_w {E : Env} {nt : Nat} {rd : Option Nat} {fr : Fr} {h : Heap} {Q : Ex → Fr → Heap → Prop} : s24_7.wp E nt rd fr h Q = (GC.seq (.ops r24_6) s24_5).wp E nt rd fr h Q := Eq.trans rfl rfl
def s24_8 : GC := .cond (.tmp 25) s24_7 .skip
theorem s24_8_w {E : Env} {nt : Nat} {rd : Option Nat} {fr : Fr} {h : Heap} {Q : Ex → Fr → Heap → Prop} : s24_8.wp E nt rd fr h Q = (GC.cond (.tmp 25) s24_7 .skip).wp E nt rd fr h Q := Eq.trans rfl rfl
def r24_9 : List GO := [⟨none, some 18, .fieldAddr 45 (.tmp 3) 6⟩,
  ⟨none, some 19, .load 43 (.tmp 18)⟩,
  ⟨none, some 20, .move (.tmp 10)⟩,
  ⟨none, some 21, .indexAddr 43 (.tmp 19) (.tmp 20)⟩,
  ⟨none, some 22, .fieldAddr 78 (.tmp 21) 1⟩,
  ⟨none, some 23, .load 3 (.tmp 22)⟩,
  ⟨none, some 24, .move (.tmp 1)⟩,
  ⟨none, some 25, .binOp .eql 3 (.tmp 23) (.tmp 24) 3⟩]
theorem r24_9_w {E : Env} {fr : Fr} {h : Heap} {Q : Fr → Heap → Prop} : opsW E r24_9 fr h Q = opsW E [⟨none, some 18, .fieldAddr 45 (.tmp 3) 6⟩,
  ⟨none, some 19, .load 43 (.tmp 18)⟩,
  ⟨none, some 20, .move (.tmp 10)⟩,
  ⟨none, some 21, .indexAddr 43 (.tmp 19) (.tmp 20)⟩,
  ⟨none, some 22, .fieldAddr 78 (.tmp 21) 1⟩,
  ⟨none, some 23, .load 3 (.tmp 22)⟩,
  ⟨none, some 24, .move (.tmp 1)⟩,
  ⟨none, some 25, .binOp .eql 3 (.tmp 23) (.tmp 24) 3⟩] fr h Q := Eq.trans rfl rfl
def s24_10 : GC := .seq (.ops r24_9) s24_8
theorem s24_10_w {E : Env} {nt : Nat} {rd : Option Nat} {fr : Fr} {h : Heap} {Q : Ex → Fr → Heap → Prop} : s24_10.wp E nt rd fr h Q = (GC.seq (.ops r24_9) s24_8).wp E nt rd fr h Q := Eq.trans rfl rfl
def s24_11 : GC := .seq (.block 1 s24_10) s24_3
theorem s24_11_w {E : Env} {nt : Nat} {rd : Option Nat} {fr : Fr} {h : Heap} {Q : Ex → Fr → Heap → Prop} : s24_11.wp E nt rd fr h Q = (GC.seq (.block 1 s24_10) s24_3).wp E nt rd fr h Q := Eq.trans rfl rfl
def s24_12 : GC := .cond (.tmp 15) .skip (.exit 0)
theorem s24_12_w {E : Env} {nt : Nat} {rd : Option Nat} {fr : Fr} {h : Heap} {Q : Ex → Fr → Heap → Prop} : s24_12.wp E nt rd fr h Q = (GC.cond (.tmp 15) .skip (.exit 0)).wp E nt rd fr h Q := Eq.trans rfl rfl
def r24_13 : List GO := [⟨none, some 11, .move (.tmp 10)⟩,
  ⟨none, some 12, .fieldAddr 45 (.tmp 3) 6⟩,
  ⟨none, some 13, .load 43 (.tmp 12)⟩,
  ⟨none, some 14, .call ⟨.builtin .len, ⟨[.tmp 13]⟩, ⟨[43]⟩⟩⟩,
  ⟨none, some 15, .binOp .lss 3 (.tmp 11) (.tmp 14) 3⟩]
theorem r24_13_w {E : Env} {fr : Fr} {h : Heap} {Q : Fr → Heap → Prop} : opsW E r24_13 fr h Q = opsW E [⟨none, some 11, .move (.tmp 10)⟩,
  ⟨none, some 12, .fieldAddr 45 (.tmp 3) 6⟩,
  ⟨none, some 13, .load 43 (.tmp 12)⟩,
  ⟨none, some 14, .call ⟨.builtin .len, ⟨[.tmp 13]⟩, ⟨[43]⟩⟩⟩,
  ⟨none, some 15, .binOp .lss 3 (.tmp 11) (.tmp 14) 3⟩] fr h Q := Eq.trans rfl rfl
def s24_14 : GC := .seq (.ops r24_13) s24_12
theorem s24_14_w {E : Env} {nt : Nat} {rd : Option Nat} {fr : Fr} {h : Heap} {Q : Ex → Fr → Heap → Prop} : s24_14.wp E nt rd fr h Q = (GC.seq (.ops r24_13) s24_12).wp E nt rd fr h Q := Eq.trans rfl rfl
def s24_15 : GC := .seq (s24_14) s24_11
theorem s24_15_w {E : Env} {nt : Nat} {rd : Option Nat} {fr : Fr} {h : Heap} {Q : Ex → Fr → Heap → Prop} : s24_15.wp E nt rd fr h Q = (GC.seq (s24_14) s24_11).wp E nt rd fr h Q := Eq.trans rfl rfl
def s24_16 : GC := .loop s24_15
theorem s24_16_w {E : Env} {nt : Nat} {rd : Option Nat} {fr : Fr} {h : Heap} {Q : Ex → Fr → Heap → Prop} : s24_16.wp E nt rd fr h Q = (GC.loop s24_15).wp E nt rd fr h Q := Eq.trans rfl rfl
def s24_17 : GC := .block 0 s24_16
theorem s24_17_w {E : Env} {nt : Nat} {rd : Option Nat} {fr : Fr} {h : Heap} {Q : Ex → Fr → Heap → Prop} : s24_17.wp E nt rd fr h Q = (GC.block 0 s24_16).wp E nt rd fr h Q := Eq.trans rfl rfl
def r24_18 : List GO := [⟨none, some 10, .assign (.const (.int .i64 0))⟩]
theorem r24_18_w {E : Env} {fr : Fr} {h : Heap} {Q : Fr → Heap → Prop} : opsW E r24_18 fr h Q = opsW E [⟨none, some 10, .assign (.const (.int .i64 0))⟩] fr h Q := Eq.trans rfl rfl
def s24_19 : GC := .seq (.ops r24_18) s24_17
theorem s24_19_w {E : Env} {nt : Nat} {rd : Option Nat} {fr : Fr} {h : Heap} {Q : Ex → Fr → Heap → Prop} : s24_19.wp E nt rd fr h Q = (GC.seq (.ops r24_18) s24_17).wp E nt rd fr h Q := Eq.trans rfl rfl
def s24_20 : GC := .seq (s24_19) s24_1
theorem s24_20_w {E : Env} {nt : Nat} {rd : Option Nat} {fr : Fr} {h : Heap} {Q : Ex → Fr → Heap → Prop} : s24_20.wp E nt rd fr h Q = (GC.seq (s24_19) s24_1).wp E nt rd fr h Q := Eq.trans rfl rfl
def r24_21 : List GO := [⟨none, some 8, .assign (.const (.int .i64 0))⟩,
  ⟨none, some 9, .assign (.const (.bool true))⟩]
theorem r24_21_w {E : Env} {fr : Fr} {h : Heap} {Q : Fr → Heap → Prop} : opsW E r24_21 fr h Q = opsW E [⟨none, some 8, .assign (.const (.int .i64 0))⟩,
  ⟨none, some 9, .assign (.const (.bool true))⟩] fr h Q := Eq.trans rfl rfl
def s24_22 : GC := .seq (.ops r24_21) s24_20
theorem s24_22_w {E : Env} {nt : Nat} {rd : Option Nat} {fr : Fr} {h : Heap} {Q : Ex → Fr → Heap → Prop} : s24_22.wp E nt rd fr h Q = (GC.seq (.ops r24_21) s24_20).wp E nt rd fr h Q := Eq.trans rfl rfl
def r24_23 : List GO := [⟨none, some 3, .box 45 (.tmp 0)⟩,
  ⟨none, some 6, .assign (.const (.int .i64 0))⟩,
  ⟨none, some 7, .assign (.const (.bool false))⟩]
theorem r24_23_w {E : Env} {fr : Fr} {h : Heap} {Q : Fr → Heap → Prop} : opsW E r24_23 fr h Q = opsW E [⟨none, some 3, .box 45 (.tmp 0)⟩,
  ⟨none, some 6, .assign (.const (.int .i64 0))⟩,
  ⟨none, some 7, .assign (.const (.bool false))⟩] fr h Q := Eq.trans rfl rfl
def s24_24 : GC := .seq (.ops r24_23) s24_22
theorem s24_24_w {E : Env} {nt : Nat} {rd : Option Nat} {fr : Fr} {h : Heap} {Q : Ex → Fr → Heap → Prop} : s24_24.wp E nt rd fr h Q = (GC.seq (.ops r24_23) s24_22).wp E nt rd fr h Q := Eq.trans rfl rfl
theorem c24 : Try.f24.body.bind (clean env 41) = some s24_24 := by kernel_rfl
theorem e24 : env.funs.get 24 = some Try.f24 := by kernel_rfl
theorem F24 {args : List Value} {h : Heap} {K : Value → Heap → Prop} (hl : args.length = 3) (w : s24_24.wp env 41 none (setAll args 0 .leaf) h (resK env [.tmp 6, .tmp 7] K)) : Ret env (.func 24) args h K :=
  Ret.of_body' rfl e24 c24 rfl rfl (by rw [hl]; decide) w
/-! helmsman/helmsmanref03.Find -/
def r25_0 : List GO := [⟨none, some 4, .assign (.const (.int .i64 (-1)))⟩]
theorem r25_0_w {E : Env} {fr : Fr} {h : Heap} {Q : Fr → Heap → Prop} : opsW E r25_0 fr h Q = opsW E [⟨none, some 4, .assign (.const (.int .i64 (-1)))⟩] fr h Q := Eq.trans rfl rfl
def s25_1 : GC := .seq (.ops r25_0) .ret
theorem s25_1_w {E : Env} {nt : Nat} {rd : Option Nat} {fr : Fr} {h : Heap} {Q : Ex → Fr → Heap → Prop} : s25_1.wp E nt rd fr h Q = (GC.seq (.ops r25_0) .ret).wp E nt rd fr h Q := Eq.trans rfl rfl
def r25_2 : List GO := [⟨none, some 10, .move (.tmp 5)⟩,
  ⟨none, some 11, .binOp .add 3 (.tmp 10) (.const (.int .i64 1)) 3⟩,
  ⟨none, some 5, .assign (.tmp 11)⟩]
theorem r25_2_w {E : Env} {fr : Fr} {h : Heap} {Q : Fr → Heap → Prop} : opsW E r25_2 fr h Q = opsW E [⟨none, some 10, .move (.tmp 5)⟩,
  ⟨none, some 11, .binOp .add 3 (.tmp 10) (.const (.int .i64 1)) 3⟩,
  ⟨none, some 5, .assign (.tmp 11)⟩] fr h Q := Eq.trans rfl rfl
def s25_3 : GC := .ops r25_2
theorem s25_3_w {E : Env} {nt : Nat} {rd : Option Nat} {fr : Fr} {h : Heap} {Q : Ex → Fr → Heap → Prop} : s25_3.wp E nt rd fr h Q = (GC.ops r25_2).wp E nt rd fr h Q := Eq.trans rfl rfl
def r25_4 : List GO := [⟨none, some 18, .move (.tmp 5)⟩,
  ⟨none, some 4, .assign (.tmp 18)⟩]
theorem r25_4_w {E : Env} {fr : Fr} {h : Heap} {Q : Fr → Heap → Prop} : opsW E r25_4 fr h Q = opsW E [⟨none, some 18, .move (.tmp 5)⟩,
  ⟨none, some 4, .assign (.tmp 18)⟩] fr h Q := Eq.trans rfl rfl
def s25_5 : GC := .seq (.ops r25_4) .ret
theorem s25_5_w {E : Env} {nt : Nat} {rd : Option Nat} {fr : Fr} {h : Heap} {Q : Ex → Fr → Heap → Prop} : s25_5.wp E nt rd fr h Q = (GC.seq (.ops r25_4) .ret).wp E nt rd fr h Q := Eq.trans rfl rfl
def s25_6 : GC := .cond (.tmp 17) s25_5 .skip
theorem s25_6_w {E : Env} {nt : Nat} {rd : Option Nat} {fr : Fr} {h : Heap} {Q : Ex → Fr → Heap → Prop} : s25_6.wp E nt rd fr h Q = (GC.cond (.tmp 17) s25_5 .skip).wp E nt rd fr h Q := Eq.trans rfl rfl
def r25_7 : List GO := [⟨none, some 12, .move (.tmp 0)⟩,
  ⟨none, some 13, .move (.tmp 5)⟩,
  ⟨none, some 14, .indexAddr 38 (.tmp 12) (.tmp 13)⟩,
  ⟨none, some 15, .load 3 (.tmp 14)⟩,
  ⟨none, some 16, .move (.tmp 1)⟩,
  ⟨none, some 17, .binOp .eql 3 (.tmp 15) (.tmp 16) 3⟩]
theorem r25_7_w {E : Env} {fr : Fr} {h : Heap} {Q : Fr → Heap → Prop} : opsW E r25_7 fr h Q = opsW E [⟨none, some 12, .move (.tmp 0)⟩,
  ⟨none, some 13, .move (.tmp 5)⟩,
  ⟨none, some 14, .indexAddr 38 (.tmp 12) (.tmp 13)⟩,
  ⟨none, some 15, .load 3 (.tmp 14)⟩,
  ⟨none, some 16, .move (.tmp 1)⟩,
  ⟨none, some 17, .binOp .eql 3 (.tmp 15) (.tmp 16) 3⟩] fr h Q := Eq.trans rfl rfl
def s25_8 : GC := .seq (.ops r25_7) s25_6
theorem s25_8_w {E : Env} {nt : Nat} {rd : Option Nat} {fr : Fr} {h : Heap} {Q : Ex → Fr → Heap → Prop} : s25_8.wp E nt rd fr h Q = (GC.seq (.ops r25_7) s25_6).wp E nt rd fr h Q := Eq.trans rfl rfl
def s25_9 : GC := .seq (.block 1 s25_8) s25_3
theorem s25_9_w {E : Env} {nt : Nat} {rd : Option Nat} {fr : Fr} {h : Heap} {Q : Ex → Fr → Heap → Prop} : s25_9.wp E nt rd fr h Q = (GC.seq (.block 1 s25_8) s25_3).wp E nt rd fr h Q := Eq.trans rfl rfl
def s25_10 : GC := .cond (.tmp 9) .skip (.exit 0)
theorem s25_10_w {E : Env} {nt : Nat} {rd : Option Nat} {fr : Fr} {h : Heap} {Q : Ex → Fr → Heap → Prop} : s25_10.wp E nt rd fr h Q = (GC.cond (.tmp 9) .skip (.exit 0)).wp E nt rd fr h Q := Eq.trans rfl rfl
def r25_11 : List GO := [⟨none, some 6, .move (.tmp 5)⟩,
  ⟨none, some 7, .move (.tmp 0)⟩,
  ⟨none, some 8, .call ⟨.builtin .len, ⟨[.tmp 7]⟩, ⟨[38]⟩⟩⟩,
  ⟨none, some 9, .binOp .lss 3 (.tmp 6) (.tmp 8) 3⟩]
theorem r25_11_w {E : Env} {fr : Fr} {h : Heap} {Q : Fr → Heap → Prop} : opsW E r25_11 fr h Q = opsW E [⟨none, some 6, .move (.tmp 5)⟩,
  ⟨none, some 7, .move (.tmp 0)⟩,
  ⟨none, some 8, .call ⟨.builtin .len, ⟨[.tmp 7]⟩, ⟨[38]⟩⟩⟩,
  ⟨none, some 9, .binOp .lss 3 (.tmp 6) (.tmp 8) 3⟩] fr h Q := Eq.trans rfl rfl
def s25_12 : GC := .seq (.ops r25_11) s25_10
theorem s25_12_w {E : Env} {nt : Nat} {rd : Option Nat} {fr : Fr} {h : Heap} {Q : Ex → Fr → Heap → Prop} : s25_12.wp E nt rd fr h Q = (GC.seq (.ops r25_11) s25_10).wp E nt rd fr h Q := Eq.trans rfl rfl
def s25_13 : GC := .seq (s25_12) s25_9
theorem s25_13_w {E : Env} {nt : Nat} {rd : Option Nat} {fr : Fr} {h : Heap} {Q : Ex → Fr → Heap → Prop} : s25_13.wp E nt rd fr h Q = (GC.seq (s25_12) s25_9).wp E nt rd fr h Q := Eq.trans rfl rfl
def s25_14 : GC := .loop s25_13
theorem s25_14_w {E : Env} {nt : Nat} {rd : Option Nat} {fr : Fr} {h : Heap} {Q : Ex → Fr → Heap → Prop} : s25_14.wp E nt rd fr h Q = (GC.loop s25_13).wp E nt rd fr h Q := Eq.trans rfl rfl
def s25_15 : GC := .block 0 s25_14
theorem s25_15_w {E : Env} {nt : Nat} {rd : Option Nat} {fr : Fr} {h : Heap} {Q : Ex → Fr → Heap → Prop} : s25_15.wp E nt rd fr h Q = (GC.block 0 s25_14).wp E nt rd fr h Q := Eq.trans rfl rfl
def r25_16 : List GO := [⟨none, some 5, .assign (.const (.int .i64 0))⟩]
theorem r25_16_w {E : Env} {fr : Fr} {h : Heap} {Q : Fr → Heap → Prop} : opsW E r25_16 fr h Q = opsW E [⟨none, some 5, .assign (.const (.int .i64 0))⟩] fr h Q := Eq.trans rfl rfl
def s25_17 : GC := .seq (.ops r25_16) s25_15
theorem s25_17_w {E : Env} {nt : Nat} {rd : Option Nat} {fr : Fr} {h : Heap} {Q : Ex → Fr → Heap → Prop} : s25_17.wp E nt rd fr h Q = (GC.seq (.ops r25_16) s25_15).wp E nt rd fr h Q := Eq.trans rfl rfl
def s25_18 : GC := .seq (s25_17) s25_1
theorem s25_18_w {E : Env} {nt : Nat} {rd : Option Nat} {fr : Fr} {h : Heap} {Q : Ex → Fr → Heap → Prop} : s25_18.wp E nt rd fr h Q = (GC.seq (s25_17) s25_1).wp E nt rd fr h Q := Eq.trans rfl rfl
def r25_19 : List GO := [⟨none, some 4, .assign (.const (.int .i64 0))⟩]
theorem r25_19_w {E : Env} {fr : Fr} {h : Heap} {Q : Fr → Heap → Prop} : opsW E r25_19 fr h Q = opsW E [⟨none, some 4, .assign (.const (.int .i64 0))⟩] fr h Q := Eq.trans rfl rfl
def s25_20 : GC := .seq (.ops r25_19) s25_18
theorem s25_20_w {E : Env} {nt : Nat} {rd : Option Nat} {fr : Fr} {h : Heap} {Q : Ex → Fr → Heap → Prop} : s25_20.wp E nt rd fr h Q = (GC.seq (.ops r25_19) s25_18).wp E nt rd fr h Q := Eq.trans rfl rfl
theorem c25 : Try.f25.body.bind (clean env 19) = some s25_20 := by kernel_rfl
theorem e25 : env.funs.get 25 = some Try.f25 := by kernel_rfl
theorem F25 {args : List Value} {h : Heap} {K : Value → Heap → Prop} (hl : args.length = 2) (w : s25_20.wp env 19 none (setAll args 0 .leaf) h (resK env [.tmp 4] K)) : Ret env (.func 25) args h K :=
  Ret.of_body' rfl e25 c25 rfl rfl (by rw [hl]; decide) w
/-! helmsman/fair.counted$1 -/
def r43_0 : List GO := [⟨none, some 11, .load 67 (.tmp 2)⟩,
  ⟨none, some 12, .move (.tmp 0)⟩,
  ⟨none, some 13, .load 71 (.tmp 5)⟩,
  ⟨none, none, .mapUpdate 67 (.tmp 11) (.tmp 12) (.tmp 13)⟩]
theorem r43_0_w {E : Env} {fr : Fr} {h : Heap} {Q : Fr → Heap → Prop} : opsW E r43_0 fr h Q = opsW E [⟨none, some 11, .load 67 (.tmp 2)⟩,
  ⟨none, some 12, .move (.tmp 0)⟩,
  ⟨none, some 13, .load 71 (.tmp 5)⟩,
  ⟨none, none, .mapUpdate 67 (.tmp 11) (.tmp 12) (.tmp 13)⟩] fr h Q := Eq.trans rfl rfl
def s43_1 : GC := .ops r43_0
theorem s43_1_w {E : Env} {nt : Nat} {rd : Option Nat} {fr : Fr} {h : Heap} {Q : Ex → Fr → Heap → Prop} : s43_1.wp E nt rd fr h Q = (GC.ops r43_0).wp E nt rd fr h Q := Eq.trans rfl rfl
def r43_2 : List GO := [⟨none, some 9, .move (.tmp 1)⟩,
  ⟨none, some 10, .call ⟨.value (.tmp 9), ⟨[.tmp 5]⟩, ⟨[117]⟩⟩⟩]
theorem r43_2_w {E : Env} {fr : Fr} {h : Heap} {Q : Fr → Heap → Prop} : opsW E r43_2 fr h Q = opsW E [⟨none, some 9, .move (.tmp 1)⟩,
  ⟨none, some 10, .call ⟨.value (.tmp 9), ⟨[.tmp 5]⟩, ⟨[117]⟩⟩⟩] fr h Q := Eq.trans rfl rfl
def s43_3 : GC := .seq (.ops r43_2) s43_1
theorem s43_3_w {E : Env} {nt : Nat} {rd : Option Nat} {fr : Fr} {h : Heap} {Q : Ex → Fr → Heap → Prop} : s43_3.wp E nt rd fr h Q = (GC.seq (.ops r43_2) s43_1).wp E nt rd fr h Q := Eq.trans rfl rfl
def r43_4 : List GO := [⟨none, some 6, .load 67 (.tmp 2)⟩,
  ⟨none, some 7, .move (.tmp 0)⟩,
  ⟨none, some 8, .lookup 67 (.tmp 6) (.tmp 7) false⟩,
  ⟨none, some 5, .alloc 71⟩,
  ⟨none, none, .store 71 (.tmp 5) (.tmp 8)⟩]
theorem r43_4_w {E : Env} {fr : Fr} {h : Heap} {Q : Fr → Heap → Prop} : opsW E r43_4 fr h Q = opsW E [⟨none, some 6, .load 67 (.tmp 2)⟩,
  ⟨none, some 7, .move (.tmp 0)⟩,
  ⟨none, some 8, .lookup 67 (.tmp 6) (.tmp 7) false⟩,
  ⟨none, some 5, .alloc 71⟩,
  ⟨none, none, .store 71 (.tmp 5) (.tmp 8)⟩] fr h Q := Eq.trans rfl rfl
def s43_5 : GC := .seq (.ops r43_4) s43_3
theorem s43_5_w {E : Env} {nt : Nat} {rd : Option Nat} {fr : Fr} {h : Heap} {Q : Ex → Fr → Heap → Prop} : s43_5.wp E nt rd fr h Q = (GC.seq (.ops r43_4) s43_3).wp E nt rd fr h Q := Eq.trans rfl rfl
theorem c43 : Try.f43.body.bind (clean env 14) = some s43_5 := by kernel_rfl
theorem e43 : env.funs.get 43 = some Try.f43 := by kernel_rfl
theorem F43 {args : List Value} {h : Heap} {K : Value → Heap → Prop} (hl : args.length = 3) (w : s43_5.wp env 14 none (setAll args 0 .leaf) h (resK env [] K)) : Ret env (.func 43) args h K :=
  Ret.of_body' rfl e43 c43 rfl rfl (by rw [hl]; decide) w
/-! helmsman/fair.counted$2 -/
def r44_0 : List GO := [⟨none, some 2, .move (.tmp 0)⟩,
  ⟨none, some 3, .nilCheck (.tmp 2)⟩,
  ⟨none, some 4, .fieldAddr 71 (.tmp 3) 0⟩,
  ⟨none, some 5, .load 3 (.tmp 4)⟩,
  ⟨none, some 6, .binOp .add 3 (.tmp 5) (.const (.int .i64 1)) 3⟩,
  ⟨none, some 7, .nilCheck (.tmp 2)⟩,
  ⟨none, some 8, .fieldAddr 71 (.tmp 7) 0⟩,
  ⟨none, none, .store 3 (.tmp 8) (.tmp 6)⟩]
theorem r44_0_w {E : Env} {fr : Fr} {h : Heap} {Q : Fr → Heap → Prop} : opsW E r44_0 fr h Q = opsW E [⟨none, some 2, .move (.tmp 0)⟩,
  ⟨none, some 3, .nilCheck (.tmp 2)⟩,
  ⟨none, some 4, .fieldAddr 71 (.tmp 3) 0⟩,
  ⟨none, some 5, .load 3 (.tmp 4)⟩,
  ⟨none, some 6, .binOp .add 3 (.tmp 5) (.const (.int .i64 1)) 3⟩,
  ⟨none, some 7, .nilCheck (.tmp 2)⟩,
  ⟨none, some 8, .fieldAddr 71 (.tmp 7) 0⟩,
  ⟨none, none, .store 3 (.tmp 8) (.tmp 6)⟩] fr h Q := Eq.trans rfl rfl
def s44_1 : GC := .ops r44_0
theorem s44_1_w {E : Env} {nt : Nat} {rd : Option Nat} {fr : Fr} {h : Heap} {Q : Ex → Fr → Heap → Prop} : s44_1.wp E nt rd fr h Q = (GC.ops r44_0).wp E nt rd fr h Q := Eq.trans rfl rfl
theorem c44 : Try.f44.body.bind (clean env 9) = some s44_1 := by kernel_rfl
theorem e44 : env.funs.get 44 = some Try.f44 := by kernel_rfl
theorem F44 {args : List Value} {h : Heap} {K : Value → Heap → Prop} (hl : args.length = 1) (w : s44_1.wp env 9 none (setAll args 0 .leaf) h (resK env [] K)) : Ret env (.func 44) args h K :=
  Ret.of_body' rfl e44 c44 rfl rfl (by rw [hl]; decide) w
/-! helmsman/fair.counted$3 -/
def r45_0 : List GO := [⟨none, some 12, .fieldAddr 45 (.tmp 1) 1⟩,
  ⟨none, some 13, .load 34 (.tmp 12)⟩,
  ⟨none, some 14, .move (.tmp 4)⟩,
  ⟨none, some 15, .indexAddr 34 (.tmp 13) (.tmp 14)⟩,
  ⟨none, some 16, .fieldAddr 66 (.tmp 15) 1⟩,
  ⟨none, some 17, .load 64 (.tmp 16)⟩,
  ⟨none, none, .store 64 (.tmp 3) (.tmp 17)⟩]
theorem r45_0_w {E : Env} {fr : Fr} {h : Heap} {Q : Fr → Heap → Prop} : opsW E r45_0 fr h Q = opsW E [⟨none, some 12, .fieldAddr 45 (.tmp 1) 1⟩,
  ⟨none, some 13, .load 34 (.tmp 12)⟩,
  ⟨none, some 14, .move (.tmp 4)⟩,
  ⟨none, some 15, .indexAddr 34 (.tmp 13) (.tmp 14)⟩,
  ⟨none, some 16, .fieldAddr 66 (.tmp 15) 1⟩,
  ⟨none, some 17, .load 64 (.tmp 16)⟩,
  ⟨none, none, .store 64 (.tmp 3) (.tmp 17)⟩] fr h Q := Eq.trans rfl rfl
def s45_1 : GC := .seq (.ops r45_0) .ret
theorem s45_1_w {E : Env} {nt : Nat} {rd : Option Nat} {fr : Fr} {h : Heap} {Q : Ex → Fr → Heap → Prop} : s45_1.wp E nt rd fr h Q = (GC.seq (.ops r45_0) .ret).wp E nt rd fr h Q := Eq.trans rfl rfl
def r45_2 : List GO := [⟨none, some 11, .build 64 ⟨[]⟩⟩,
  ⟨none, none, .store 64 (.tmp 3) (.tmp 11)⟩]
theorem r45_2_w {E : Env} {fr : Fr} {h : Heap} {Q : Fr → Heap → Prop} : opsW E r45_2 fr h Q = opsW E [⟨none, some 11, .build 64 ⟨[]⟩⟩,
  ⟨none, none, .store 64 (.tmp 3) (.tmp 11)⟩] fr h Q := Eq.trans rfl rfl
def s45_3 : GC := .seq (.ops r45_2) .ret
theorem s45_3_w {E : Env} {nt : Nat} {rd : Option Nat} {fr : Fr} {h : Heap} {Q : Ex → Fr → Heap → Prop} : s45_3.wp E nt rd fr h Q = (GC.seq (.ops r45_2) .ret).wp E nt rd fr h Q := Eq.trans rfl rfl
def s45_4 : GC := .cond (.tmp 10) s45_3 .skip
theorem s45_4_w {E : Env} {nt : Nat} {rd : Option Nat} {fr : Fr} {h : Heap} {Q : Ex → Fr → Heap → Prop} : s45_4.wp E nt rd fr h Q = (GC.cond (.tmp 10) s45_3 .skip).wp E nt rd fr h Q := Eq.trans rfl rfl
def r45_5 : List GO := [⟨none, some 9, .move (.tmp 4)⟩,
  ⟨none, some 10, .binOp .lss 3 (.tmp 9) (.const (.int .i64 0)) 3⟩]
theorem r45_5_w {E : Env} {fr : Fr} {h : Heap} {Q : Fr → Heap → Prop} : opsW E r45_5 fr h Q = opsW E [⟨none, some 9, .move (.tmp 4)⟩,
  ⟨none, some 10, .binOp .lss 3 (.tmp 9) (.const (.int .i64 0)) 3⟩] fr h Q := Eq.trans rfl rfl
def s45_6 : GC := .seq (.ops r45_5) s45_4
theorem s45_6_w {E : Env} {nt : Nat} {rd : Option Nat} {fr : Fr} {h : Heap} {Q : Ex → Fr → Heap → Prop} : s45_6.wp E nt rd fr h Q = (GC.seq (.ops r45_5) s45_4).wp E nt rd fr h Q := Eq.trans rfl rfl
def s45_7 : GC := .seq (s45_6) s45_1
theorem s45_7_w {E : Env} {nt : Nat} {rd : Option Nat} {fr : Fr} {h : Heap} {Q : Ex → Fr → Heap → Prop} : s45_7.wp E nt rd fr h Q = (GC.seq (s45_6) s45_1).wp E nt rd fr h Q := Eq.trans rfl rfl
def r45_8 : List GO := [⟨none, some 5, .fieldAddr 45 (.tmp 1) 1⟩,
  ⟨none, some 6, .load 34 (.tmp 5)⟩,
  ⟨none, some 7, .makeFunc (.func 47) ⟨[]⟩ ⟨[.tmp 2]⟩⟩,
  ⟨none, some 8, .call ⟨.value (.func 46), ⟨[.tmp 6, .tmp 7]⟩, ⟨[34, 120]⟩⟩⟩,
  ⟨none, some 4, .assign (.tmp 8)⟩]
theorem r45_8_w {E : Env} {fr : Fr} {h : Heap} {Q : Fr → Heap → Prop} : opsW E r45_8 fr h Q = opsW E [⟨none, some 5, .fieldAddr 45 (.tmp 1) 1⟩,
  ⟨none, some 6, .load 34 (.tmp 5)⟩,
  ⟨none, some 7, .makeFunc (.func 47) ⟨[]⟩ ⟨[.tmp 2]⟩⟩,
  ⟨none, some 8, .call ⟨.value (.func 46), ⟨[.tmp 6, .tmp 7]⟩, ⟨[34, 120]⟩⟩⟩,
  ⟨none, some 4, .assign (.tmp 8)⟩] fr h Q := Eq.trans rfl rfl
def s45_9 : GC := .seq (.ops r45_8) s45_7
theorem s45_9_w {E : Env} {nt : Nat} {rd : Option Nat} {fr : Fr} {h : Heap} {Q : Ex → Fr → Heap → Prop} : s45_9.wp E nt rd fr h Q = (GC.seq (.ops r45_8) s45_7).wp E nt rd fr h Q := Eq.trans rfl rfl
def r45_10 : List GO := [⟨none, some 2, .box 3 (.tmp 0)⟩,
  ⟨none, some 3, .alloc 64⟩]
theorem r45_10_w {E : Env} {fr : Fr} {h : Heap} {Q : Fr → Heap → Prop} : opsW E r45_10 fr h Q = opsW E [⟨none, some 2, .box 3 (.tmp 0)⟩,
  ⟨none, some 3, .alloc 64⟩] fr h Q := Eq.trans rfl rfl
def s45_11 : GC := .seq (.ops r45_10) s45_9
theorem s45_11_w {E : Env} {nt : Nat} {rd : Option Nat} {fr : Fr} {h : Heap} {Q : Ex → Fr → Heap → Prop} : s45_11.wp E nt rd fr h Q = (GC.seq (.ops r45_10) s45_9).wp E nt rd fr h Q := Eq.trans rfl rfl
theorem c45 : Try.f45.body.bind (clean env 18) = some s45_11 := by kernel_rfl
theorem e45 : env.funs.get 45 = some Try.f45 := by kernel_rfl
theorem F45 {args : List Value} {h : Heap} {K : Value → Heap → Prop} (hl : args.length = 2) (w : s45_11.wp env 18 none (setAll args 0 .leaf) h (resK env [.cell 3 64] K)) : Ret env (.func 45) args h K :=
  Ret.of_body' rfl e45 c45 rfl rfl (by rw [hl]; decide) w
/-! slices.IndexFunc[[]helmsman/api.Task,helmsman/api.Task] -/
def r46_0 : List GO := [⟨none, some 4, .assign (.const (.int .i64 (-1)))⟩]
theorem r46_0_w {E : Env} {fr : Fr} {h : Heap} {Q : Fr → Heap → Prop} : opsW E r46_0 fr h Q = opsW E [⟨none, some 4, .assign (.const (.int .i64 (-1)))⟩] fr h Q := Eq.trans rfl rfl
def s46_1 : GC := .seq (.ops r46_0) .ret
theorem s46_1_w {E : Env} {nt : Nat} {rd : Option Nat} {fr : Fr} {h : Heap} {Q : Ex → Fr → Heap → Prop} : s46_1.wp E nt rd fr h Q = (GC.seq (.ops r46_0) .ret).wp E nt rd fr h Q := Eq.trans rfl rfl
def r46_2 : List GO := [⟨none, some 18, .binOp .add 3 (.tmp 8) (.const (.int .i64 1)) 3⟩,
  ⟨none, some 8, .move (.tmp 18)⟩]
theorem r46_2_w {E : Env} {fr : Fr} {h : Heap} {Q : Fr → Heap → Prop} : opsW E r46_2 fr h Q = opsW E [⟨none, some 18, .binOp .add 3 (.tmp 8) (.const (.int .i64 1)) 3⟩,
  ⟨none, some 8, .move (.tmp 18)⟩] fr h Q := Eq.trans rfl rfl
def s46_3 : GC := .ops r46_2
theorem s46_3_w {E : Env} {nt : Nat} {rd : Option Nat} {fr : Fr} {h : Heap} {Q : Ex → Fr → Heap → Prop} : s46_3.wp E nt rd fr h Q = (GC.ops r46_2).wp E nt rd fr h Q := Eq.trans rfl rfl
def r46_4 : List GO := [⟨none, some 17, .move (.tmp 5)⟩,
  ⟨none, some 4, .assign (.tmp 17)⟩]
theorem r46_4_w {E : Env} {fr : Fr} {h : Heap} {Q : Fr → Heap → Prop} : opsW E r46_4 fr h Q = opsW E [⟨none, some 17, .move (.tmp 5)⟩,
  ⟨none, some 4, .assign (.tmp 17)⟩] fr h Q := Eq.trans rfl rfl
def s46_5 : GC := .seq (.ops r46_4) .ret
theorem s46_5_w {E : Env} {nt : Nat} {rd : Option Nat} {fr : Fr} {h : Heap} {Q : Ex → Fr → Heap → Prop} : s46_5.wp E nt rd fr h Q = (GC.seq (.ops r46_4) .ret).wp E nt rd fr h Q := Eq.trans rfl rfl
def s46_6 : GC := .cond (.tmp 16) s46_5 .skip
theorem s46_6_w {E : Env} {nt : Nat} {rd : Option Nat} {fr : Fr} {h : Heap} {Q : Ex → Fr → Heap → Prop} : s46_6.wp E nt rd fr h Q = (GC.cond (.tmp 16) s46_5 .skip).wp E nt rd fr h Q := Eq.trans rfl rfl
def r46_7 : List GO := [⟨none, some 11, .move (.tmp 1)⟩,
  ⟨none, some 12, .move (.tmp 0)⟩,
  ⟨none, some 13, .move (.tmp 5)⟩,
  ⟨none, some 14, .indexAddr 34 (.tmp 12) (.tmp 13)⟩,
  ⟨none, some 15, .load 66 (.tmp 14)⟩,
  ⟨none, some 16, .call ⟨.value (.tmp 11), ⟨[.tmp 15]⟩, ⟨[66]⟩⟩⟩]
theorem r46_7_w {E : Env} {fr : Fr} {h : Heap} {Q : Fr → Heap → Prop} : opsW E r46_7 fr h Q = opsW E [⟨none, some 11, .move (.tmp 1)⟩,
  ⟨none, some 12, .move (.tmp 0)⟩,
  ⟨none, some 13, .move (.tmp 5)⟩,
  ⟨none, some 14, .indexAddr 34 (.tmp 12) (.tmp 13)⟩,
  ⟨none, some 15, .load 66 (.tmp 14)⟩,
  ⟨none, some 16, .call ⟨.value (.tmp 11), ⟨[.tmp 15]⟩, ⟨[66]⟩⟩⟩] fr h Q := Eq.trans rfl rfl
def s46_8 : GC := .seq (.ops r46_7) s46_6
theorem s46_8_w {E : Env} {nt : Nat} {rd : Option Nat} {fr : Fr} {h : Heap} {Q : Ex → Fr → Heap → Prop} : s46_8.wp E nt rd fr h Q = (GC.seq (.ops r46_7) s46_6).wp E nt rd fr h Q := Eq.trans rfl rfl
def r46_9 : List GO := [⟨none, some 10, .move (.tmp 8)⟩,
  ⟨none, some 5, .assign (.tmp 10)⟩]
theorem r46_9_w {E : Env} {fr : Fr} {h : Heap} {Q : Fr → Heap → Prop} : opsW E r46_9 fr h Q = opsW E [⟨none, some 10, .move (.tmp 8)⟩,
  ⟨none, some 5, .assign (.tmp 10)⟩] fr h Q := Eq.trans rfl rfl
def s46_10 : GC := .seq (.ops r46_9) s46_8
theorem s46_10_w {E : Env} {nt : Nat} {rd : Option Nat} {fr : Fr} {h : Heap} {Q : Ex → Fr → Heap → Prop} : s46_10.wp E nt rd fr h Q = (GC.seq (.ops r46_9) s46_8).wp E nt rd fr h Q := Eq.trans rfl rfl
def s46_11 : GC := .seq (.block 1 s46_10) s46_3
theorem s46_11_w {E : Env} {nt : Nat} {rd : Option Nat} {fr : Fr} {h : Heap} {Q : Ex → Fr → Heap → Prop} : s46_11.wp E nt rd fr h Q = (GC.seq (.block 1 s46_10) s46_3).wp E nt rd fr h Q := Eq.trans rfl rfl
def s46_12 : GC := .cond (.tmp 9) .skip (.exit 0)
theorem s46_12_w {E : Env} {nt : Nat} {rd : Option Nat} {fr : Fr} {h : Heap} {Q : Ex → Fr → Heap → Prop} : s46_12.wp E nt rd fr h Q = (GC.cond (.tmp 9) .skip (.exit 0)).wp E nt rd fr h Q := Eq.trans rfl rfl
def s46_13 : GC := .seq (s46_12) s46_11
theorem s46_13_w {E : Env} {nt : Nat} {rd : Option Nat} {fr : Fr} {h : Heap} {Q : Ex → Fr → Heap → Prop} : s46_13.wp E nt rd fr h Q = (GC.seq (s46_12) s46_11).wp E nt rd fr h Q := Eq.trans rfl rfl
def r46_14 : List GO := [⟨none, some 9, .binOp .lss 3 (.tmp 8) (.tmp 7) 3⟩]
theorem r46_14_w {E : Env} {fr : Fr} {h : Heap} {Q : Fr → Heap → Prop} : opsW E r46_14 fr h Q = opsW E [⟨none, some 9, .binOp .lss 3 (.tmp 8) (.tmp 7) 3⟩] fr h Q := Eq.trans rfl rfl
def s46_15 : GC := .seq (.ops r46_14) s46_13
theorem s46_15_w {E : Env} {nt : Nat} {rd : Option Nat} {fr : Fr} {h : Heap} {Q : Ex → Fr → Heap → Prop} : s46_15.wp E nt rd fr h Q = (GC.seq (.ops r46_14) s46_13).wp E nt rd fr h Q := Eq.trans rfl rfl
def s46_16 : GC := .loop s46_15
theorem s46_16_w {E : Env} {nt : Nat} {rd : Option Nat} {fr : Fr} {h : Heap} {Q : Ex → Fr → Heap → Prop} : s46_16.wp E nt rd fr h Q = (GC.loop s46_15).wp E nt rd fr h Q := Eq.trans rfl rfl
def s46_17 : GC := .block 0 s46_16
theorem s46_17_w {E : Env} {nt : Nat} {rd : Option Nat} {fr : Fr} {h : Heap} {Q : Ex → Fr → Heap → Prop} : s46_17.wp E nt rd fr h Q = (GC.block 0 s46_16).wp E nt rd fr h Q := Eq.trans rfl rfl
def r46_18 : List GO := [⟨none, some 6, .move (.tmp 0)⟩,
  ⟨none, some 7, .call ⟨.builtin .len, ⟨[.tmp 6]⟩, ⟨[34]⟩⟩⟩,
  ⟨none, some 8, .move (.const (.int .i64 0))⟩]
theorem r46_18_w {E : Env} {fr : Fr} {h : Heap} {Q : Fr → Heap → Prop} : opsW E r46_18 fr h Q = opsW E [⟨none, some 6, .move (.tmp 0)⟩,
  ⟨none, some 7, .call ⟨.builtin .len, ⟨[.tmp 6]⟩, ⟨[34]⟩⟩⟩,
  ⟨none, some 8, .move (.const (.int .i64 0))⟩] fr h Q := Eq.trans rfl rfl
def s46_19 : GC := .seq (.ops r46_18) s46_17
theorem s46_19_w {E : Env} {nt : Nat} {rd : Option Nat} {fr : Fr} {h : Heap} {Q : Ex → Fr → Heap → Prop} : s46_19.wp E nt rd fr h Q = (GC.seq (.ops r46_18) s46_17).wp E nt rd fr h Q := Eq.trans rfl rfl
def s46_20 : GC := .seq (s46_19) s46_1
theorem s46_20_w {E : Env} {nt : Nat} {rd : Option Nat} {fr : Fr} {h : Heap} {Q : Ex → Fr → Heap → Prop} : s46_20.wp E nt rd fr h Q = (GC.seq (s46_19) s46_1).wp E nt rd fr h Q := Eq.trans rfl rfl
def r46_21 : List GO := [⟨none, some 4, .assign (.const (.int .i64 0))⟩]
theorem r46_21_w {E : Env} {fr : Fr} {h : Heap} {Q : Fr → Heap → Prop} : opsW E r46_21 fr h Q = opsW E [⟨none, some 4, .assign (.const (.int .i64 0))⟩] fr h Q := Eq.trans rfl rfl
def s46_22 : GC := .seq (.ops r46_21) s46_20
theorem s46_22_w {E : Env} {nt : Nat} {rd : Option Nat} {fr : Fr} {h : Heap} {Q : Ex → Fr → Heap → Prop} : s46_22.wp E nt rd fr h Q = (GC.seq (.ops r46_21) s46_20).wp E nt rd fr h Q := Eq.trans rfl rfl
theorem c46 : Try.f46.body.bind (clean env 19) = some s46_22 := by kernel_rfl
theorem e46 : env.funs.get 46 = some Try.f46 := by kernel_rfl
theorem F46 {args : List Value} {h : Heap} {K : Value → Heap → Prop} (hl : args.length = 2) (w : s46_22.wp env 19 none (setAll args 0 .leaf) h (resK env [.tmp 4] K)) : Ret env (.func 46) args h K :=
  Ret.of_body' rfl e46 c46 rfl rfl (by rw [hl]; decide) w
/-! helmsman/fair.counted$3$1 -/
def r47_0 : List GO := [⟨none, some 4, .fieldAddr 66 (.tmp 2) 0⟩,
  ⟨none, some 5, .fieldAddr 59 (.tmp 4) 0⟩,
  ⟨none, some 6, .load 3 (.tmp 5)⟩,
  ⟨none, some 7, .load 3 (.tmp 1)⟩,
  ⟨none, some 8, .binOp .eql 3 (.tmp 6) (.tmp 7) 3⟩,
  ⟨none, some 3, .assign (.tmp 8)⟩]
theorem r47_0_w {E : Env} {fr : Fr} {h : Heap} {Q : Fr → Heap → Prop} : opsW E r47_0 fr h Q = opsW E [⟨none, some 4, .fieldAddr 66 (.tmp 2) 0⟩,
  ⟨none, some 5, .fieldAddr 59 (.tmp 4) 0⟩,
  ⟨none, some 6, .load 3 (.tmp 5)⟩,
  ⟨none, some 7, .load 3 (.tmp 1)⟩,
  ⟨none, some 8, .binOp .eql 3 (.tmp 6) (.tmp 7) 3⟩,
  ⟨none, some 3, .assign (.tmp 8)⟩] fr h Q := Eq.trans rfl rfl
def s47_1 : GC := .seq (.ops r47_0) .ret
theorem s47_1_w {E : Env} {nt : Nat} {rd : Option Nat} {fr : Fr} {h : Heap} {Q : Ex → Fr → Heap → Prop} : s47_1.wp E nt rd fr h Q = (GC.seq (.ops r47_0) .ret).wp E nt rd fr h Q := Eq.trans rfl rfl
def r47_2 : List GO := [⟨none, some 2, .box 66 (.tmp 0)⟩,
  ⟨none, some 3, .assign (.const (.bool false))⟩]
theorem r47_2_w {E : Env} {fr : Fr} {h : Heap} {Q : Fr → Heap → Prop} : opsW E r47_2 fr h Q = opsW E [⟨none, some 2, .box 66 (.tmp 0)⟩,
  ⟨none, some 3, .assign (.const (.bool false))⟩] fr h Q := Eq.trans rfl rfl
def s47_3 : GC := .seq (.ops r47_2) s47_1
theorem s47_3_w {E : Env} {nt : Nat} {rd : Option Nat} {fr : Fr} {h : Heap} {Q : Ex → Fr → Heap → Prop} : s47_3.wp E nt rd fr h Q = (GC.seq (.ops r47_2) s47_1).wp E nt rd fr h Q := Eq.trans rfl rfl
theorem c47 : Try.f47.body.bind (clean env 9) = some s47_3 := by kernel_rfl
theorem e47 : env.funs.get 47 = some Try.f47 := by kernel_rfl
theorem F47 {args : List Value} {h : Heap} {K : Value → Heap → Prop} (hl : args.length = 2) (w : s47_3.wp env 9 none (setAll args 0 .leaf) h (resK env [.tmp 3] K)) : Ret env (.func 47) args h K :=
  Ret.of_body' rfl e47 c47 rfl rfl (by rw [hl]; decide) w
/-! helmsman/fair.counted$4 -/
def r48_0 : List GO := [⟨none, some 2, .move (.tmp 0)⟩,
  ⟨none, some 3, .nilCheck (.tmp 2)⟩,
  ⟨none, some 4, .fieldAddr 71 (.tmp 3) 1⟩,
  ⟨none, some 5, .load 3 (.tmp 4)⟩,
  ⟨none, some 6, .binOp .add 3 (.tmp 5) (.const (.int .i64 1)) 3⟩,
  ⟨none, some 7, .nilCheck (.tmp 2)⟩,
  ⟨none, some 8, .fieldAddr 71 (.tmp 7) 1⟩,
  ⟨none, none, .store 3 (.tmp 8) (.tmp 6)⟩]
theorem r48_0_w {E : Env} {fr : Fr} {h : Heap} {Q : Fr → Heap → Prop} : opsW E r48_0 fr h Q = opsW E [⟨none, some 2, .move (.tmp 0)⟩,
  ⟨none, some 3, .nilCheck (.tmp 2)⟩,
  ⟨none, some 4, .fieldAddr 71 (.tmp 3) 1⟩,
  ⟨none, some 5, .load 3 (.tmp 4)⟩,
  ⟨none, some 6, .binOp .add 3 (.tmp 5) (.const (.int .i64 1)) 3⟩,
  ⟨none, some 7, .nilCheck (.tmp 2)⟩,
  ⟨none, some 8, .fieldAddr 71 (.tmp 7) 1⟩,
  ⟨none, none, .store 3 (.tmp 8) (.tmp 6)⟩] fr h Q := Eq.trans rfl rfl
def s48_1 : GC := .ops r48_0
theorem s48_1_w {E : Env} {nt : Nat} {rd : Option Nat} {fr : Fr} {h : Heap} {Q : Ex → Fr → Heap → Prop} : s48_1.wp E nt rd fr h Q = (GC.ops r48_0).wp E nt rd fr h Q := Eq.trans rfl rfl
theorem c48 : Try.f48.body.bind (clean env 9) = some s48_1 := by kernel_rfl
theorem e48 : env.funs.get 48 = some Try.f48 := by kernel_rfl
theorem F48 {args : List Value} {h : Heap} {K : Value → Heap → Prop} (hl : args.length = 1) (w : s48_1.wp env 9 none (setAll args 0 .leaf) h (resK env [] K)) : Ret env (.func 48) args h K :=
  Ret.of_body' rfl e48 c48 rfl rfl (by rw [hl]; decide) w
/-! helmsman/num.Has -/
def r49_0 : List GO := [⟨none, some 5, .move (.tmp 0)⟩,
  ⟨none, some 6, .move (.tmp 1)⟩,
  ⟨none, some 7, .call ⟨.value (.func 68), ⟨[.tmp 6]⟩, ⟨[3]⟩⟩⟩,
  ⟨none, some 8, .binOp .and 5 (.tmp 5) (.tmp 7) 5⟩,
  ⟨none, some 9, .binOp .neq 5 (.tmp 8) (.const (.int .u8 0)) 5⟩,
  ⟨none, some 4, .assign (.tmp 9)⟩]
theorem r49_0_w {E : Env} {fr : Fr} {h : Heap} {Q : Fr → Heap → Prop} : opsW E r49_0 fr h Q = opsW E [⟨none, some 5, .move (.tmp 0)⟩,
  ⟨none, some 6, .move (.tmp 1)⟩,
  ⟨none, some 7, .call ⟨.value (.func 68), ⟨[.tmp 6]⟩, ⟨[3]⟩⟩⟩,
  ⟨none, some 8, .binOp .and 5 (.tmp 5) (.tmp 7) 5⟩,
  ⟨none, some 9, .binOp .neq 5 (.tmp 8) (.const (.int .u8 0)) 5⟩,
  ⟨none, some 4, .assign (.tmp 9)⟩] fr h Q := Eq.trans rfl rfl
def s49_1 : GC := .seq (.ops r49_0) .ret
theorem s49_1_w {E : Env} {nt : Nat} {rd : Option Nat} {fr : Fr} {h : Heap} {Q : Ex → Fr → Heap → Prop} : s49_1.wp E nt rd fr h Q = (GC.seq (.ops r49_0) .ret).wp E nt rd fr h Q := Eq.trans rfl rfl
def r49_2 : List GO := [⟨none, some 4, .assign (.const (.bool false))⟩]
theorem r49_2_w {E : Env} {fr : Fr} {h : Heap} {Q : Fr → Heap → Prop} : opsW E r49_2 fr h Q = opsW E [⟨none, some 4, .assign (.const (.bool false))⟩] fr h Q := Eq.trans rfl rfl
def s49_3 : GC := .seq (.ops r49_2) s49_1
theorem s49_3_w {E : Env} {nt : Nat} {rd : Option Nat} {fr : Fr} {h : Heap} {Q : Ex → Fr → Heap → Prop} : s49_3.wp E nt rd fr h Q = (GC.seq (.ops r49_2) s49_1).wp E nt rd fr h Q := Eq.trans rfl rfl
theorem c49 : Try.f49.body.bind (clean env 10) = some s49_3 := by kernel_rfl
theorem e49 : env.funs.get 49 = some Try.f49 := by kernel_rfl
theorem F49 {args : List Value} {h : Heap} {K : Value → Heap → Prop} (hl : args.length = 2) (w : s49_3.wp env 10 none (setAll args 0 .leaf) h (resK env [.tmp 4] K)) : Ret env (.func 49) args h K :=
  Ret.of_body' rfl e49 c49 rfl rfl (by rw [hl]; decide) w
/-! slices.Concat[[]int,int] -/
def r50_0 : List GO := [⟨none, some 35, .move (.tmp 6)⟩,
  ⟨none, some 2, .assign (.tmp 35)⟩]
theorem r50_0_w {E : Env} {fr : Fr} {h : Heap} {Q : Fr → Heap → Prop} : opsW E r50_0 fr h Q = opsW E [⟨none, some 35, .move (.tmp 6)⟩,
  ⟨none, some 2, .assign (.tmp 35)⟩] fr h Q := Eq.trans rfl rfl
def s50_1 : GC := .seq (.ops r50_0) .ret
theorem s50_1_w {E : Env} {nt : Nat} {rd : Option Nat} {fr : Fr} {h : Heap} {Q : Ex → Fr → Heap → Prop} : s50_1.wp E nt rd fr h Q = (GC.seq (.ops r50_0) .ret).wp E nt rd fr h Q := Eq.trans rfl rfl
def r50_2 : List GO := [⟨none, some 34, .binOp .add 3 (.tmp 27) (.const (.int .i64 1)) 3⟩,
  ⟨none, some 27, .move (.tmp 34)⟩]
theorem r50_2_w {E : Env} {fr : Fr} {h : Heap} {Q : Fr → Heap → Prop} : opsW E r50_2 fr h Q = opsW E [⟨none, some 34, .binOp .add 3 (.tmp 27) (.const (.int .i64 1)) 3⟩,
  ⟨none, some 27, .move (.tmp 34)⟩] fr h Q := Eq.trans rfl rfl
def s50_3 : GC := .ops r50_2
theorem s50_3_w {E : Env} {nt : Nat} {rd : Option Nat} {fr : Fr} {h : Heap} {Q : Ex → Fr → Heap → Prop} : s50_3.wp E nt rd fr h Q = (GC.ops r50_2).wp E nt rd fr h Q := Eq.trans rfl rfl
def r50_4 : List GO := [⟨none, some 31, .move (.tmp 6)⟩,
  ⟨none, some 32, .move (.tmp 8)⟩,
  ⟨none, some 33, .call ⟨.builtin .append, ⟨[.tmp 31, .tmp 32]⟩, ⟨[38, 38]⟩⟩⟩,
  ⟨none, some 6, .assign (.tmp 33)⟩]
theorem r50_4_w {E : Env} {fr : Fr} {h : Heap} {Q : Fr → Heap → Prop} : opsW E r50_4 fr h Q = opsW E [⟨none, some 31, .move (.tmp 6)⟩,
  ⟨none, some 32, .move (.tmp 8)⟩,
  ⟨none, some 33, .call ⟨.builtin .append, ⟨[.tmp 31, .tmp 32]⟩, ⟨[38, 38]⟩⟩⟩,
  ⟨none, some 6, .assign (.tmp 33)⟩] fr h Q := Eq.trans rfl rfl
def s50_5 : GC := .ops r50_4
theorem s50_5_w {E : Env} {nt : Nat} {rd : Option Nat} {fr : Fr} {h : Heap} {Q : Ex → Fr → Heap → Prop} : s50_5.wp E nt rd fr h Q = (GC.ops r50_4).wp E nt rd fr h Q := Eq.trans rfl rfl
def r50_6 : List GO := [⟨none, some 29, .indexAddr 39 (.tmp 25) (.tmp 27)⟩,
  ⟨none, some 30, .load 38 (.tmp 29)⟩,
  ⟨none, some 8, .assign (.tmp 30)⟩]
theorem r50_6_w {E : Env} {fr : Fr} {h : Heap} {Q : Fr → Heap → Prop} : opsW E r50_6 fr h Q = opsW E [⟨none, some 29, .indexAddr 39 (.tmp 25) (.tmp 27)⟩,
  ⟨none, some 30, .load 38 (.tmp 29)⟩,
  ⟨none, some 8, .assign (.tmp 30)⟩] fr h Q := Eq.trans rfl rfl
def s50_7 : GC := .seq (.ops r50_6) s50_5
theorem s50_7_w {E : Env} {nt : Nat} {rd : Option Nat} {fr : Fr} {h : Heap} {Q : Ex → Fr → Heap → Prop} : s50_7.wp E nt rd fr h Q = (GC.seq (.ops r50_6) s50_5).wp E nt rd fr h Q := Eq.trans rfl rfl
def s50_8 : GC := .seq (.block 3 s50_7) s50_3
theorem s50_8_w {E : Env} {nt : Nat} {rd : Option Nat} {fr : Fr} {h : Heap} {Q : Ex → Fr → Heap → Prop} : s50_8.wp E nt rd fr h Q = (GC.seq (.block 3 s50_7) s50_3).wp E nt rd fr h Q := Eq.trans rfl rfl
def s50_9 : GC := .cond (.tmp 28) .skip (.exit 2)
theorem s50_9_w {E : Env} {nt : Nat} {rd : Option Nat} {fr : Fr} {h : Heap} {Q : Ex → Fr → Heap → Prop} : s50_9.wp E nt rd fr h Q = (GC.cond (.tmp 28) .skip (.exit 2)).wp E nt rd fr h Q := Eq.trans rfl rfl
def s50_10 : GC := .seq (s50_9) s50_8
theorem s50_10_w {E : Env} {nt : Nat} {rd : Option Nat} {fr : Fr} {h : Heap} {Q : Ex → Fr → Heap → Prop} : s50_10.wp E nt rd fr h Q = (GC.seq (s50_9) s50_8).wp E nt rd fr h Q := Eq.trans rfl rfl
def r50_11 : List GO := [⟨none, some 28, .binOp .lss 3 (.tmp 27) (.tmp 26) 3⟩]
theorem r50_11_w {E : Env} {fr : Fr} {h : Heap} {Q : Fr → Heap → Prop} : opsW E r50_11 fr h Q = opsW E [⟨none, some 28, .binOp .lss 3 (.tmp 27) (.tmp 26) 3⟩] fr h Q := Eq.trans rfl rfl
def s50_12 : GC := .seq (.ops r50_11) s50_10
theorem s50_12_w {E : Env} {nt : Nat} {rd : Option Nat} {fr : Fr} {h : Heap} {Q : Ex → Fr → Heap → Prop} : s50_12.wp E nt rd fr h Q = (GC.seq (.ops r50_11) s50_10).wp E nt rd fr h Q := Eq.trans rfl rfl
def s50_13 : GC := .loop s50_12
theorem s50_13_w {E : Env} {nt : Nat} {rd : Option Nat} {fr : Fr} {h : Heap} {Q : Ex → Fr → Heap → Prop} : s50_13.wp E nt rd fr h Q = (GC.loop s50_12).wp E nt rd fr h Q := Eq.trans rfl rfl
def s50_14 : GC := .block 2 s50_13
theorem s50_14_w {E : Env} {nt : Nat} {rd : Option Nat} {fr : Fr} {h : Heap} {Q : Ex → Fr → Heap → Prop} : s50_14.wp E nt rd fr h Q = (GC.block 2 s50_13).wp E nt rd fr h Q := Eq.trans rfl rfl
def r50_15 : List GO := [⟨none, some 25, .move (.tmp 0)⟩,
  ⟨none, some 26, .call ⟨.builtin .len, ⟨[.tmp 25]⟩, ⟨[39]⟩⟩⟩,
  ⟨none, some 27, .move (.const (.int .i64 0))⟩]
theorem r50_15_w {E : Env} {fr : Fr} {h : Heap} {Q : Fr → Heap → Prop} : opsW E r50_15 fr h Q = opsW E [⟨none, some 25, .move (.tmp 0)⟩,
  ⟨none, some 26, .call ⟨.builtin .len, ⟨[.tmp 25]⟩, ⟨[39]⟩⟩⟩,
  ⟨none, some 27, .move (.const (.int .i64 0))⟩] fr h Q := Eq.trans rfl rfl
def s50_16 : GC := .seq (.ops r50_15) s50_14
theorem s50_16_w {E : Env} {nt : Nat} {rd : Option Nat} {fr : Fr} {h : Heap} {Q : Ex → Fr → Heap → Prop} : s50_16.wp E nt rd fr h Q = (GC.seq (.ops r50_15) s50_14).wp E nt rd fr h Q := Eq.trans rfl rfl
def s50_17 : GC := .seq (s50_16) s50_1
theorem s50_17_w {E : Env} {nt : Nat} {rd : Option Nat} {fr : Fr} {h : Heap} {Q : Ex → Fr → Heap → Prop} : s50_17.wp E nt rd fr h Q = (GC.seq (s50_16) s50_1).wp E nt rd fr h Q := Eq.trans rfl rfl
def r50_18 : List GO := [⟨none, some 23, .move (.tmp 3)⟩,
  ⟨none, some 24, .call ⟨.value (.func 69), ⟨[.const (.slice none 0 0), .tmp 23]⟩, ⟨[38, 3]⟩⟩⟩,
  ⟨none, some 6, .assign (.tmp 24)⟩]
theorem r50_18_w {E : Env} {fr : Fr} {h : Heap} {Q : Fr → Heap → Prop} : opsW E r50_18 fr h Q = opsW E [⟨none, some 23, .move (.tmp 3)⟩,
  ⟨none, some 24, .call ⟨.value (.func 69), ⟨[.const (.slice none 0 0), .tmp 23]⟩, ⟨[38, 3]⟩⟩⟩,
  ⟨none, some 6, .assign (.tmp 24)⟩] fr h Q := Eq.trans rfl rfl
def s50_19 : GC := .seq (.ops r50_18) s50_17
theorem s50_19_w {E : Env} {nt : Nat} {rd : Option Nat} {fr : Fr} {h : Heap} {Q : Ex → Fr → Heap → Prop} : s50_19.wp E nt rd fr h Q = (GC.seq (.ops r50_18) s50_17).wp E nt rd fr h Q := Eq.trans rfl rfl
def r50_20 : List GO := [⟨none, some 22, .binOp .add 3 (.tmp 11) (.const (.int .i64 1)) 3⟩,
  ⟨none, some 11, .move (.tmp 22)⟩]
theorem r50_20_w {E : Env} {fr : Fr} {h : Heap} {Q : Fr → Heap → Prop} : opsW E r50_20 fr h Q = opsW E [⟨none, some 22, .binOp .add 3 (.tmp 11) (.const (.int .i64 1)) 3⟩,
  ⟨none, some 11, .move (.tmp 22)⟩] fr h Q := Eq.trans rfl rfl
def s50_21 : GC := .ops r50_20
theorem s50_21_w {E : Env} {nt : Nat} {rd : Option Nat} {fr : Fr} {h : Heap} {Q : Ex → Fr → Heap → Prop} : s50_21.wp E nt rd fr h Q = (GC.ops r50_20).wp E nt rd fr h Q := Eq.trans rfl rfl
def r50_22 : List GO := [⟨none, some 21, .makeInterface 9 (.const (.string ⟨⟨[108, 101, 110, 32, 111, 117, 116, 32, 111, 102, 32, 114, 97, 110, 103, 101]⟩⟩))⟩,
  ⟨none, none, .panic (.tmp 21)⟩]
theorem r50_22_w {E : Env} {fr : Fr} {h : Heap} {Q : Fr → Heap → Prop} : opsW E r50_22 fr h Q = opsW E [⟨none, some 21, .makeInterface 9 (.const (.string ⟨⟨[108, 101, 110, 32, 111, 117, 116, 32, 111, 102, 32, 114, 97, 110, 103, 101]⟩⟩))⟩,
  ⟨none, none, .panic (.tmp 21)⟩] fr h Q := Eq.trans rfl rfl
def s50_23 : GC := .ops r50_22
theorem s50_23_w {E : Env} {nt : Nat} {rd : Option Nat} {fr : Fr} {h : Heap} {Q : Ex → Fr → Heap → Prop} : s50_23.wp E nt rd fr h Q = (GC.ops r50_22).wp E nt rd fr h Q := Eq.trans rfl rfl
def s50_24 : GC := .cond (.tmp 20) s50_23 .skip
theorem s50_24_w {E : Env} {nt : Nat} {rd : Option Nat} {fr : Fr} {h : Heap} {Q : Ex → Fr → Heap → Prop} : s50_24.wp E nt rd fr h Q = (GC.cond (.tmp 20) s50_23 .skip).wp E nt rd fr h Q := Eq.trans rfl rfl
def r50_25 : List GO := [⟨none, some 19, .move (.tmp 3)⟩,
  ⟨none, some 20, .binOp .lss 3 (.tmp 19) (.const (.int .i64 0)) 3⟩]
theorem r50_25_w {E : Env} {fr : Fr} {h : Heap} {Q : Fr → Heap → Prop} : opsW E r50_25 fr h Q = opsW E [⟨none, some 19, .move (.tmp 3)⟩,
  ⟨none, some 20, .binOp .lss 3 (.tmp 19) (.const (.int .i64 0)) 3⟩] fr h Q := Eq.trans rfl rfl
def s50_26 : GC := .seq (.ops r50_25) s50_24
theorem s50_26_w {E : Env} {nt : Nat} {rd : Option Nat} {fr : Fr} {h : Heap} {Q : Ex → Fr → Heap → Prop} : s50_26.wp E nt rd fr h Q = (GC.seq (.ops r50_25) s50_24).wp E nt rd fr h Q := Eq.trans rfl rfl
def r50_27 : List GO := [⟨none, some 15, .move (.tmp 3)⟩,
  ⟨none, some 16, .move (.tmp 5)⟩,
  ⟨none, some 17, .call ⟨.builtin .len, ⟨[.tmp 16]⟩, ⟨[38]⟩⟩⟩,
  ⟨none, some 18, .binOp .add 3 (.tmp 15) (.tmp 17) 3⟩,
  ⟨none, some 3, .assign (.tmp 18)⟩]
theorem r50_27_w {E : Env} {fr : Fr} {h : Heap} {Q : Fr → Heap → Prop} : opsW E r50_27 fr h Q = opsW E [⟨none, some 15, .move (.tmp 3)⟩,
  ⟨none, some 16, .move (.tmp 5)⟩,
  ⟨none, some 17, .call ⟨.builtin .len, ⟨[.tmp 16]⟩, ⟨[38]⟩⟩⟩,
  ⟨none, some 18, .binOp .add 3 (.tmp 15) (.tmp 17) 3⟩,
  ⟨none, some 3, .assign (.tmp 18)⟩] fr h Q := Eq.trans rfl rfl
def s50_28 : GC := .seq (.ops r50_27) s50_26
theorem s50_28_w {E : Env} {nt : Nat} {rd : Option Nat} {fr : Fr} {h : Heap} {Q : Ex → Fr → Heap → Prop} : s50_28.wp E nt rd fr h Q = (GC.seq (.ops r50_27) s50_26).wp E nt rd fr h Q := Eq.trans rfl rfl
def r50_29 : List GO := [⟨none, some 13, .indexAddr 39 (.tmp 9) (.tmp 11)⟩,
  ⟨none, some 14, .load 38 (.tmp 13)⟩,
  ⟨none, some 5, .assign (.tmp 14)⟩]
theorem r50_29_w {E : Env} {fr : Fr} {h : Heap} {Q : Fr → Heap → Prop} : opsW E r50_29 fr h Q = opsW E [⟨none, some 13, .indexAddr 39 (.tmp 9) (.tmp 11)⟩,
  ⟨none, some 14, .load 38 (.tmp 13)⟩,
  ⟨none, some 5, .assign (.tmp 14)⟩] fr h Q := Eq.trans rfl rfl
def s50_30 : GC := .seq (.ops r50_29) s50_28
theorem s50_30_w {E : Env} {nt : Nat} {rd : Option Nat} {fr : Fr} {h : Heap} {Q : Ex → Fr → Heap → Prop} : s50_30.wp E nt rd fr h Q = (GC.seq (.ops r50_29) s50_28).wp E nt rd fr h Q := Eq.trans rfl rfl
def s50_31 : GC := .seq (.block 1 s50_30) s50_21
theorem s50_31_w {E : Env} {nt : Nat} {rd : Option Nat} {fr : Fr} {h : Heap} {Q : Ex → Fr → Heap → Prop} : s50_31.wp E nt rd fr h Q = (GC.seq (.block 1 s50_30) s50_21).wp E nt rd fr h Q := Eq.trans rfl rfl
def s50_32 : GC := .cond (.tmp 12) .skip (.exit 0)
theorem s50_32_w {E : Env} {nt : Nat} {rd : Option Nat} {fr : Fr} {h : Heap} {Q : Ex → Fr → Heap → Prop} : s50_32.wp E nt rd fr h Q = (GC.cond (.tmp 12) .skip (.exit 0)).wp E nt rd fr h Q := Eq.trans rfl rfl
def s50_33 : GC := .seq (s50_32) s50_31
theorem s50_33_w {E : Env} {nt : Nat} {rd : Option Nat} {fr : Fr} {h : Heap} {Q : Ex → Fr → Heap → Prop} : s50_33.wp E nt rd fr h Q = (GC.seq (s50_32) s50_31).wp E nt rd fr h Q := Eq.trans rfl rfl
def r50_34 : List GO := [⟨none, some 12, .binOp .lss 3 (.tmp 11) (.tmp 10) 3⟩]
theorem r50_34_w {E : Env} {fr : Fr} {h : Heap} {Q : Fr → Heap → Prop} : opsW E r50_34 fr h Q = opsW E [⟨none, some 12, .binOp .lss 3 (.tmp 11) (.tmp 10) 3⟩] fr h Q := Eq.trans rfl rfl
def s50_35 : GC := .seq (.ops r50_34) s50_33
theorem s50_35_w {E : Env} {nt : Nat} {rd : Option Nat} {fr : Fr} {h : Heap} {Q : Ex → Fr → Heap → Prop} : s50_35.wp E nt rd fr h Q = (GC.seq (.ops r50_34) s50_33).wp E nt rd fr h Q := Eq.trans rfl rfl
def s50_36 : GC := .loop s50_35
theorem s50_36_w {E : Env} {nt : Nat} {rd : Option Nat} {fr : Fr} {h : Heap} {Q : Ex → Fr → Heap → Prop} : s50_36.wp E nt rd fr h Q = (GC.loop s50_35).wp E nt rd fr h Q := Eq.trans rfl rfl
def s50_37 : GC := .block 0 s50_36
theorem s50_37_w {E : Env} {nt : Nat} {rd : Option Nat} {fr : Fr} {h : Heap} {Q : Ex → Fr → Heap → Prop} : s50_37.wp E nt rd fr h Q = (GC.block 0 s50_36).wp E nt rd fr h Q := Eq.trans rfl rfl
def r50_38 : List GO := [⟨none, some 9, .move (.tmp 0)⟩,
  ⟨none, some 10, .call ⟨.builtin .len, ⟨[.tmp 9]⟩, ⟨[39]⟩⟩⟩,
  ⟨none, some 11, .move (.const (.int .i64 0))⟩]
theorem r50_38_w {E : Env} {fr : Fr} {h : Heap} {Q : Fr → Heap → Prop} : opsW E r50_38 fr h Q = opsW E [⟨none, some 9, .move (.tmp 0)⟩,
  ⟨none, some 10, .call ⟨.builtin .len, ⟨[.tmp 9]⟩, ⟨[39]⟩⟩⟩,
  ⟨none, some 11, .move (.const (.int .i64 0))⟩] fr h Q := Eq.trans rfl rfl
def s50_39 : GC := .seq (.ops r50_38) s50_37
theorem s50_39_w {E : Env} {nt : Nat} {rd : Option Nat} {fr : Fr} {h : Heap} {Q : Ex → Fr → Heap → Prop} : s50_39.wp E nt rd fr h Q = (GC.seq (.ops r50_38) s50_37).wp E nt rd fr h Q := Eq.trans rfl rfl
def s50_40 : GC := .seq (s50_39) s50_19
theorem s50_40_w {E : Env} {nt : Nat} {rd : Option Nat} {fr : Fr} {h : Heap} {Q : Ex → Fr → Heap → Prop} : s50_40.wp E nt rd fr h Q = (GC.seq (s50_39) s50_19).wp E nt rd fr h Q := Eq.trans rfl rfl
def r50_41 : List GO := [⟨none, some 3, .assign (.const (.int .i64 0))⟩]
theorem r50_41_w {E : Env} {fr : Fr} {h : Heap} {Q : Fr → Heap → Prop} : opsW E r50_41 fr h Q = opsW E [⟨none, some 3, .assign (.const (.int .i64 0))⟩] fr h Q := Eq.trans rfl rfl
def s50_42 : GC := .seq (.ops r50_41) s50_40
theorem s50_42_w {E : Env} {nt : Nat} {rd : Option Nat} {fr : Fr} {h : Heap} {Q : Ex → Fr → Heap → Prop} : s50_42.wp E nt rd fr h Q = (GC.seq (.ops r50_41) s50_40).wp E nt rd fr h Q := Eq.trans rfl rfl
def r50_43 : List GO := [⟨none, some 2, .assign (.const (.slice none 0 0))⟩]
theorem r50_43_w {E : Env} {fr : Fr} {h : Heap} {Q : Fr → Heap → Prop} : opsW E r50_43 fr h Q = opsW E [⟨none, some 2, .assign (.const (.slice none 0 0))⟩] fr h Q := Eq.trans rfl rfl
def s50_44 : GC := .seq (.ops r50_43) s50_42
theorem s50_44_w {E : Env} {nt : Nat} {rd : Option Nat} {fr : Fr} {h : Heap} {Q : Ex → Fr → Heap → Prop} : s50_44.wp E nt rd fr h Q = (GC.seq (.ops r50_43) s50_42).wp E nt rd fr h Q := Eq.trans rfl rfl
theorem c50 : Try.f50.body.bind (clean env 36) = some s50_44 := by kernel_rfl
theorem e50 : env.funs.get 50 = some Try.f50 := by kernel_rfl
theorem F50 {args : List Value} {h : Heap} {K : Value → Heap → Prop} (hl : args.length = 1) (w : s50_44.wp env 36 none (setAll args 0 .leaf) h (resK env [.tmp 2] K)) : Ret env (.func 50) args h K :=
  Ret.of_body' rfl e50 c50 rfl rfl (by rw [hl]; decide) w
/-! slices.Clone[[][]int,[]int] -/
def r51_0 : List GO := [⟨none, some 5, .buildSlice 39 0 ⟨[]⟩⟩,
  ⟨none, some 6, .move (.tmp 0)⟩,
  ⟨none, some 7, .call ⟨.builtin .append, ⟨[.tmp 5, .tmp 6]⟩, ⟨[39, 39]⟩⟩⟩,
  ⟨none, some 2, .assign (.tmp 7)⟩]
theorem r51_0_w {E : Env} {fr : Fr} {h : Heap} {Q : Fr → Heap → Prop} : opsW E r51_0 fr h Q = opsW E [⟨none, some 5, .buildSlice 39 0 ⟨[]⟩⟩,
  ⟨none, some 6, .move (.tmp 0)⟩,
  ⟨none, some 7, .call ⟨.builtin .append, ⟨[.tmp 5, .tmp 6]⟩, ⟨[39, 39]⟩⟩⟩,
  ⟨none, some 2, .assign (.tmp 7)⟩] fr h Q := Eq.trans rfl rfl
def s51_1 : GC := .seq (.ops r51_0) .ret
theorem s51_1_w {E : Env} {nt : Nat} {rd : Option Nat} {fr : Fr} {h : Heap} {Q : Ex → Fr → Heap → Prop} : s51_1.wp E nt rd fr h Q = (GC.seq (.ops r51_0) .ret).wp E nt rd fr h Q := Eq.trans rfl rfl
def r51_2 : List GO := [⟨none, some 2, .assign (.const (.slice none 0 0))⟩]
theorem r51_2_w {E : Env} {fr : Fr} {h : Heap} {Q : Fr → Heap → Prop} : opsW E r51_2 fr h Q = opsW E [⟨none, some 2, .assign (.const (.slice none 0 0))⟩] fr h Q := Eq.trans rfl rfl
def s51_3 : GC := .seq (.ops r51_2) .ret
theorem s51_3_w {E : Env} {nt : Nat} {rd : Option Nat} {fr : Fr} {h : Heap} {Q : Ex → Fr → Heap → Prop} : s51_3.wp E nt rd fr h Q = (GC.seq (.ops r51_2) .ret).wp E nt rd fr h Q := Eq.trans rfl rfl
def s51_4 : GC := .cond (.tmp 4) s51_3 .skip
theorem s51_4_w {E : Env} {nt : Nat} {rd : Option Nat} {fr : Fr} {h : Heap} {Q : Ex → Fr → Heap → Prop} : s51_4.wp E nt rd fr h Q = (GC.cond (.tmp 4) s51_3 .skip).wp E nt rd fr h Q := Eq.trans rfl rfl
def r51_5 : List GO := [⟨none, some 3, .move (.tmp 0)⟩,
  ⟨none, some 4, .binOp .eql 39 (.tmp 3) (.const (.slice none 0 0)) 39⟩]
theorem r51_5_w {E : Env} {fr : Fr} {h : Heap} {Q : Fr → Heap → Prop} : opsW E r51_5 fr h Q = opsW E [⟨none, some 3, .move (.tmp 0)⟩,
  ⟨none, some 4, .binOp .eql 39 (.tmp 3) (.const (.slice none 0 0)) 39⟩] fr h Q := Eq.trans rfl rfl
def s51_6 : GC := .seq (.ops r51_5) s51_4
theorem s51_6_w {E : Env} {nt : Nat} {rd : Option Nat} {fr : Fr} {h : Heap} {Q : Ex → Fr → Heap → Prop} : s51_6.wp E nt rd fr h Q = (GC.seq (.ops r51_5) s51_4).wp E nt rd fr h Q := Eq.trans rfl rfl
def s51_7 : GC := .seq (s51_6) s51_1
theorem s51_7_w {E : Env} {nt : Nat} {rd : Option Nat} {fr : Fr} {h : Heap} {Q : Ex → Fr → Heap → Prop} : s51_7.wp E nt rd fr h Q = (GC.seq (s51_6) s51_1).wp E nt rd fr h Q := Eq.trans rfl rfl
def r51_8 : List GO := [⟨none, some 2, .assign (.const (.slice none 0 0))⟩]
theorem r51_8_w {E : Env} {fr : Fr} {h : Heap} {Q : Fr → Heap → Prop} : opsW E r51_8 fr h Q = opsW E [⟨none, some 2, .assign (.const (.slice none 0 0))⟩] fr h Q := Eq.trans rfl rfl
def s51_9 : GC := .seq (.ops r51_8) s51_7
theorem s51_9_w {E : Env} {nt : Nat} {rd : Option Nat} {fr : Fr} {h : Heap} {Q : Ex → Fr → Heap → Prop} : s51_9.wp E nt rd fr h Q = (GC.seq (.ops r51_8) s51_7).wp E nt rd fr h Q := Eq.trans rfl rfl
theorem c51 : Try.f51.body.bind (clean env 8) = some s51_9 := by kernel_rfl
theorem e51 : env.funs.get 51 = some Try.f51 := by kernel_rfl
theorem F51 {args : List Value} {h : Heap} {K : Value → Heap → Prop} (hl : args.length = 1) (w : s51_9.wp env 8 none (setAll args 0 .leaf) h (resK env [.tmp 2] K)) : Ret env (.func 51) args h K :=
  Ret.of_body' rfl e51 c51 rfl rfl (by rw [hl]; decide) w
/-! helmsman/fair.counted$5 -/
def r52_0 : List GO := [⟨none, some 2, .move (.tmp 0)⟩,
  ⟨none, some 3, .nilCheck (.tmp 2)⟩,
  ⟨none, some 4, .fieldAddr 71 (.tmp 3) 2⟩,
  ⟨none, some 5, .load 3 (.tmp 4)⟩,
  ⟨none, some 6, .binOp .add 3 (.tmp 5) (.const (.int .i64 1)) 3⟩,
  ⟨none, some 7, .nilCheck (.tmp 2)⟩,
  ⟨none, some 8, .fieldAddr 71 (.tmp 7) 2⟩,
  ⟨none, none, .store 3 (.tmp 8) (.tmp 6)⟩]
theorem r52_0_w {E : Env} {fr : Fr} {h : Heap} {Q : Fr → Heap → Prop} : opsW E r52_0 fr h Q = opsW E [⟨none, some 2, .move (.tmp 0)⟩,
  ⟨none, some 3, .nilCheck (.tmp 2)⟩,
  ⟨none, some 4, .fieldAddr 71 (.tmp 3) 2⟩,
  ⟨none, some 5, .load 3 (.tmp 4)⟩,
  ⟨none, some 6, .binOp .add 3 (.tmp 5) (.const (.int .i64 1)) 3⟩,
  ⟨none, some 7, .nilCheck (.tmp 2)⟩,
  ⟨none, some 8, .fieldAddr 71 (.tmp 7) 2⟩,
  ⟨none, none, .store 3 (.tmp 8) (.tmp 6)⟩] fr h Q := Eq.trans rfl rfl
def s52_1 : GC := .ops r52_0
theorem s52_1_w {E : Env} {nt : Nat} {rd : Option Nat} {fr : Fr} {h : Heap} {Q : Ex → Fr → Heap → Prop} : s52_1.wp E nt rd fr h Q = (GC.ops r52_0).wp E nt rd fr h Q := Eq.trans rfl rfl
theorem c52 : Try.f52.body.bind (clean env 9) = some s52_1 := by kernel_rfl
theorem e52 : env.funs.get 52 = some Try.f52 := by kernel_rfl
theorem F52 {args : List Value} {h : Heap} {K : Value → Heap → Prop} (hl : args.length = 1) (w : s52_1.wp env 9 none (setAll args 0 .leaf) h (resK env [] K)) : Ret env (.func 52) args h K :=
  Ret.of_body' rfl e52 c52 rfl rfl (by rw [hl]; decide) w
/-! helmsman/helmsmanref01.Has -/
def r53_0 : List GO := [⟨none, some 19, .move (.tmp 0)⟩,
  ⟨none, some 20, .binOp .rem 5 (.tmp 19) (.const (.int .u8 2)) 5⟩,
  ⟨none, some 21, .binOp .eql 5 (.tmp 20) (.const (.int .u8 1)) 5⟩,
  ⟨none, some 4, .assign (.tmp 21)⟩]
theorem r53_0_w {E : Env} {fr : Fr} {h : Heap} {Q : Fr → Heap → Prop} : opsW E r53_0 fr h Q = opsW E [⟨none, some 19, .move (.tmp 0)⟩,
  ⟨none, some 20, .binOp .rem 5 (.tmp 19) (.const (.int .u8 2)) 5⟩,
  ⟨none, some 21, .binOp .eql 5 (.tmp 20) (.const (.int .u8 1)) 5⟩,
  ⟨none, some 4, .assign (.tmp 21)⟩] fr h Q := Eq.trans rfl rfl
def s53_1 : GC := .seq (.ops r53_0) .ret
theorem s53_1_w {E : Env} {nt : Nat} {rd : Option Nat} {fr : Fr} {h : Heap} {Q : Ex → Fr → Heap → Prop} : s53_1.wp E nt rd fr h Q = (GC.seq (.ops r53_0) .ret).wp E nt rd fr h Q := Eq.trans rfl rfl
def r53_2 : List GO := [⟨none, some 15, .move (.tmp 5)⟩,
  ⟨none, some 16, .binOp .add 3 (.tmp 15) (.const (.int .i64 1)) 3⟩,
  ⟨none, some 5, .assign (.tmp 16)⟩]
theorem r53_2_w {E : Env} {fr : Fr} {h : Heap} {Q : Fr → Heap → Prop} : opsW E r53_2 fr h Q = opsW E [⟨none, some 15, .move (.tmp 5)⟩,
  ⟨none, some 16, .binOp .add 3 (.tmp 15) (.const (.int .i64 1)) 3⟩,
  ⟨none, some 5, .assign (.tmp 16)⟩] fr h Q := Eq.trans rfl rfl
def s53_3 : GC := .ops r53_2
theorem s53_3_w {E : Env} {nt : Nat} {rd : Option Nat} {fr : Fr} {h : Heap} {Q : Ex → Fr → Heap → Prop} : s53_3.wp E nt rd fr h Q = (GC.ops r53_2).wp E nt rd fr h Q := Eq.trans rfl rfl
def r53_4 : List GO := [⟨none, some 17, .move (.tmp 0)⟩,
  ⟨none, some 18, .binOp .quo 5 (.tmp 17) (.const (.int .u8 2)) 5⟩,
  ⟨none, some 0, .assign (.tmp 18)⟩]
theorem r53_4_w {E : Env} {fr : Fr} {h : Heap} {Q : Fr → Heap → Prop} : opsW E r53_4 fr h Q = opsW E [⟨none, some 17, .move (.tmp 0)⟩,
  ⟨none, some 18, .binOp .quo 5 (.tmp 17) (.const (.int .u8 2)) 5⟩,
  ⟨none, some 0, .assign (.tmp 18)⟩] fr h Q := Eq.trans rfl rfl
def s53_5 : GC := .ops r53_4
theorem s53_5_w {E : Env} {nt : Nat} {rd : Option Nat} {fr : Fr} {h : Heap} {Q : Ex → Fr → Heap → Prop} : s53_5.wp E nt rd fr h Q = (GC.ops r53_4).wp E nt rd fr h Q := Eq.trans rfl rfl
def s53_6 : GC := .seq (.block 1 s53_5) s53_3
theorem s53_6_w {E : Env} {nt : Nat} {rd : Option Nat} {fr : Fr} {h : Heap} {Q : Ex → Fr → Heap → Prop} : s53_6.wp E nt rd fr h Q = (GC.seq (.block 1 s53_5) s53_3).wp E nt rd fr h Q := Eq.trans rfl rfl
def s53_7 : GC := .cond (.tmp 14) .skip (.exit 0)
theorem s53_7_w {E : Env} {nt : Nat} {rd : Option Nat} {fr : Fr} {h : Heap} {Q : Ex → Fr → Heap → Prop} : s53_7.wp E nt rd fr h Q = (GC.cond (.tmp 14) .skip (.exit 0)).wp E nt rd fr h Q := Eq.trans rfl rfl
def r53_8 : List GO := [⟨none, some 12, .move (.tmp 5)⟩,
  ⟨none, some 13, .move (.tmp 1)⟩,
  ⟨none, some 14, .binOp .lss 3 (.tmp 12) (.tmp 13) 3⟩]
theorem r53_8_w {E : Env} {fr : Fr} {h : Heap} {Q : Fr → Heap → Prop} : opsW E r53_8 fr h Q = opsW E [⟨none, some 12, .move (.tmp 5)⟩,
  ⟨none, some 13, .move (.tmp 1)⟩,
  ⟨none, some 14, .binOp .lss 3 (.tmp 12) (.tmp 13) 3⟩] fr h Q := Eq.trans rfl rfl
def s53_9 : GC := .seq (.ops r53_8) s53_7
theorem s53_9_w {E : Env} {nt : Nat} {rd : Option Nat} {fr : Fr} {h : Heap} {Q : Ex → Fr → Heap → Prop} : s53_9.wp E nt rd fr h Q = (GC.seq (.ops r53_8) s53_7).wp E nt rd fr h Q := Eq.trans rfl rfl
def s53_10 : GC := .seq (s53_9) s53_6
theorem s53_10_w {E : Env} {nt : Nat} {rd : Option Nat} {fr : Fr} {h : Heap} {Q : Ex → Fr → Heap → Prop} : s53_10.wp E nt rd fr h Q = (GC.seq (s53_9) s53_6).wp E nt rd fr h Q := Eq.trans rfl rfl
def s53_11 : GC := .loop s53_10
theorem s53_11_w {E : Env} {nt : Nat} {rd : Option Nat} {fr : Fr} {h : Heap} {Q : Ex → Fr → Heap → Prop} : s53_11.wp E nt rd fr h Q = (GC.loop s53_10).wp E nt rd fr h Q := Eq.trans rfl rfl
def s53_12 : GC := .block 0 s53_11
theorem s53_12_w {E : Env} {nt : Nat} {rd : Option Nat} {fr : Fr} {h : Heap} {Q : Ex → Fr → Heap → Prop} : s53_12.wp E nt rd fr h Q = (GC.block 0 s53_11).wp E nt rd fr h Q := Eq.trans rfl rfl
def r53_13 : List GO := [⟨none, some 5, .assign (.const (.int .i64 0))⟩]
theorem r53_13_w {E : Env} {fr : Fr} {h : Heap} {Q : Fr → Heap → Prop} : opsW E r53_13 fr h Q = opsW E [⟨none, some 5, .assign (.const (.int .i64 0))⟩] fr h Q := Eq.trans rfl rfl
def s53_14 : GC := .seq (.ops r53_13) s53_12
theorem s53_14_w {E : Env} {nt : Nat} {rd : Option Nat} {fr : Fr} {h : Heap} {Q : Ex → Fr → Heap → Prop} : s53_14.wp E nt rd fr h Q = (GC.seq (.ops r53_13) s53_12).wp E nt rd fr h Q := Eq.trans rfl rfl
def s53_15 : GC := .seq (s53_14) s53_1
theorem s53_15_w {E : Env} {nt : Nat} {rd : Option Nat} {fr : Fr} {h : Heap} {Q : Ex → Fr → Heap → Prop} : s53_15.wp E nt rd fr h Q = (GC.seq (s53_14) s53_1).wp E nt rd fr h Q := Eq.trans rfl rfl
def r53_16 : List GO := [⟨none, some 4, .assign (.const (.bool false))⟩]
theorem r53_16_w {E : Env} {fr : Fr} {h : Heap} {Q : Fr → Heap → Prop} : opsW E r53_16 fr h Q = opsW E [⟨none, some 4, .assign (.const (.bool false))⟩] fr h Q := Eq.trans rfl rfl
def s53_17 : GC := .seq (.ops r53_16) .ret
theorem s53_17_w {E : Env} {nt : Nat} {rd : Option Nat} {fr : Fr} {h : Heap} {Q : Ex → Fr → Heap → Prop} : s53_17.wp E nt rd fr h Q = (GC.seq (.ops r53_16) .ret).wp E nt rd fr h Q := Eq.trans rfl rfl
def s53_18 : GC := .cond (.tmp 11) s53_17 .skip
theorem s53_18_w {E : Env} {nt : Nat} {rd : Option Nat} {fr : Fr} {h : Heap} {Q : Ex → Fr → Heap → Prop} : s53_18.wp E nt rd fr h Q = (GC.cond (.tmp 11) s53_17 .skip).wp E nt rd fr h Q := Eq.trans rfl rfl
def r53_19 : List GO := [⟨none, some 6, .move (.tmp 1)⟩,
  ⟨none, some 7, .binOp .lss 3 (.tmp 6) (.const (.int .i64 0)) 3⟩,
  ⟨none, some 8, .move (.tmp 7)⟩,
  ⟨some (8, false), some 9, .move (.tmp 1)⟩,
  ⟨some (8, false), some 10, .binOp .gtr 3 (.tmp 9) (.const (.int .i64 7)) 3⟩,
  ⟨none, some 11, .pick (.tmp 8) (.const (.bool true)) (.tmp 10)⟩]
theorem r53_19_w {E : Env} {fr : Fr} {h : Heap} {Q : Fr → Heap → Prop} : opsW E r53_19 fr h Q = opsW E [⟨none, some 6, .move (.tmp 1)⟩,
  ⟨none, some 7, .binOp .lss 3 (.tmp 6) (.const (.int .i64 0)) 3⟩,
  ⟨none, some 8, .move (.tmp 7)⟩,
  ⟨some (8, false), some 9, .move (.tmp 1)⟩,
  ⟨some (8, false), some 10, .binOp .gtr 3 (.tmp 9) (.const (.int .i64 7)) 3⟩,
  ⟨none, some 11, .pick (.tmp 8) (.const (.bool true)) (.tmp 10)⟩] fr h Q := Eq.trans rfl rfl
def s53_20 : GC := .seq (.ops r53_19) s53_18
theorem s53_20_w {E : Env} {nt : Nat} {rd : Option Nat} {fr : Fr} {h : Heap} {Q : Ex → Fr → Heap → Prop} : s53_20.wp E nt rd fr h Q = (GC.seq (.ops r53_19) s53_18).wp E nt rd fr h Q := Eq.trans rfl rfl
def s53_21 : GC := .seq (s53_20) s53_15
theorem s53_21_w {E : Env} {nt : Nat} {rd : Option Nat} {fr : Fr} {h : Heap} {Q : Ex → Fr → Heap → Prop} : s53_21.wp E nt rd fr h Q = (GC.seq (s53_20) s53_15).wp E nt rd fr h Q := Eq.trans rfl rfl
def r53_22 : List GO := [⟨none, some 4, .assign (.const (.bool false))⟩]
theorem r53_22_w {E : Env} {fr : Fr} {h : Heap} {Q : Fr → Heap → Prop} : opsW E r53_22 fr h Q = opsW E [⟨none, some 4, .assign (.const (.bool false))⟩] fr h Q := Eq.trans rfl rfl
def s53_23 : GC := .seq (.ops r53_22) s53_21
theorem s53_23_w {E : Env} {nt : Nat} {rd : Option Nat} {fr : Fr} {h : Heap} {Q : Ex → Fr → Heap → Prop} : s53_23.wp E nt rd fr h Q = (GC.seq (.ops r53_22) s53_21).wp E nt rd fr h Q := Eq.trans rfl rfl
theorem c53 : Try.f53.body.bind (clean env 22) = some s53_23 := by kernel_rfl
theorem e53 : env.funs.get 53 = some Try.f53 := by kernel_rfl
theorem F53 {args : List Value} {h : Heap} {K : Value → Heap → Prop} (hl : args.length = 2) (w : s53_23.wp env 22 none (setAll args 0 .leaf) h (resK env [.tmp 4] K)) : Ret env (.func 53) args h K :=
  Ret.of_body' rfl e53 c53 rfl rfl (by rw [hl]; decide) w
/-! helmsman/num.bit -/
def r68_0 : List GO := [⟨none, some 9, .move (.tmp 0)⟩,
  ⟨none, some 10, .binOp .shl 5 (.const (.int .u8 1)) (.tmp 9) 3⟩,
  ⟨none, some 2, .assign (.tmp 10)⟩]
theorem r68_0_w {E : Env} {fr : Fr} {h : Heap} {Q : Fr → Heap → Prop} : opsW E r68_0 fr h Q = opsW E [⟨none, some 9, .move (.tmp 0)⟩,
  ⟨none, some 10, .binOp .shl 5 (.const (.int .u8 1)) (.tmp 9) 3⟩,
  ⟨none, some 2, .assign (.tmp 10)⟩] fr h Q := Eq.trans rfl rfl
def s68_1 : GC := .seq (.ops r68_0) .ret
theorem s68_1_w {E : Env} {nt : Nat} {rd : Option Nat} {fr : Fr} {h : Heap} {Q : Ex → Fr → Heap → Prop} : s68_1.wp E nt rd fr h Q = (GC.seq (.ops r68_0) .ret).wp E nt rd fr h Q := Eq.trans rfl rfl
def r68_2 : List GO := [⟨none, some 2, .assign (.const (.int .u8 0))⟩]
theorem r68_2_w {E : Env} {fr : Fr} {h : Heap} {Q : Fr → Heap → Prop} : opsW E r68_2 fr h Q = opsW E [⟨none, some 2, .assign (.const (.int .u8 0))⟩] fr h Q := Eq.trans rfl rfl
def s68_3 : GC := .seq (.ops r68_2) .ret
theorem s68_3_w {E : Env} {nt : Nat} {rd : Option Nat} {fr : Fr} {h : Heap} {Q : Ex → Fr → Heap → Prop} : s68_3.wp E nt rd fr h Q = (GC.seq (.ops r68_2) .ret).wp E nt rd fr h Q := Eq.trans rfl rfl
def s68_4 : GC := .cond (.tmp 8) s68_3 .skip
theorem s68_4_w {E : Env} {nt : Nat} {rd : Option Nat} {fr : Fr} {h : Heap} {Q : Ex → Fr → Heap → Prop} : s68_4.wp E nt rd fr h Q = (GC.cond (.tmp 8) s68_3 .skip).wp E nt rd fr h Q := Eq.trans rfl rfl
def r68_5 : List GO := [⟨none, some 3, .move (.tmp 0)⟩,
  ⟨none, some 4, .binOp .lss 3 (.tmp 3) (.const (.int .i64 0)) 3⟩,
  ⟨none, some 5, .move (.tmp 4)⟩,
  ⟨some (5, false), some 6, .move (.tmp 0)⟩,
  ⟨some (5, false), some 7, .binOp .gtr 3 (.tmp 6) (.const (.int .i64 7)) 3⟩,
  ⟨none, some 8, .pick (.tmp 5) (.const (.bool true)) (.tmp 7)⟩]
theorem r68_5_w {E : Env} {fr : Fr} {h : Heap} {Q : Fr → Heap → Prop} : opsW E r68_5 fr h Q = opsW E [⟨none, some 3, .move (.tmp 0)⟩,
  ⟨none, some 4, .binOp .lss 3 (.tmp 3) (.const (.int .i64 0)) 3⟩,
  ⟨none, some 5, .move (.tmp 4)⟩,
  ⟨some (5, false), some 6, .move (.tmp 0)⟩,
  ⟨some (5, false), some 7, .binOp .gtr 3 (.tmp 6) (.const (.int .i64 7)) 3⟩,
  ⟨none, some 8, .pick (.tmp 5) (.const (.bool true)) (.tmp 7)⟩] fr h Q := Eq.trans rfl rfl
def s68_6 : GC := .seq (.ops r68_5) s68_4
theorem s68_6_w {E : Env} {nt : Nat} {rd : Option Nat} {fr : Fr} {h : Heap} {Q : Ex → Fr → Heap → Prop} : s68_6.wp E nt rd fr h Q = (GC.seq (.ops r68_5) s68_4).wp E nt rd fr h Q := Eq.trans rfl rfl
def s68_7 : GC := .seq (s68_6) s68_1
theorem s68_7_w {E : Env} {nt : Nat} {rd : Option Nat} {fr : Fr} {h : Heap} {Q : Ex → Fr → Heap → Prop} : s68_7.wp E nt rd fr h Q = (GC.seq (s68_6) s68_1).wp E nt rd fr h Q := Eq.trans rfl rfl
def r68_8 : List GO := [⟨none, some 2, .assign (.const (.int .u8 0))⟩]
theorem r68_8_w {E : Env} {fr : Fr} {h : Heap} {Q : Fr → Heap → Prop} : opsW E r68_8 fr h Q = opsW E [⟨none, some 2, .assign (.const (.int .u8 0))⟩] fr h Q := Eq.trans rfl rfl
def s68_9 : GC := .seq (.ops r68_8) s68_7
theorem s68_9_w {E : Env} {nt : Nat} {rd : Option Nat} {fr : Fr} {h : Heap} {Q : Ex → Fr → Heap → Prop} : s68_9.wp E nt rd fr h Q = (GC.seq (.ops r68_8) s68_7).wp E nt rd fr h Q := Eq.trans rfl rfl
theorem c68 : Try.f68.body.bind (clean env 11) = some s68_9 := by kernel_rfl
theorem e68 : env.funs.get 68 = some Try.f68 := by kernel_rfl
theorem F68 {args : List Value} {h : Heap} {K : Value → Heap → Prop} (hl : args.length = 1) (w : s68_9.wp env 11 none (setAll args 0 .leaf) h (resK env [.tmp 2] K)) : Ret env (.func 68) args h K :=
  Ret.of_body' rfl e68 c68 rfl rfl (by rw [hl]; decide) w
/-! slices.Grow[[]int,int] -/
def r69_0 : List GO := [⟨none, some 26, .move (.tmp 0)⟩,
  ⟨none, some 4, .assign (.tmp 26)⟩]
theorem r69_0_w {E : Env} {fr : Fr} {h : Heap} {Q : Fr → Heap → Prop} : opsW E r69_0 fr h Q = opsW E [⟨none, some 26, .move (.tmp 0)⟩,
  ⟨none, some 4, .assign (.tmp 26)⟩] fr h Q := Eq.trans rfl rfl
def s69_1 : GC := .seq (.ops r69_0) .ret
theorem s69_1_w {E : Env} {nt : Nat} {rd : Option Nat} {fr : Fr} {h : Heap} {Q : Ex → Fr → Heap → Prop} : s69_1.wp E nt rd fr h Q = (GC.seq (.ops r69_0) .ret).wp E nt rd fr h Q := Eq.trans rfl rfl
def r69_2 : List GO := [⟨none, some 17, .move (.tmp 0)⟩,
  ⟨none, some 18, .move (.tmp 0)⟩,
  ⟨none, some 19, .call ⟨.builtin .cap, ⟨[.tmp 18]⟩, ⟨[38]⟩⟩⟩,
  ⟨none, some 20, .slice 38 (.tmp 17) none (some (.tmp 19)) none⟩,
  ⟨none, some 21, .move (.tmp 1)⟩,
  ⟨none, some 22, .call ⟨.builtin .append, ⟨[.tmp 20, .tmp 21]⟩, ⟨[38, 3]⟩⟩⟩,
  ⟨none, some 23, .move (.tmp 0)⟩,
  ⟨none, some 24, .call ⟨.builtin .len, ⟨[.tmp 23]⟩, ⟨[38]⟩⟩⟩,
  ⟨none, some 25, .slice 38 (.tmp 22) none (some (.tmp 24)) none⟩,
  ⟨none, some 0, .assign (.tmp 25)⟩]
theorem r69_2_w {E : Env} {fr : Fr} {h : Heap} {Q : Fr → Heap → Prop} : opsW E r69_2 fr h Q = opsW E [⟨none, some 17, .move (.tmp 0)⟩,
  ⟨none, some 18, .move (.tmp 0)⟩,
  ⟨none, some 19, .call ⟨.builtin .cap, ⟨[.tmp 18]⟩, ⟨[38]⟩⟩⟩,
  ⟨none, some 20, .slice 38 (.tmp 17) none (some (.tmp 19)) none⟩,
  ⟨none, some 21, .move (.tmp 1)⟩,
  ⟨none, some 22, .call ⟨.builtin .append, ⟨[.tmp 20, .tmp 21]⟩, ⟨[38, 3]⟩⟩⟩,
  ⟨none, some 23, .move (.tmp 0)⟩,
  ⟨none, some 24, .call ⟨.builtin .len, ⟨[.tmp 23]⟩, ⟨[38]⟩⟩⟩,
  ⟨none, some 25, .slice 38 (.tmp 22) none (some (.tmp 24)) none⟩,
  ⟨none, some 0, .assign (.tmp 25)⟩] fr h Q := Eq.trans rfl rfl
def s69_3 : GC := .ops r69_2
theorem s69_3_w {E : Env} {nt : Nat} {rd : Option Nat} {fr : Fr} {h : Heap} {Q : Ex → Fr → Heap → Prop} : s69_3.wp E nt rd fr h Q = (GC.ops r69_2).wp E nt rd fr h Q := Eq.trans rfl rfl
def s69_4 : GC := .cond (.tmp 16) s69_3 .skip
theorem s69_4_w {E : Env} {nt : Nat} {rd : Option Nat} {fr : Fr} {h : Heap} {Q : Ex → Fr → Heap → Prop} : s69_4.wp E nt rd fr h Q = (GC.cond (.tmp 16) s69_3 .skip).wp E nt rd fr h Q := Eq.trans rfl rfl
def r69_5 : List GO := [⟨none, some 15, .move (.tmp 1)⟩,
  ⟨none, some 16, .binOp .gtr 3 (.tmp 15) (.const (.int .i64 0)) 3⟩]
theorem r69_5_w {E : Env} {fr : Fr} {h : Heap} {Q : Fr → Heap → Prop} : opsW E r69_5 fr h Q = opsW E [⟨none, some 15, .move (.tmp 1)⟩,
  ⟨none, some 16, .binOp .gtr 3 (.tmp 15) (.const (.int .i64 0)) 3⟩] fr h Q := Eq.trans rfl rfl
def s69_6 : GC := .seq (.ops r69_5) s69_4
theorem s69_6_w {E : Env} {nt : Nat} {rd : Option Nat} {fr : Fr} {h : Heap} {Q : Ex → Fr → Heap → Prop} : s69_6.wp E nt rd fr h Q = (GC.seq (.ops r69_5) s69_4).wp E nt rd fr h Q := Eq.trans rfl rfl
def r69_7 : List GO := [⟨none, some 8, .move (.tmp 1)⟩,
  ⟨none, some 9, .move (.tmp 0)⟩,
  ⟨none, some 10, .call ⟨.builtin .cap, ⟨[.tmp 9]⟩, ⟨[38]⟩⟩⟩,
  ⟨none, some 11, .move (.tmp 0)⟩,
  ⟨none, some 12, .call ⟨.builtin .len, ⟨[.tmp 11]⟩, ⟨[38]⟩⟩⟩,
  ⟨none, some 13, .binOp .sub 3 (.tmp 10) (.tmp 12) 3⟩,
  ⟨none, some 14, .binOp .sub 3 (.tmp 8) (.tmp 13) 3⟩,
  ⟨none, some 1, .assign (.tmp 14)⟩]
theorem r69_7_w {E : Env} {fr : Fr} {h : Heap} {Q : Fr → Heap → Prop} : opsW E r69_7 fr h Q = opsW E [⟨none, some 8, .move (.tmp 1)⟩,
  ⟨none, some 9, .move (.tmp 0)⟩,
  ⟨none, some 10, .call ⟨.builtin .cap, ⟨[.tmp 9]⟩, ⟨[38]⟩⟩⟩,
  ⟨none, some 11, .move (.tmp 0)⟩,
  ⟨none, some 12, .call ⟨.builtin .len, ⟨[.tmp 11]⟩, ⟨[38]⟩⟩⟩,
  ⟨none, some 13, .binOp .sub 3 (.tmp 10) (.tmp 12) 3⟩,
  ⟨none, some 14, .binOp .sub 3 (.tmp 8) (.tmp 13) 3⟩,
  ⟨none, some 1, .assign (.tmp 14)⟩] fr h Q := Eq.trans rfl rfl
def s69_8 : GC := .seq (.ops r69_7) s69_6
theorem s69_8_w {E : Env} {nt : Nat} {rd : Option Nat} {fr : Fr} {h : Heap} {Q : Ex → Fr → Heap → Prop} : s69_8.wp E nt rd fr h Q = (GC.seq (.ops r69_7) s69_6).wp E nt rd fr h Q := Eq.trans rfl rfl
def s69_9 : GC := .seq (s69_8) s69_1
theorem s69_9_w {E : Env} {nt : Nat} {rd : Option Nat} {fr : Fr} {h : Heap} {Q : Ex → Fr → Heap → Prop} : s69_9.wp E nt rd fr h Q = (GC.seq (s69_8) s69_1).wp E nt rd fr h Q := Eq.trans rfl rfl
def r69_10 : List GO := [⟨none, some 7, .makeInterface 9 (.const (.string ⟨⟨[99, 97, 110, 110, 111, 116, 32, 98, 101, 32, 110, 101, 103, 97, 116, 105, 118, 101]⟩⟩))⟩,
  ⟨none, none, .panic (.tmp 7)⟩]
theorem r69_10_w {E : Env} {fr : Fr} {h : Heap} {Q : Fr → Heap → Prop} : opsW E r69_10 fr h Q = opsW E [⟨none, some 7, .makeInterface 9 (.const (.string ⟨⟨[99, 97, 110, 110, 111, 116, 32, 98, 101, 32, 110, 101, 103, 97, 116, 105, 118, 101]⟩⟩))⟩,
  ⟨none, none, .panic (.tmp 7)⟩] fr h Q := Eq.trans rfl rfl
def s69_11 : GC := .ops r69_10
theorem s69_11_w {E : Env} {nt : Nat} {rd : Option Nat} {fr : Fr} {h : Heap} {Q : Ex → Fr → Heap → Prop} : s69_11.wp E nt rd fr h Q = (GC.ops r69_10).wp E nt rd fr h Q := Eq.trans rfl rfl
def s69_12 : GC := .cond (.tmp 6) s69_11 .skip
theorem s69_12_w {E : Env} {nt : Nat} {rd : Option Nat} {fr : Fr} {h : Heap} {Q : Ex → Fr → Heap → Prop} : s69_12.wp E nt rd fr h Q = (GC.cond (.tmp 6) s69_11 .skip).wp E nt rd fr h Q := Eq.trans rfl rfl
def r69_13 : List GO := [⟨none, some 5, .move (.tmp 1)⟩,
  ⟨none, some 6, .binOp .lss 3 (.tmp 5) (.const (.int .i64 0)) 3⟩]
theorem r69_13_w {E : Env} {fr : Fr} {h : Heap} {Q : Fr → Heap → Prop} : opsW E r69_13 fr h Q = opsW E [⟨none, some 5, .move (.tmp 1)⟩,
  ⟨none, some 6, .binOp .lss 3 (.tmp 5) (.const (.int .i64 0)) 3⟩] fr h Q := Eq.trans rfl rfl
def s69_14 : GC := .seq (.ops r69_13) s69_12
theorem s69_14_w {E : Env} {nt : Nat} {rd : Option Nat} {fr : Fr} {h : Heap} {Q : Ex → Fr → Heap → Prop} : s69_14.wp E nt rd fr h Q = (GC.seq (.ops r69_13) s69_12).wp E nt rd fr h Q := Eq.trans rfl rfl
def s69_15 : GC := .seq (s69_14) s69_9
theorem s69_15_w {E : Env} {nt : Nat} {rd : Option Nat} {fr : Fr} {h : Heap} {Q : Ex → Fr → Heap → Prop} : s69_15.wp E nt rd fr h Q = (GC.seq (s69_14) s69_9).wp E nt rd fr h Q := Eq.trans rfl rfl
def r69_16 : List GO := [⟨none, some 4, .assign (.const (.slice none 0 0))⟩]
theorem r69_16_w {E : Env} {fr : Fr} {h : Heap} {Q : Fr → Heap → Prop} : opsW E r69_16 fr h Q = opsW E [⟨none, some 4, .assign (.const (.slice none 0 0))⟩] fr h Q := Eq.trans rfl rfl
def s69_17 : GC := .seq (.ops r69_16) s69_15
theorem s69_17_w {E : Env} {nt : Nat} {rd : Option Nat} {fr : Fr} {h : Heap} {Q : Ex → Fr → Heap → Prop} : s69_17.wp E nt rd fr h Q = (GC.seq (.ops r69_16) s69_15).wp E nt rd fr h Q := Eq.trans rfl rfl
theorem c69 : Try.f69.body.bind (clean env 27) = some s69_17 := by kernel_rfl
theorem e69 : env.funs.get 69 = some Try.f69 := by kernel_rfl
theorem F69 {args : List Value} {h : Heap} {K : Value → Heap → Prop} (hl : args.length = 2) (w : s69_17.wp env 27 none (setAll args 0 .leaf) h (resK env [.tmp 4] K)) : Ret env (.func 69) args h K :=
  Ret.of_body' rfl e69 c69 rfl rfl (by rw [hl]; decide) w

end Go.Proofs.Ytdjnedamphifcaa
