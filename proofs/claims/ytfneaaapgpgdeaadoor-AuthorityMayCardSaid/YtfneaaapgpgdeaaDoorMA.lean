/- THE LIBRARY's FUNCTIONS BY THEIR CONTRACTS, the table that is looked at, and what known() answers, reckoned. Conditions: none beyond each theorem's own. -/
import Derived.Shelf.Strconv.Itoa0
import Derived.Shelf.Strconv.Itoa1
import Derived.Shelf.Strconv.Itoa2
import Derived.Test.YtfneaaapgpgdeaaDoorProg
import Derived.Test.YtfneaaapgpgdeaaDoorZTa
import Derived.Test.YtfneaaapgpgdeaaDoorChecked
import Derived.KernelRfl
set_option linter.unusedSimpArgs false
set_option linter.unusedVariables false
namespace Go.Proofs
open Go.Shelf
def Tryd.lays129_ren : Go.Shelf.Ren := ⟨fun | 129 => 32 | n => n, fun | 53 => 22 | 3 => 3 | 4 => 4 | 46 => 102 | 5 => 5 | 9 => 9 | n => n, fun | n => n⟩
theorem Tryd.lays129 : Go.Proofs.Lays.n129 Tryd.prog Tryd.lays129_ren := {
  mixed := by kernel_rfl
  f129 := Tryd.func32.trans (congrArg some (by kernel_rfl))
  t3 := Tryd.underlying3
  a3 := Tryd.isAgg3
  z3 := Tryd.sizeOf3
  v3 := Tryd.zeroValue3
  t4 := Tryd.underlying4
  a4 := Tryd.isAgg4
  z4 := Tryd.sizeOf4
  v4 := Tryd.zeroValue4
  t5 := Tryd.underlying5
  a5 := Tryd.isAgg5
  z5 := Tryd.sizeOf5
  v5 := Tryd.zeroValue5
  t9 := Tryd.underlying9
  a9 := Tryd.isAgg9
  z9 := Tryd.sizeOf9
  v9 := Tryd.zeroValue9
  t46 := Tryd.underlying102
  a46 := Tryd.isAgg102
  z46 := Tryd.sizeOf102
  v46 := Tryd.zeroValue102
  t53 := Tryd.underlying22
  a53 := Tryd.isAgg22
  z53 := Tryd.sizeOf22
  v53 := Tryd.zeroValue22 }
theorem Tryd.bits_Len64 (x : Int) (w : World) (h0 : 0 ≤ x) (h1 : x ≤ 18446744073709551615) :
    Calls Tryd.prog 32 #[.int .u64 x] w fun e w' => e = .returned (.int .i64 (Lib.bitLen x.toNat)) ∧ w' = w := Any.bits_Len64 Tryd.lays129 x w h0 h1
def Tryd.lays283_ren : Go.Shelf.Ren := ⟨fun | 283 => 18 | n => n, fun | 3 => 3 | 9 => 9 | 4 => 4 | n => n, fun | n => n⟩
theorem Tryd.lays283 : Go.Proofs.Lays.n283 Tryd.prog Tryd.lays283_ren := {
  mixed := by kernel_rfl
  f283 := Tryd.func18.trans (congrArg some (by kernel_rfl))
  t3 := Tryd.underlying3
  a3 := Tryd.isAgg3
  z3 := Tryd.sizeOf3
  v3 := Tryd.zeroValue3
  t4 := Tryd.underlying4
  a4 := Tryd.isAgg4
  z4 := Tryd.sizeOf4
  v4 := Tryd.zeroValue4
  t9 := Tryd.underlying9
  a9 := Tryd.isAgg9
  z9 := Tryd.sizeOf9
  v9 := Tryd.zeroValue9 }
open Go.Lib in
theorem Tryd.internal_strconv_small (i : Nat) (h : i < 100) (w : World) :
    Calls Tryd.prog 18 #[.int .i64 i] w fun e w' => e = .returned (.string ⟨(Lib.decDigits i).toArray⟩) ∧ w' = w := Any.internal_strconv_small Tryd.lays283 i h w
def Tryd.lays285_ren : Go.Shelf.Ren := ⟨fun | 285 => 20 | n => n, fun | 37 => 80 | 53 => 22 | 3 => 3 | 4 => 4 | 51 => 99 | 9 => 9 | 5 => 5 | 0 => 0 | n => n, fun | n => n⟩
theorem Tryd.lays285 : Go.Proofs.Lays.n285 Tryd.prog Tryd.lays285_ren := {
  mixed := by kernel_rfl
  f285 := Tryd.func20.trans (congrArg some (by kernel_rfl))
  t0 := Tryd.underlying0
  a0 := Tryd.isAgg0
  z0 := Tryd.sizeOf0
  v0 := Tryd.zeroValue0
  t3 := Tryd.underlying3
  a3 := Tryd.isAgg3
  z3 := Tryd.sizeOf3
  v3 := Tryd.zeroValue3
  t4 := Tryd.underlying4
  a4 := Tryd.isAgg4
  z4 := Tryd.sizeOf4
  v4 := Tryd.zeroValue4
  t5 := Tryd.underlying5
  a5 := Tryd.isAgg5
  z5 := Tryd.sizeOf5
  v5 := Tryd.zeroValue5
  t9 := Tryd.underlying9
  a9 := Tryd.isAgg9
  z9 := Tryd.sizeOf9
  v9 := Tryd.zeroValue9
  t37 := Tryd.underlying80
  a37 := Tryd.isAgg80
  z37 := Tryd.sizeOf80
  v37 := Tryd.zeroValue80
  t51 := Tryd.underlying99
  a51 := Tryd.isAgg99
  z51 := Tryd.sizeOf99
  v51 := Tryd.zeroValue99
  t53 := Tryd.underlying22
  a53 := Tryd.isAgg22
  z53 := Tryd.sizeOf22
  v53 := Tryd.zeroValue22 }
open Go.RowKit Go.Sort Go.Lib in
theorem Tryd.internal_strconv_formatBase10 (blk off cap : Nat) (u : Nat) (d : Array UInt8) (w : World) (hH : Holds (fun (b : UInt8) => Value.int .u8 (b.toNat : Int)) w blk off d) (hu : u < 10 ^ d.size) (hu64 : u < 18446744073709551616) (hsz : d.size < 4611686018427387904) :
    Calls Tryd.prog 20 #[.slice (some ⟨blk, off, none⟩) d.size cap, .int .u64 u] w fun e w' =>
      e = .returned (.tuple #[]) ∧ ∃ (n v' : Nat) (dk : Array UInt8), w' = (putRow (fun (b : UInt8) => Value.int .u8 (b.toNat : Int)) w blk off dk).drewN n ∧ FmtInv d.size u 0 v' dk := Any.internal_strconv_formatBase10 Tryd.lays285 blk off cap u d w hH hu hu64 hsz

end Go.Proofs

namespace Go.Proofs.YtfneaaapgpgdeaaDoor.Am
open Go.Ev Go.RowKit
set_option maxRecDepth 100000
/-! the table that is looked at; the library's functions by their contracts -/
def p10 : List Value := [.int .u64 1, .int .u64 10, .int .u64 100, .int .u64 1000, .int .u64 10000, .int .u64 100000, .int .u64 1000000, .int .u64 10000000, .int .u64 100000000, .int .u64 1000000000, .int .u64 10000000000, .int .u64 100000000000, .int .u64 1000000000000, .int .u64 10000000000000, .int .u64 100000000000000, .int .u64 1000000000000000, .int .u64 10000000000000000, .int .u64 100000000000000000, .int .u64 1000000000000000000, .int .u64 10000000000000000000]
def tabs : List (Nat × List Value) := [(0, p10)]
def lenG (args : List Value) (_ : Heap) : Option Value :=
  match args with
  | [.int .u64 x] => cond (decide (0 ≤ x) && decide (x ≤ 18446744073709551615)) (some (.int .i64 (Lib.bitLen x.toNat))) none
  | _ => none
def smallG (args : List Value) (_ : Heap) : Option Value :=
  match args with
  | [.int .i64 x] => cond (decide (0 ≤ x) && decide (x < 100)) (some (.string ⟨(Lib.decDigits x.toNat).toArray⟩)) none
  | _ => none
def ext0 : ExtT := fun _ _ _ => none
def ext1 : ExtT := extFmt 20 ext0
def ext2 : ExtT := extLib 18 smallG ext1
def ext3 : ExtT := extLib 32 lenG ext2
def smaps (t : TypeId) : Bool := Nat.beq t 121
noncomputable def env0 : Env := { envOf Tryd.prog 1 ext3 with smap := smaps }
theorem mixed : Tryd.prog.follows .mixedOrders = true := by kernel_rfl
theorem names_ok : namesB Tryd.prog = true := by kernel_rfl
theorem env0_ok : EnvOK Tryd.prog env0 := let h := envOK Tryd.prog 1 ext3 mixed; ⟨h.tab, h.funs, h.mixed, h.dfr, h.qc⟩
theorem ok0 : ExtOK Tryd.prog (envOf Tryd.prog 1 ext0) := noExt Tryd.prog 1
theorem body20 : Tryd.f20.body.isSome = true := by kernel_rfl
theorem body18 : Tryd.f18.body.isSome = true := by kernel_rfl
theorem body32 : Tryd.f32.body.isSome = true := by kernel_rfl
theorem ok1 : ExtOK Tryd.prog (envOf Tryd.prog 1 ext1) := by
  obtain ⟨c, hc⟩ := Option.isSome_iff_exists.1 body20
  exact extFmt_ok ok0 Tryd.func20 hc (namesOK names_ok) fun blk off cap u d w hH h1 h2 h3 => Tryd.internal_strconv_formatBase10 blk off cap u d w hH h1 h2 h3
theorem one_int {ρ : Ren} {k : IntKind} {n : Int} {args' : Array Value} (ra : VRL ρ [.int k n] args'.toList) : args' = #[.int k n] := by
  obtain ⟨l⟩ := args'
  simp only at ra
  cases ra with
  | cons r1 t => cases r1; cases t; rfl
theorem ok2 : ExtOK Tryd.prog (envOf Tryd.prog 1 ext2) := by
  obtain ⟨c, hc⟩ := Option.isSome_iff_exists.1 body18
  refine extLib_ok ok1 Tryd.func18 hc (namesOK names_ok) fun args h v e ρ w args' hr hg ra => ?_
  unfold smallG at e
  split at e
  · rename_i x
    rw [one_int ra]
    by_cases hx : 0 ≤ x ∧ x < 100
    · obtain ⟨i, rfl⟩ := Int.eq_ofNat_of_zero_le hx.1
      simp only [hx.1, hx.2, decide_true, Bool.and_self, cond_true, Option.some.injEq, Int.toNat_natCast] at e
      subst e
      exact (Tryd.internal_strconv_small i (by omega) w).mono fun e w' ⟨h1, h2⟩ => ⟨_, h1, .string _, by rw [h2]; exact Below.refl _ _⟩
    · have : (decide (0 ≤ x) && decide (x < 100)) = false := by
        simp only [Bool.and_eq_false_iff, decide_eq_false_iff_not]; omega
      rw [this] at e; cases e
  · cases e
theorem ok3 : ExtOK Tryd.prog (envOf Tryd.prog 1 ext3) := by
  obtain ⟨c, hc⟩ := Option.isSome_iff_exists.1 body32
  refine extLib_ok ok2 Tryd.func32 hc (namesOK names_ok) fun args h v e ρ w args' hr hg ra => ?_
  unfold lenG at e
  split at e
  · rename_i x
    rw [one_int ra]
    by_cases hx : 0 ≤ x ∧ x ≤ 18446744073709551615
    · simp only [hx.1, hx.2, decide_true, Bool.and_self, cond_true, Option.some.injEq] at e
      subst e
      exact (Tryd.bits_Len64 x w hx.1 hx.2).mono fun e w' ⟨h1, h2⟩ => ⟨_, h1, .int _ _, by rw [h2]; exact Below.refl _ _⟩
    · have : (decide (0 ≤ x) && decide (x ≤ 18446744073709551615)) = false := by
        simp only [Bool.and_eq_false_iff, decide_eq_false_iff_not]; omega
      rw [this] at e; cases e
  · cases e
theorem tab_const : ∀ p ∈ tabs, p.2.all constOk0 = true := by
  have : tabs.all (fun p => p.2.all constOk0) = true := by decide
  exact fun p hp => List.all_eq_true.1 this p hp
end Go.Proofs.YtfneaaapgpgdeaaDoor.Am

namespace Go.Proofs.YtfneaaapgpgdeaaDoor.Am
open Go.Ev Go.RowKit
set_option maxRecDepth 100000
def isTrue : Option (Go.Value × Go.Ev.Heap) → Bool
  | some (.bool true, _) => true
  | _ => false
theorem of_isTrue {r : Option (Go.Value × Go.Ev.Heap)} (h : isTrue r = true) : ∃ h', r = some (.bool true, h') := by
  unfold isTrue at h
  split at h
  · exact ⟨_, rfl⟩
  · cases h
theorem reckoned : isTrue (callF env0 60 (.func 7) [] (heap0 tabs 1)) = true := by kernel_rfl
theorem known_calls (w : World) (ht : TabW tabs 1 w) : Calls Tryd.prog 7 #[] w fun e w' => e = .returned (.bool true) ∧ Below w.heap.size w w' := by
  obtain ⟨h', e⟩ := of_isTrue reckoned
  exact tab_calls (E := env0) env0_ok ok3 (namesOK names_ok) tab_const rfl e w ht
theorem body7 : Tryd.f7.body.isSome = true := by kernel_rfl
end Go.Proofs.YtfneaaapgpgdeaaDoor.Am

