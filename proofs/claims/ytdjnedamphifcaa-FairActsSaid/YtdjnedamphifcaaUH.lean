/- 'helmsmanlaw30.FairActs' returns true whatever is handed in, and all reads as it did. Conditions, none. -/
import Derived.Test.YtdjnedamphifcaaUG
import Derived.Test.YtdjnedamphifcaaUQ
import Derived.Test.YtdjnedamphifcaaZE
import Derived.Test.YtdjnedamphifcaaRows
import Derived.WalkKit
import Derived.ProofKit
import Derived.OpenShut
import Derived.SizedLaws
set_option linter.unusedSimpArgs false
set_option linter.unusedVariables false
namespace Go.Proofs.Ytdjnedamphifcaa
open Go.ChangeShapes Go.WideShapes Go.ChangeAt Go.RowKit
open Go.Ev (Leaf Leafs LeafU heapOf renB SlF RowAt)
set_option maxRecDepth 100000

theorem own : ownKnob Try.prog.godebug = none := by kernel_rfl
theorem laidOut : laidOutB Try.prog = true := by kernel_rfl
def isStr : Option TypeDesc → Bool
  | some (.struct _) => true
  | _ => false
theorem str25 : isStr (Try.prog.underlying 25) = true := by kernel_rfl
theorem one_agg {P : Program} {W : World} {b : Nat} {t : TypeId} {v : Value} (hs : isStr (P.underlying t) = true) (h : Value.okWide P W .any b t v) : ∃ cs, v = .agg cs := by
  unfold isStr at hs
  split at hs
  · rename_i fs hu
    unfold Value.okWide at h
    rw [hu] at h
    obtain ⟨cs, rfl, _⟩ := h
    exact ⟨cs, rfl⟩
  · cases hs
theorem one_slice {W : World} {b : Nat} {t e : TypeId} {v : Value} (hu : Try.prog.underlying t = some (.slice e)) (h : Value.okWide Try.prog W .any b t v) : v.cells = #[v] := by
  unfold Value.okWide at h
  rw [hu] at h
  cases v <;> first | rfl | (simp [Cell.okWide, Cell.ok, hu] at h)
theorem leafInt {P : Program} {W : World} {n : Nat} {k : IntKind} {u : Value} (h : LeafU P W n (.int k) u) : ∃ m, u = .int k m ∧ (Lit.int k m).wf = true := by cases n <;> exact h
theorem slc26 : Try.prog.underlying 26 = some (.slice 52) := by kernel_rfl
theorem int3 : Try.prog.underlying 3 = some (.int .i64) := by kernel_rfl
theorem flat25 : Go.Ev.flat Try.prog 5 25 = some [.int .i64, .int .i64, .int .i64, .int .i64, .int .i64, .int .i64, .int .i64, .int .i64, .int .i64, .int .i64, .int .u64, .int .u64, .int .u64, .int .u64, .slc 80] := by kernel_rfl
theorem flat26 : Go.Ev.flat Try.prog 3 26 = some [.slc 52] := by kernel_rfl
theorem flat52 : Go.Ev.flat Try.prog 3 52 = some [.int .i64, .int .i64, .int .i64, .int .i64] := by kernel_rfl
theorem flat80 : Go.Ev.flat Try.prog 3 80 = some [.slc 5] := by kernel_rfl
theorem cells52 : Try.prog.cellsOf 52 = 4 := by kernel_rfl
theorem cells80 : Try.prog.cellsOf 80 = 1 := by kernel_rfl
theorem bytes80 : Try.prog.bytesOf 80 = 24 := by kernel_rfl
theorem bytes5 : Try.prog.bytesOf 5 = 1 := by kernel_rfl

section
variable {W : World} {n : Nat}
theorem rows_act {l : List (List Value)} (h : ∀ r ∈ l, Leafs (LeafU Try.prog W n) [.int .i64, .int .i64, .int .i64, .int .i64] r) : ∃ us : List ActD, l = us.map ActD.cells := by
  induction l with
  | nil => exact ⟨[], rfl⟩
  | cons r l ih =>
    obtain ⟨us, rfl⟩ := ih fun r hr => h r (List.mem_cons_of_mem _ hr)
    obtain ⟨h1, h2⟩ := h r (List.mem_cons_self ..)
    match r, h1 with
    | [a, b, c, d], _ =>
      obtain ⟨n0, rfl, _⟩ := leafInt (h2 0 _ _ rfl rfl)
      obtain ⟨n1, rfl, _⟩ := leafInt (h2 1 _ _ rfl rfl)
      obtain ⟨n2, rfl, _⟩ := leafInt (h2 2 _ _ rfl rfl)
      obtain ⟨n3, rfl, _⟩ := leafInt (h2 3 _ _ rfl rfl)
      exact ⟨⟨n0, n1, n2, n3⟩ :: us, rfl⟩
theorem rows_prg {l : List (List Value)} (h : ∀ r ∈ l, Leafs (LeafU Try.prog W 0) [.slc 5] r) : ∃ us : List PrgD, l = us.map PrgD.cells ∧ ∀ x ∈ us, x.n ≤ 281474976710656 := by
  induction l with
  | nil => exact ⟨[], rfl, fun x hx => by cases hx⟩
  | cons r l ih =>
    obtain ⟨us, rfl, hu⟩ := ih fun r hr => h r (List.mem_cons_of_mem _ hr)
    obtain ⟨h1, h2⟩ := h r (List.mem_cons_self ..)
    match r, h1 with
    | [x0], _ =>
      obtain ⟨a, len, cap, rfl, hw, _⟩ := h2 0 _ _ rfl rfl
      rw [bytes5] at hw
      refine ⟨⟨a, len, cap⟩ :: us, by simp [PrgD.cells], fun x hx => ?_⟩
      rcases List.mem_cons.1 hx with rfl | hx
      · have := reachBytes_lt
        simp only
        omega
      · exact hu x hx
end
theorem same_slc {a : Option Addr} {l c k : Nat} (h : SlF a l c) : Go.Ev.sameV k (.slice a l c) (.slice a l c) = true := by
  rcases h with ⟨rfl, rfl, rfl⟩ | ⟨⟨b, off, rfl⟩, _⟩
  · cases k <;> simp [Go.Ev.sameV]
  · cases k <;> simp [Go.Ev.sameV]
theorem same_int' {n : Nat} {k : IntKind} {m : Int} : Go.Ev.sameV n (.int k m) (.int k m) = true := by cases n <;> simp [Go.Ev.sameV]
theorem sliceable_of {a : Option Addr} {n c : Nat} (h : SlF a n c) : Sliceable a n c := by
  rcases h with ⟨rfl, rfl, rfl⟩ | ⟨_, ⟨rfl, rfl⟩ | ⟨h1, h2⟩⟩
  · exact sliceable_0
  · exact sliceable_0
  · exact sliceable_C h1 h2

theorem same_cfg {c : CfgD} (h : SlF c.pa c.pn c.pc) : Go.Ev.sameV 50 (.agg ⟨c.cells⟩) (.agg ⟨c.cells⟩) = true := by
  show Go.Ev.sameV.go 49 c.cells c.cells = true
  unfold CfgD.cells
  simp only [Go.Ev.sameV.go, same_int', same_slc h, Bool.and_self]
theorem walk {W : World} {us : List Value} {u v0 v2 : Value} {k vi n : Int} (hl : Leafs (LeafU Try.prog W 1) [.int .i64, .int .i64, .int .i64, .int .i64, .int .i64, .int .i64, .int .i64, .int .i64, .int .i64, .int .i64, .int .u64, .int .u64, .int .u64, .int .u64, .slc 80] us) (hv : Go.Ev.VR (renB W.heap.size) (.agg ⟨us⟩) v0)
    (hu : LeafU Try.prog W 1 (.slc 52) u) (hv2 : Go.Ev.VR (renB W.heap.size) u v2) (hk : (Lit.int .i64 k).wf = true) :
    Calls Try.prog 3 #[v0, .int .i64 k, v2, .int .i64 vi, .int .i64 n] W fun e w' => e = .returned (.bool true) ∧ Below W.heap.size W w' := by
  obtain ⟨h1, h2⟩ := hl
  simp only [Lit.wf, Bool.and_eq_true, decide_eq_true_eq] at hk
  match us, h1 with
  | [x0, x1, x2, x3, x4, x5, x6, x7, x8, x9, x10, x11, x12, x13, x14], _ =>
    obtain ⟨m0, rfl, _⟩ := leafInt (h2 0 _ _ rfl rfl)
    obtain ⟨m1, rfl, _⟩ := leafInt (h2 1 _ _ rfl rfl)
    obtain ⟨m2, rfl, _⟩ := leafInt (h2 2 _ _ rfl rfl)
    obtain ⟨m3, rfl, _⟩ := leafInt (h2 3 _ _ rfl rfl)
    obtain ⟨m4, rfl, _⟩ := leafInt (h2 4 _ _ rfl rfl)
    obtain ⟨m5, rfl, _⟩ := leafInt (h2 5 _ _ rfl rfl)
    obtain ⟨m6, rfl, _⟩ := leafInt (h2 6 _ _ rfl rfl)
    obtain ⟨m7, rfl, _⟩ := leafInt (h2 7 _ _ rfl rfl)
    obtain ⟨m8, rfl, _⟩ := leafInt (h2 8 _ _ rfl rfl)
    obtain ⟨m9, rfl, _⟩ := leafInt (h2 9 _ _ rfl rfl)
    obtain ⟨m10, rfl, _⟩ := leafInt (h2 10 _ _ rfl rfl)
    obtain ⟨m11, rfl, _⟩ := leafInt (h2 11 _ _ rfl rfl)
    obtain ⟨m12, rfl, _⟩ := leafInt (h2 12 _ _ rfl rfl)
    obtain ⟨m13, rfl, _⟩ := leafInt (h2 13 _ _ rfl rfl)
    obtain ⟨pa, pn, pc, rfl, pw, psl, ph⟩ := h2 14 _ _ rfl rfl
    obtain ⟨prows, rfl, pra, prr⟩ := ph 3 _ flat80 cells80
    obtain ⟨progs, rfl, psm⟩ := rows_prg prr
    obtain ⟨a, len, cap, rfl, _, asl, ah⟩ := hu
    obtain ⟨arows, rfl, ara, arr⟩ := ah 3 _ flat52 cells52
    obtain ⟨acts, rfl⟩ := rows_act arr
    rw [bytes80] at pw
    simp only [List.length_map] at *
    have hz := reachBytes_lt
    let c : CfgD := ⟨m0, m1, m2, m3, m4, m5, m6, m7, m8, m9, m10, m11, m12, m13, pa, progs.length, pc⟩
    have hp : Progs W.heap.size (heapOf W) c progs := ⟨rfl, pra, by omega, psm⟩
    have hcs : Go.Ev.sameV 50 (.agg ⟨c.cells⟩) (.agg ⟨c.cells⟩) = true := same_cfg psl
    exact Go.Ev.open_calls (E := env) (us := [.agg ⟨c.cells⟩, .int .i64 k, .slice a acts.length cap, .int .i64 vi, .int .i64 n]) (Go.Ev.envOK Try.prog 0 _ mixed) ext_ok (Go.Ev.namesOK names) (fun g hg => absurd hg (Nat.not_lt_zero g)) (.cons hv (.cons (.int _ _) (.cons hv2 (.cons (.int _ _) (.cons (.int _ _) .nil))))) rfl
      (law_ret (c := c) (Nat.le_refl _) hp hk ara (sliceable_of asl) (same_slc asl) hcs)

theorem lifted (os : Os) (started : os.Started) (H : Type) (enc : TypeId × Value → H) :
    ReturnsInHanded {} Try.checked os 3 .any (Rows.fairActsSpec.pre6 enc Try.prog Try.f3 Rows.fairActsRow.domain false) (Rows.fairActsSpec.post enc Try.prog Try.f3 false true false false) := by
  refine returnsInHanded_of_change_sized (C := Try.checked) own started (by kernel_rfl) Try.func3
    (ChangeSpec.witness6 (enc := enc) (C := Try.checked) false ⟨#[], #[.agg #[.int .i64 0, .int .i64 0, .int .i64 0, .int .i64 0, .int .i64 0, .int .i64 0, .int .i64 0, .int .i64 0, .int .i64 0, .int .i64 0, .int .u64 0, .int .u64 0, .int .u64 0, .int .u64 0, .slice none 0 0], .int .i64 0, .slice none 0 0, .int .i64 0, .int .i64 0], []⟩ 8 (by kernel_rfl) (by kernel_rfl) (by kernel_rfl) (by kernel_rfl)) ?_
  intro W base args ds gs before hval0 hW _ hwt _
  have hval : ∀ (j : Nat) t v, Try.f3.params[j]? = some t → args[j]? = some v → Value.okWide Try.prog W .any base t v := hval0
  have hW' := hW
  obtain ⟨p, q, hA0, hV, hpq, hfz, hnd⟩ := hW
  have hA : DataW.TrodAll enc Try.prog W 0 (fun _ => true) true Try.f3.params.toList args.toList ds p := hA0
  have hA2 := hA
  rw [Try.params3] at hA2 hval
  obtain ⟨v0, vs0, d0, ds0, p0, q0, ha0, rfl, rfl, h0, r0⟩ := trodAll_cons hA2
  obtain ⟨v1, vs1, d1, ds1, p1, q1, rfl, rfl, rfl, h1, r1⟩ := trodAll_cons r0
  obtain ⟨v2, vs2, d2, ds2, p2, q2, rfl, rfl, rfl, h2, r2⟩ := trodAll_cons r1
  obtain ⟨v3, vs3, d3, ds3, p3, q3, rfl, rfl, rfl, h3, r3⟩ := trodAll_cons r2
  obtain ⟨v4, vs4, d4, ds4, p4, q4, rfl, rfl, rfl, h4, r4⟩ := trodAll_cons r3
  obtain ⟨rfl, rfl, rfl⟩ := trodAll_nil r4
  obtain rfl : args = #[v0, v1, v2, v3, v4] := by cases args; simp_all
  have hV2 := hV
  obtain ⟨rfl, rfl⟩ := trodVars_none hV2
  obtain ⟨cs, rfl⟩ := one_agg str25 (hval 0 25 v0 rfl rfl)
  obtain ⟨k, rfl, rfl, _, wk⟩ := open_int int3 (hval 1 3 v1 rfl rfl) h1
  have hs2 := one_slice slc26 (hval 2 26 v2 rfl rfl)
  obtain ⟨vi, rfl, rfl, _, _⟩ := open_int int3 (hval 3 3 v3 rfl rfl) h3
  obtain ⟨n, rfl, rfl, _, _⟩ := open_int int3 (hval 4 3 v4 rfl rfl) h4
  have hw0 : Go.Ev.WT Try.prog 25 d0 := Go.Ev.WT.of hwt (j := 0) rfl rfl
  have hw2 : Go.Ev.WT Try.prog 26 d2 := Go.Ev.WT.of hwt (j := 2) rfl rfl
  obtain ⟨us, hl, hvr⟩ := Go.Ev.arg_abs flat25 h0 hw0 1
  obtain ⟨us2, hl2, hvr2⟩ := Go.Ev.arg_abs flat26 h2 hw2 1
  rw [hs2] at hvr2
  match us2, hl2 with
  | [u], hl2 =>
    cases hvr2 with
    | cons hv2 _ =>
      refine (walk (k := k) (vi := vi) (n := n) hl (.agg _ _ hvr) (hl2.2 0 _ _ rfl rfl) hv2 wk).mono fun e W' ⟨he, hg⟩ => ?_
      subst he
      exact ⟨_, rfl, Go.Ev.post_law laidOut hW' hA hV hpq (by kernel_rfl) (by kernel_rfl) (fun _ _ _ => trodAll_cons_mk (shut_bool Try.underlying4 _) trodAll_mk0) rfl rfl hg⟩

theorem over : Rows.fairActsRow.holds Try.pinned (OpenSpec.ofChange Rows.fairActsSpec) :=
  OpenClaim.holds_of_wide 3 Try.f3 rfl rfl rfl rfl rfl rfl rfl ⟨rfl, rfl, rfl, rfl, rfl⟩ rfl rfl rfl rfl rfl (by kernel_rfl) Try.func3 (by kernel_rfl)
    (of_decide_eq_true (by kernel_rfl)) (by unfold Func.isWrapper; first | (rw [if_pos (by decide +kernel)]; kernel_rfl) | (rw [if_neg (by decide +kernel)]; exact ⟨rfl, rfl⟩))
    (fun os started H enc _ => lifted os started H enc)

/-- ████ THE STATEMENT ████ -/
theorem fairActs_holds : Rows.FairActsSaid := over
#print axioms fairActs_holds
end Go.Proofs.Ytdjnedamphifcaa

