/- ScriptCopies: whatever the two scripts are, the law answers true, and what came in reads as it did. Conditions: the row's own (library tables laid, as the card ties them). -/
import Derived.Test.YtohjaacnlmkhbaaGreatDoorWL
import Derived.Test.YtohjaacnlmkhbaaGreatDoorKA
import Derived.Test.YtohjaacnlmkhbaaGreatDoorZRow
import Derived.Test.YtohjaacnlmkhbaaGreatDoorRows
import Derived.Test.YtohjaacnlmkhbaaGreatDoorCards
import Derived.Test.YtohjaacnlmkhbaaGreatDoorTie
import Derived.LaidMore
import Derived.Lay
import Derived.SevenTiedAt
import Derived.Stop.Joined
import Derived.WalkKit
import Derived.ProofKit
import Derived.OpenShut
import Derived.SizedLaws
set_option linter.unusedSimpArgs false
set_option linter.unusedVariables false
set_option linter.unusedSimpArgs false
set_option linter.unusedVariables false
namespace Go.Proofs.YtohjaacnlmkhbaaGreatDoor
open Go.ChangeShapes Go.WideShapes Go.ChangeAt Go.RowKit
open Go.Ev (Leaf Leafs LeafU heapOf renB SlF RowAt)
set_option maxRecDepth 100000
theorem own : ownKnob Tryz.prog.godebug = none := by kernel_rfl
theorem laidOut : laidOutB Tryz.prog = true := by kernel_rfl
theorem gAsc : Tryz.prog.globalNamed "strings.asciiSpace" = some 0 := by kernel_rfl
theorem tAsc : (Tryz.prog.globals[0]?).map (·.type) = some 138 := by kernel_rfl
theorem arr138 : Tryz.prog.underlying 138 = some (.array 256 5) := by kernel_rfl
theorem int5 : Tryz.prog.underlying 5 = some (.int .u8) := by kernel_rfl
theorem int22 : Tryz.prog.underlying 22 = some (.int .u64) := by kernel_rfl
theorem cells5 : Tryz.prog.cellsOf 5 = 1 := by kernel_rfl
theorem cells22 : Tryz.prog.cellsOf 22 = 1 := by kernel_rfl
theorem gP10 : Tryz.prog.globalNamed "internal/strconv.uint64pow10" = some 2 := by kernel_rfl
theorem tP10 : (Tryz.prog.globals[2]?).map (·.type) = some 207 := by kernel_rfl
theorem arr207 : Tryz.prog.underlying 207 = some (.array 20 22) := by kernel_rfl
/-! ### what is laid -/
abbrev laid7 : List (String × DataW Unit) := Rows.scriptCopiesRow.laid
theorem met7 (os : Os) (args : Array Value) : laidMetH Tryz.prog laid7 ((World.laidAll Tryz.prog os laid7).forCall (fun _ _ => 0) ⟨#[], args, []⟩).memory := by
  rw [MakeChecks.laidMetH_plain _ _ _ (by kernel_rfl)]; exact laidMet_laidAll _ (by kernel_rfl) (by kernel_rfl)
def ascn : List Int := asc.map fun v => match v with | .int _ n => n | _ => 0
def p10n : List Int := p10.map fun v => match v with | .int _ n => n | _ => 0
theorem asc_n : asc = ascn.map fun n => .int .u8 n := by kernel_rfl
theorem laid_a : (Rows.laid_strings_asciiSpace : DataW Unit) = .agg (ascn.map fun n => .lit (.int .u8 n)) := by kernel_rfl
theorem p10_n : p10 = p10n.map fun n => .int .u64 n := by kernel_rfl
theorem laid_p : (Rows.laid_internal_strconv_uint64pow10 : DataW Unit) = .agg (p10n.map fun n => .lit (.int .u64 n)) := by kernel_rfl
theorem ascn_len : ascn.length = 256 := by kernel_rfl
theorem p10n_len : p10n.length = 20 := by kernel_rfl
/-- a table of numbers, read -/
theorem tab_cells {W : World} {n : Nat} {t e : TypeId} {k : IntKind} {l : List Int} {x : DataW Unit} {cs : Array Value} {fuel : Nat} {hh : Bool} {p : List MemPlace} (ha : Tryz.prog.underlying t = some (.array n e)) (he : Tryz.prog.underlying e = some (.int k)) (hc : Tryz.prog.cellsOf e = 1) (hx : x = .agg (l.map fun m => .lit (.int k m))) (hl : l.length = n)
    (hd : DataW.trod (fun _ => ()) Tryz.prog W 0 (fun _ => true) hh fuel t cs.toList = some (x, p)) : ∀ (i : Nat) (v : Value), (l.map fun m => Value.int k m)[i]? = some v → cs.toList[i]? = some v := by
  subst hx
  obtain ⟨xs, m1, _, hx1, hlen, hn, hel⟩ := DataW.trod_array ha hd
  rw [hc] at hel
  have hx2 : l.map (fun b => DataW.lit (.int k b)) = xs.map (·.1) := DataW.agg.inj (Prod.mk.inj hx1).1
  intro i v hv
  rw [List.getElem?_map] at hv
  obtain ⟨b, hb, rfl⟩ := Option.map_eq_some_iff.1 hv
  have hi : i < n := by have := (List.getElem?_eq_some_iff.1 hb).1; omega
  have h1 := hel i hi
  rw [Nat.mul_one, List.getElem?_eq_getElem (by omega)] at h1
  obtain ⟨s, e1, e2, _⟩ := DataW.trod_int he h1
  have h2 := congrArg (·[i]?) hx2
  simp only [List.getElem?_map, hb, Option.map_some, List.getElem?_eq_getElem (show i < xs.length by omega)] at h2
  rw [e2] at h2
  have h3 : b = s := by simpa using h2
  have := congrArg (·[0]?) e1
  simp only [List.getElem?_take_of_lt (show 0 < 1 by omega), List.getElem?_drop, Nat.add_zero] at this
  rw [this, h3]
  rfl
theorem cell_tab1 {W : World} {b : Nat} {l : List Value} (h0 : ∃ v, l[0]? = some v) (hc : l.all Go.Ev.constOk0 = true) (h : ∀ (i : Nat) (v : Value), l[i]? = some v → W.cell? ⟨b, i, none⟩ = some v) : Go.Ev.tabsOk [(b, l)] (heapOf W) = true := by
  simp only [Go.Ev.tabsOk, List.all_cons, List.all_nil, Bool.and_true]
  obtain ⟨v0, h0⟩ := h0
  have c0 := h 0 _ h0
  unfold World.cell? at c0
  simp only at c0
  rw [Go.Ev.heapOf_get]
  split at c0
  · rename_i c el f hb
    simp only [hb, Option.map_some, Go.Ev.roOf]
    refine Go.Ev.rowOk_of (i := 0) (fun v hv => ?_) (fun j v e => ?_) ?_
    · unfold Go.Ev.constOk0 at hv
      split at hv <;> first | (cases hv; done) | (simp [Go.Ev.sameV, Go.Ev.eqStr])
    · have := h j v e
      rw [show j = 0 + j by omega, Go.Ev.cell_of hb] at this
      rw [this, Option.bind_some]
      have hv : Go.Ev.constOk0 v = true := List.all_eq_true.1 hc v (List.mem_of_getElem? e)
      unfold Go.Ev.constOk0 at hv
      split at hv <;> first | (cases hv; done) | (simp [Go.Ev.absV, Go.Ev.okV0]; done) | (simp [Go.Ev.absV, Go.Ev.okV0, Go.Ev.blt_eq, Go.Ev.UNK])
    · exact hc
  · cases c0
/-- WHAT THE CONDITION GIVES -/
theorem of_laid {W : World} (h : laidMetH Tryz.prog laid7 W) : 2 < W.heap.size ∧ Go.Ev.tabsOk tabs (heapOf W) = true := by
  rw [MakeChecks.laidMetH_plain _ _ _ (by kernel_rfl)] at h
  obtain ⟨ps, ⟨_, _, _, _, _, _, _, _, _, _, ⟨_, _, _, _, _, _, _, _, _, _, ⟨g1, t1, cs1, f1, p1, q1, hg1, ht1, hv1, hd1, ⟨_, _, _, _, _, _, _, _, _, _, ⟨_, _, _, _, _, _, _, _, _, _, ⟨g0, t0, cs0, f0, p0, q0, hg0, ht0, hv0, hd0, _, _⟩, _⟩, _⟩, _⟩, _⟩, _⟩, _, _⟩ := h
  obtain rfl := Option.some.inj (gAsc.symm.trans hg0)
  obtain rfl := Option.some.inj (tAsc.symm.trans ht0)
  obtain rfl := Option.some.inj (gP10.symm.trans hg1)
  obtain rfl := Option.some.inj (tP10.symm.trans ht1)
  have key := tab_cells arr138 int5 cells5 laid_a ascn_len hd0
  have key2 := tab_cells arr207 int22 cells22 laid_p p10n_len hd1
  rw [← asc_n] at key
  rw [← p10_n] at key2
  have cell : ∀ (i : Nat) (v : Value), asc[i]? = some v → W.cell? ⟨0, i, none⟩ = some v := by
    intro i v hv
    rw [World.var?_cell hg0 hv0 i, ← Array.getElem?_toList]
    exact key i v hv
  have cell2 : ∀ (i : Nat) (v : Value), p10[i]? = some v → W.cell? ⟨2, i, none⟩ = some v := by
    intro i v hv
    rw [World.var?_cell hg1 hv1 i, ← Array.getElem?_toList]
    exact key2 i v hv
  refine ⟨(Go.Ev.cell_lt (cell2 0 _ rfl)).1, ?_⟩
  have a := cell_tab1 (b := 0) (l := asc) ⟨_, rfl⟩ (tab_const (0, asc) (by simp [tabs])) cell
  have b := cell_tab1 (b := 2) (l := p10) ⟨_, rfl⟩ (tab_const (2, p10) (by simp [tabs])) cell2
  simp only [Go.Ev.tabsOk, tabs, List.all_cons, List.all_nil, Bool.and_true, Bool.and_eq_true] at a b ⊢
  exact ⟨a, b⟩
end Go.Proofs.YtohjaacnlmkhbaaGreatDoor

set_option linter.unusedSimpArgs false
set_option linter.unusedVariables false
namespace Go.Proofs.YtohjaacnlmkhbaaGreatDoor
open Go.ChangeShapes Go.WideShapes Go.ChangeAt Go.RowKit
open Go.Ev (Leaf Leafs LeafU heapOf renB SlF RowAt)
set_option maxRecDepth 100000
theorem flat28 : Go.Ev.flat Tryz.prog 5 28 = some [.int .i64, .int .i64, .int .i64, .int .i64, .int .i64, .int .i64, .int .i64, .int .i64, .int .i64, .int .i64, .int .u64, .int .u64, .int .u64, .int .u64, .slc 36, .slc 35] := by kernel_rfl
theorem flat36 : Go.Ev.flat Tryz.prog 3 36 = some [.slc 5] := by kernel_rfl
theorem flat35 : Go.Ev.flat Tryz.prog 3 35 = some [.int .i64, .int .i64, .int .i64, .int .i64] := by kernel_rfl
theorem flat5 : Go.Ev.flat Tryz.prog 3 5 = some [.int .u8] := by kernel_rfl
theorem cells36 : Tryz.prog.cellsOf 36 = 1 := by kernel_rfl
theorem cells35 : Tryz.prog.cellsOf 35 = 4 := by kernel_rfl
theorem bytes36 : Tryz.prog.bytesOf 36 = 24 := by kernel_rfl
theorem bytes35 : Tryz.prog.bytesOf 35 = 32 := by kernel_rfl
theorem bytes5 : Tryz.prog.bytesOf 5 = 1 := by kernel_rfl
theorem leafInt {P : Program} {W : World} {n : Nat} {k : IntKind} {u : Value} (h : LeafU P W n (.int k) u) : ∃ m, u = .int k m ∧ (Lit.int k m).wf = true := by cases n <;> exact h
theorem same_slc {a : Option Addr} {l c k : Nat} (h : SlF a l c) : Go.Ev.sameV k (.slice a l c) (.slice a l c) = true := by
  rcases h with ⟨rfl, rfl, rfl⟩ | ⟨⟨b, off, rfl⟩, _⟩
  · cases k <;> simp [Go.Ev.sameV]
  · cases k <;> simp [Go.Ev.sameV]
theorem rows_byte {l : List (List Value)} {W : World} {n : Nat} (h : ∀ r ∈ l, Leafs (LeafU Tryz.prog W n) [.int .u8] r) : ∃ us : List UInt8, l = us.map fun b => [Go.Ev.byteV b] := by
  induction l with
  | nil => exact ⟨[], rfl⟩
  | cons r l ih =>
    obtain ⟨us, rfl⟩ := ih fun r hr => h r (List.mem_cons_of_mem _ hr)
    obtain ⟨h1, h2⟩ := h r (List.mem_cons_self ..)
    match r, h1 with
    | [a], _ =>
      obtain ⟨n0, rfl, w⟩ := leafInt (h2 0 _ _ rfl rfl)
      simp only [Lit.wf, Bool.and_eq_true, decide_eq_true_eq] at w
      have e1 : IntKind.u8.max = 255 := rfl
      have e2 : IntKind.u8.min = 0 := rfl
      have w2 : n0 < 256 := by omega
      have w1 : 0 ≤ n0 := by omega
      refine ⟨UInt8.ofNat n0.toNat :: us, ?_⟩
      have : ((UInt8.ofNat n0.toNat).toNat : Int) = n0 := by simp only [UInt8.toNat_ofNat']; omega
      simp only [List.map_cons, Go.Ev.byteV, this]
theorem flat_bytes (us : List UInt8) : (us.map fun b => [Go.Ev.byteV b]).flatten = us.map Go.Ev.byteV := by
  induction us with
  | nil => rfl
  | cons b us ih => simp [ih]
theorem rdB_of {W : World} {n : Nat} {u : Value} (h : LeafU Tryz.prog W (n + 1) (.slc 5) u) : ∃ l : List UInt8, RdB W.heap.size (heapOf W) u l ∧ l.length ≤ 281474976710656 := by
  obtain ⟨a, len, cap, rfl, hw, hs, hr⟩ := h
  obtain ⟨rows, h1, h2, h3⟩ := hr 3 _ flat5 cells5
  obtain ⟨us, rfl⟩ := rows_byte h3
  rw [bytes5] at hw
  rw [List.length_map] at h1
  subst h1
  refine ⟨us, ⟨a, cap, rfl, fun hne => ?_⟩, by have := reachBytes_lt; omega⟩
  obtain ⟨b, off, rfl, hb, e⟩ := Go.Ev.RowAt.cells h2 (by simp) (by decide) (by simpa using hne)
  rw [flat_bytes] at e
  refine ⟨b, off, rfl, hb, ?_⟩
  simpa using e
theorem rdP_of {W : World} {u : Value} (h : LeafU Tryz.prog W 2 (.slc 36) u) : ∃ P : List (List UInt8), RdP W.heap.size (heapOf W) u P ∧ (P.length ≤ 281474976710656 ∧ ∀ l ∈ P, l.length ≤ 281474976710656) ∧ ∀ n, Go.Ev.sameV n u u = true := by
  obtain ⟨a, len, cap, rfl, hw, hs, hr⟩ := h
  obtain ⟨rows, h1, h2, h3⟩ := hr 3 _ flat36 cells36
  rw [bytes36] at hw
  have each : ∀ i, i < rows.length → ∃ l : List UInt8, ∃ u, rows[i]? = some [u] ∧ RdB W.heap.size (heapOf W) u l ∧ l.length ≤ 281474976710656 := by
    intro i hi
    obtain ⟨g1, g2⟩ := h3 _ (List.getElem_mem hi)
    generalize hrow : rows[i] = row at g1 g2
    match row, g1 with
    | [u], _ =>
      obtain ⟨l, r1, r2⟩ := rdB_of (g2 0 _ _ rfl rfl)
      exact ⟨l, u, by rw [List.getElem?_eq_getElem hi, hrow], r1, r2⟩
  obtain ⟨P, p1, p2⟩ := Go.Ev.exists_rows rows.length each
  refine ⟨P, ⟨a, cap, by rw [p1, h1], fun k l hl => ?_⟩, ⟨by rw [p1, h1]; have := reachBytes_lt; omega, fun l hl => ?_⟩, fun n => same_slc hs⟩
  · have hk := (List.getElem?_eq_some_iff.1 hl).1
    obtain ⟨u, e1, e2, _⟩ := p2 k hk
    rw [(List.getElem?_eq_some_iff.1 hl).2] at e2
    obtain ⟨b, off, rfl, hb, e⟩ := h2 k (by omega)
    have e1' := (List.getElem?_eq_some_iff.1 e1).2
    rw [e1'] at e
    refine ⟨b, off, u, rfl, hb, ?_, e2⟩
    have := Go.Ev.cellAt_of e (j := 0) rfl
    simpa using this
  · obtain ⟨k, hk, rfl⟩ := List.getElem_of_mem hl
    obtain ⟨u, _, _, e3⟩ := p2 k hk
    exact e3
theorem rows_act {l : List (List Value)} {W : World} {n : Nat} (h : ∀ r ∈ l, Leafs (LeafU Tryz.prog W n) [.int .i64, .int .i64, .int .i64, .int .i64] r) : ∃ us : List ActD, l = us.map ActD.cells := by
  induction l with
  | nil => exact ⟨[], rfl⟩
  | cons r l ih =>
    obtain ⟨us, rfl⟩ := ih fun r hr => h r (List.mem_cons_of_mem _ hr)
    obtain ⟨h1, h2⟩ := h r (List.mem_cons_self ..)
    match r, h1 with
    | [a, b, c, d], _ =>
      obtain ⟨n0, rfl, _⟩ := leafInt (h2 0 _ _ rfl rfl)
      obtain ⟨n1, rfl, _⟩ := leafInt (h2 1 _ _ rfl rfl)
      obtain ⟨n2, rfl, _⟩ := leafInt (h2 2 _ _ rfl rfl)
      obtain ⟨n3, rfl, _⟩ := leafInt (h2 3 _ _ rfl rfl)
      exact ⟨⟨n0, n1, n2, n3⟩ :: us, rfl⟩
theorem rdA_of {W : World} {u : Value} (h : LeafU Tryz.prog W 2 (.slc 35) u) : ∃ A : List ActD, RdA W.heap.size (heapOf W) u A ∧ A.length ≤ 281474976710656 ∧ ∀ n, Go.Ev.sameV n u u = true := by
  obtain ⟨a, len, cap, rfl, hw, hs, hr⟩ := h
  obtain ⟨rows, h1, h2, h3⟩ := hr 3 _ flat35 cells35
  rw [bytes35] at hw
  obtain ⟨A, rfl⟩ := rows_act h3
  rw [List.length_map] at h1
  subst h1
  exact ⟨A, ⟨a, cap, rfl, h2⟩, by have := reachBytes_lt; omega, fun n => same_slc hs⟩
/-- a script that came in -/
theorem scr_of {W : World} {us : List Value} (hl : Leafs (LeafU Tryz.prog W 2) [.int .i64, .int .i64, .int .i64, .int .i64, .int .i64, .int .i64, .int .i64, .int .i64, .int .i64, .int .i64, .int .u64, .int .u64, .int .u64, .int .u64, .slc 36, .slc 35] us) :
    ∃ (c : Nat → Int) (pv av : Value) (P : List (List UInt8)) (A : List ActD), us = scrL c pv av ∧ RdP W.heap.size (heapOf W) pv P ∧ RdA W.heap.size (heapOf W) av A ∧ (P.length ≤ 281474976710656 ∧ ∀ l ∈ P, l.length ≤ 281474976710656) ∧ A.length ≤ 281474976710656 ∧ (∀ n, Go.Ev.sameV n pv pv = true) ∧ ∀ n, Go.Ev.sameV n av av = true := by
  obtain ⟨h1, h2⟩ := hl
  match us, h1 with
  | [x0, x1, x2, x3, x4, x5, x6, x7, x8, x9, x10, x11, x12, x13, x14, x15], _ =>
    obtain ⟨m0, rfl, _⟩ := leafInt (h2 0 _ _ rfl rfl)
    obtain ⟨m1, rfl, _⟩ := leafInt (h2 1 _ _ rfl rfl)
    obtain ⟨m2, rfl, _⟩ := leafInt (h2 2 _ _ rfl rfl)
    obtain ⟨m3, rfl, _⟩ := leafInt (h2 3 _ _ rfl rfl)
    obtain ⟨m4, rfl, _⟩ := leafInt (h2 4 _ _ rfl rfl)
    obtain ⟨m5, rfl, _⟩ := leafInt (h2 5 _ _ rfl rfl)
    obtain ⟨m6, rfl, _⟩ := leafInt (h2 6 _ _ rfl rfl)
    obtain ⟨m7, rfl, _⟩ := leafInt (h2 7 _ _ rfl rfl)
    obtain ⟨m8, rfl, _⟩ := leafInt (h2 8 _ _ rfl rfl)
    obtain ⟨m9, rfl, _⟩ := leafInt (h2 9 _ _ rfl rfl)
    obtain ⟨m10, rfl, _⟩ := leafInt (h2 10 _ _ rfl rfl)
    obtain ⟨m11, rfl, _⟩ := leafInt (h2 11 _ _ rfl rfl)
    obtain ⟨m12, rfl, _⟩ := leafInt (h2 12 _ _ rfl rfl)
    obtain ⟨m13, rfl, _⟩ := leafInt (h2 13 _ _ rfl rfl)
    obtain ⟨P, r1, r2, r3⟩ := rdP_of (h2 14 _ _ rfl rfl)
    obtain ⟨A, a1, a2, a3⟩ := rdA_of (h2 15 _ _ rfl rfl)
    exact ⟨fun i => [m0, m1, m2, m3, m4, m5, m6, m7, m8, m9, m10, m11, m12, m13].getD i 0, x14, x15, P, A, rfl, r1, a1, r2, a2, r3, a3⟩
theorem body7 : Tryz.f7.body.isSome = true := by kernel_rfl
theorem ext_ok : Go.Ev.ExtOK Tryz.prog env := by
  obtain ⟨c, hc⟩ := Option.isSome_iff_exists.1 body7
  exact Go.Ev.extTab_ok ok5 rfl tab_const Tryz.func7 hc (Go.Ev.namesOK names_ok) known_calls
theorem walk {W : World} (hL : laidMetH Tryz.prog laid7 W) {v0 v1 : Value} {us us' : List Value}
    (hu : Leafs (LeafU Tryz.prog W 2) [.int .i64, .int .i64, .int .i64, .int .i64, .int .i64, .int .i64, .int .i64, .int .i64, .int .i64, .int .i64, .int .u64, .int .u64, .int .u64, .int .u64, .slc 36, .slc 35] us) (hv : Go.Ev.VR (renB W.heap.size) (.agg ⟨us⟩) v0)
    (hu' : Leafs (LeafU Tryz.prog W 2) [.int .i64, .int .i64, .int .i64, .int .i64, .int .i64, .int .i64, .int .i64, .int .i64, .int .i64, .int .i64, .int .u64, .int .u64, .int .u64, .int .u64, .slc 36, .slc 35] us') (hv' : Go.Ev.VR (renB W.heap.size) (.agg ⟨us'⟩) v1) :
    Calls Tryz.prog 3 #[v0, v1] W fun e w' => e = .returned (.bool true) ∧ Below W.heap.size W w' := by
  obtain ⟨h1, ht⟩ := of_laid hL
  obtain ⟨c, pv, av, P, A, rfl, r1, a1, r2, a2, r3, a3⟩ := scr_of hu
  obtain ⟨d, qv, dv, Q, D, rfl, s1, b1, s2, b2, s3, b3⟩ := scr_of hu'
  refine Go.Ev.open_calls (E := env) (us := [.agg ⟨scrL c pv av⟩, .agg ⟨scrL d qv dv⟩]) (Go.Ev.envOK Tryz.prog 3 _ mixed) ext_ok (Go.Ev.namesOK names_ok) (fun g hg => ⟨0, by
    have : g < 3 := hg
    simp only [renB]; rw [if_pos (by omega)]⟩) (.cons hv (.cons hv' .nil)) rfl ?_
  exact law_ret (B := W.heap.size) r1 s1 a1 b1 (Nat.le_refl _) h1 ht r3 s3 a3 b3 r2 s2 a2 b2
end Go.Proofs.YtohjaacnlmkhbaaGreatDoor

set_option linter.unusedSimpArgs false
set_option linter.unusedVariables false
namespace Go.Proofs.YtohjaacnlmkhbaaGreatDoor
open Go.ChangeShapes Go.WideShapes Go.ChangeAt Go.RowKit
open Go.Ev (Leaf Leafs LeafU heapOf renB)
set_option maxRecDepth 100000
def isStr : Option TypeDesc → Bool
  | some (.struct _) => true
  | _ => false
theorem str28 : isStr (Tryz.prog.underlying 28) = true := by kernel_rfl
theorem one_agg {P : Program} {W : World} {b : Nat} {t : TypeId} {v : Value} (hs : isStr (P.underlying t) = true) (h : Value.okWide P W .any b t v) : ∃ cs, v = .agg cs := by
  unfold isStr at hs
  split at hs
  · rename_i fs hu
    unfold Value.okWide at h
    rw [hu] at h
    obtain ⟨cs, rfl, _⟩ := h
    exact ⟨cs, rfl⟩
  · cases hs
def zeroS : Value := .agg ⟨scrL zc (.slice none 0 0) (.slice none 0 0)⟩
theorem lifted (os : Os) (started : os.Started) (H : Type) (enc : TypeId × Value → H) :
    ReturnsInHanded {} Tryz.checked os 3 .any (fun w args => (Rows.scriptCopiesSpec.pre enc Tryz.prog Tryz.f3 [] false w args ∧ laidMetH Tryz.prog laid7 w) ∧ sizedMet enc Tryz.prog Tryz.f3 (OpenSpec.ofChange Rows.scriptCopiesSpec) false w args)
      (Rows.scriptCopiesSpec.post enc Tryz.prog Tryz.f3 false true false false) := by
  refine returnsInHanded_of_change_and (C := Tryz.checked) (X := fun w _ => laidMetH Tryz.prog laid7 w) (fun _ _ _ hh h => h.of_heap hh) own started (by kernel_rfl) Tryz.func3
    (ChangeSpec.witness_shaped (enc := enc) (C := Tryz.checked) (os := os) (X := fun w _ => laidMetH Tryz.prog laid7 w) false (World.laidAll Tryz.prog os laid7) #[zeroS, zeroS] 8 (World.laidAll_os _ _ _)
      (World.shaped_of_ZipB (by kernel_rfl) (by kernel_rfl)) (by kernel_rfl) (by kernel_rfl) (by kernel_rfl) (met7 os _)) ?_
  intro W base args ds gs before hval0 hW _ hwt hL _
  have hval : ∀ (j : Nat) t v, Tryz.f3.params[j]? = some t → args[j]? = some v → Value.okWide Tryz.prog W .any base t v := hval0
  have hW' := hW
  obtain ⟨p, q, hA0, hV, hpq, hfz, hnd⟩ := hW
  have hA : DataW.TrodAll enc Tryz.prog W 0 (fun _ => true) true Tryz.f3.params.toList args.toList ds p := hA0
  have hA2 := hA
  rw [Tryz.params3] at hA2 hval
  obtain ⟨v0, vs0, d0, ds0, p0, q0, ha0, rfl, rfl, h0, r0⟩ := trodAll_cons hA2
  obtain ⟨v1, vs1, d1, ds1, p1, q1, rfl, rfl, rfl, h1, r1⟩ := trodAll_cons r0
  obtain ⟨rfl, rfl, rfl⟩ := trodAll_nil r1
  obtain rfl : args = #[v0, v1] := by cases args; simp_all
  have hV2 := hV
  obtain ⟨rfl, rfl⟩ := trodVars_none hV2
  obtain ⟨cs0, rfl⟩ := one_agg str28 (hval 0 28 v0 rfl rfl)
  obtain ⟨cs1, rfl⟩ := one_agg str28 (hval 1 28 v1 rfl rfl)
  have hw0 : Go.Ev.WT Tryz.prog 28 d0 := Go.Ev.WT.of hwt (j := 0) rfl rfl
  have hw1 : Go.Ev.WT Tryz.prog 28 d1 := Go.Ev.WT.of hwt (j := 1) rfl rfl
  obtain ⟨us, hl, hvr⟩ := Go.Ev.arg_abs flat28 h0 hw0 2
  obtain ⟨us1, hl1, hvr1⟩ := Go.Ev.arg_abs flat28 h1 hw1 2
  refine (walk hL hl (.agg _ _ hvr) hl1 (.agg _ _ hvr1)).mono fun e W' ⟨he, hg⟩ => ?_
  subst he
  exact ⟨_, rfl, Go.Ev.post_law laidOut hW' hA hV hpq (by kernel_rfl) (by kernel_rfl) (fun _ _ _ => trodAll_cons_mk (shut_bool Tryz.underlying4 _) trodAll_mk0) rfl rfl hg⟩
theorem over : Rows.ScriptCopiesSaid :=
  OpenClaim.holds_of_wide 3 Tryz.f3 rfl rfl rfl rfl rfl rfl rfl ⟨rfl, rfl, rfl, rfl, rfl⟩ rfl rfl rfl rfl rfl (by kernel_rfl) Tryz.func3 (by kernel_rfl)
    (of_decide_eq_true (by kernel_rfl)) (by unfold Func.isWrapper; first | (rw [if_pos (by decide +kernel)]; kernel_rfl) | (rw [if_neg (by decide +kernel)]; exact ⟨rfl, rfl⟩))
    (fun os started H enc _ => lifted os started H enc)

/-- ████ THE CARD ████ -/
theorem scriptCopies_card : Rows.ScriptCopiesCardSaid :=
  Claim7.holds_tied_plain_at .later [] [.data, .data, .data, .data, .listed, .data, .pinned] true (true, "ed36c2c767f9272bd5d0bd004cfb46a2a9332e2f3755c709d48757040e08c744") true
    over (fun _ h => by cases h) (by kernel_rfl) (fun _ h => by cases h) scriptCopies_row_tie rfl ⟨rfl, rfl⟩ (by kernel_rfl) rfl
    (fun f fn hf hfn => by
      obtain rfl : f = 3 := Option.some.inj ((show Tryz.prog.funcNamed "helmsman/helmsmanlaw26.ScriptCopies" = some 3 by kernel_rfl).symm.trans hf) |>.symm
      obtain rfl : fn = Tryz.f3 := (Option.some.inj (Tryz.func3.symm.trans hfn)).symm
      exact ⟨by kernel_rfl, fun j t ht => by
        rw [Tryz.params3] at ht
        have hm : t ∈ [28, 28] := by simpa using Array.mem_of_getElem? ht
        have hall : ([28, 28].all fun u => !Tryz.prog.wantsStandIn u) = true := by kernel_rfl
        exact (show Tryz.prog.wantsStandIn t = false by simpa using List.all_eq_true.1 hall t (by simpa using hm))⟩)
    (by kernel_rfl)
end Go.Proofs.YtohjaacnlmkhbaaGreatDoor
namespace Go.Proofs.YtohjaacnlmkhbaaGreatDoor.scriptCopies
theorem proved : Rows.ScriptCopiesCardSaid := Go.Proofs.YtohjaacnlmkhbaaGreatDoor.scriptCopies_card
#print axioms proved
end Go.Proofs.YtohjaacnlmkhbaaGreatDoor.scriptCopies

