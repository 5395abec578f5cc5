/- What a view handed in looks like, and that the call returns true in the model. Conditions: each theorem's own. -/
import Derived.Test.YtdjnedamphifcaaWO
import Derived.Test.YtdjnedamphifcaaWQ
import Derived.Test.YtdjnedamphifcaaZRow
import Derived.Test.YtdjnedamphifcaaRows
import Derived.WalkKit
import Derived.ProofKit
import Derived.OpenShut
import Derived.SizedLaws
set_option linter.unusedSimpArgs false
set_option linter.unusedVariables false
namespace Go.Proofs.Ytdjnedamphifcaa
open Go.ChangeShapes Go.WideShapes Go.ChangeAt Go.RowKit
open Go.Ev (Leaf Leafs LeafU heapOf renB SlF RowAt)
set_option maxRecDepth 100000

theorem own : ownKnob Try.prog.godebug = none := by kernel_rfl
theorem laidOut : laidOutB Try.prog = true := by kernel_rfl
def isStr : Option TypeDesc → Bool
  | some (.struct _) => true
  | _ => false
theorem str45 : isStr (Try.prog.underlying 45) = true := by kernel_rfl
theorem one_agg {P : Program} {W : World} {b : Nat} {t : TypeId} {v : Value} (hs : isStr (P.underlying t) = true) (h : Value.okWide P W .any b t v) : ∃ cs, v = .agg cs := by
  unfold isStr at hs
  split at hs
  · rename_i fs hu
    unfold Value.okWide at h
    rw [hu] at h
    obtain ⟨cs, rfl, _⟩ := h
    exact ⟨cs, rfl⟩
  · cases hs
theorem leafInt {P : Program} {W : World} {n : Nat} {k : IntKind} {u : Value} (h : LeafU P W n (.int k) u) : ∃ m, u = .int k m ∧ (Lit.int k m).wf = true := by cases n <;> exact h
theorem leafBool {P : Program} {W : World} {n : Nat} {u : Value} (h : LeafU P W n .bool u) : ∃ b, u = .bool b := by cases n <;> exact h
theorem flat45 : Go.Ev.flat Try.prog 5 45 = some [.int .u64, .slc 66, .slc 204, .slc 206, .slc 207, .slc 3, .slc 3, .slc 38, .slc 3, .slc 22, .slc 3, .slc 78] := by kernel_rfl
def leaf66 : List Leaf := [.int .i64, .int .u64, .int .i64, .bool, .int .i64, .int .u64, .int .i64, .int .u64, .int .u8, .int .i64, .int .i64, .int .u64, .int .u64, .int .u64, .int .u64, .int .u64, .int .u64, .int .u64, .int .u64, .int .i64, .int .u64]
theorem flat66 : Go.Ev.flat Try.prog 5 66 = some leaf66 := by kernel_rfl
theorem flat78 : Go.Ev.flat Try.prog 3 78 = some [.int .u64, .int .i64] := by kernel_rfl
theorem flat38 : Go.Ev.flat Try.prog 3 38 = some [.slc 3] := by kernel_rfl
theorem flat3 : Go.Ev.flat Try.prog 3 3 = some [.int .i64] := by kernel_rfl
theorem cells66 : Try.prog.cellsOf 66 = 21 := by kernel_rfl
theorem cells78 : Try.prog.cellsOf 78 = 2 := by kernel_rfl
theorem cells38 : Try.prog.cellsOf 38 = 1 := by kernel_rfl
theorem cells3 : Try.prog.cellsOf 3 = 1 := by kernel_rfl
theorem bytes66 : Try.prog.bytesOf 66 = 168 := by kernel_rfl
theorem bytes78 : Try.prog.bytesOf 78 = 16 := by kernel_rfl
theorem bytes38 : Try.prog.bytesOf 38 = 24 := by kernel_rfl
theorem bytes3 : Try.prog.bytesOf 3 = 8 := by kernel_rfl

section
variable {W : World} {n : Nat}
theorem rows_int {l : List (List Value)} (h : ∀ r ∈ l, Leafs (LeafU Try.prog W n) [.int .i64] r) : ∃ us : List Int, l = us.map intCells := by
  induction l with
  | nil => exact ⟨[], rfl⟩
  | cons r l ih =>
    obtain ⟨us, rfl⟩ := ih fun r hr => h r (List.mem_cons_of_mem _ hr)
    obtain ⟨h1, h2⟩ := h r (List.mem_cons_self ..)
    match r, h1 with
    | [a], _ =>
      obtain ⟨n0, rfl, _⟩ := leafInt (h2 0 _ _ rfl rfl)
      exact ⟨n0 :: us, rfl⟩
theorem rows_timer {l : List (List Value)} (h : ∀ r ∈ l, Leafs (LeafU Try.prog W n) [.int .u64, .int .i64] r) : ∃ us : List TimerD, l = us.map TimerD.cells := by
  induction l with
  | nil => exact ⟨[], rfl⟩
  | cons r l ih =>
    obtain ⟨us, rfl⟩ := ih fun r hr => h r (List.mem_cons_of_mem _ hr)
    obtain ⟨h1, h2⟩ := h r (List.mem_cons_self ..)
    match r, h1 with
    | [a, b], _ =>
      obtain ⟨n0, rfl, _⟩ := leafInt (h2 0 _ _ rfl rfl)
      obtain ⟨n1, rfl, _⟩ := leafInt (h2 1 _ _ rfl rfl)
      exact ⟨⟨n0, n1⟩ :: us, rfl⟩
theorem rows_task {l : List (List Value)} (h : ∀ r ∈ l, Leafs (LeafU Try.prog W n) leaf66 r) : ∃ us : List TaskD, l = us.map TaskD.cells ∧ ∀ x ∈ us, 0 ≤ x.aff ∧ x.aff ≤ 255 := by
  induction l with
  | nil => exact ⟨[], rfl, fun x hx => by cases hx⟩
  | cons r l ih =>
    obtain ⟨us, rfl, hu⟩ := ih fun r hr => h r (List.mem_cons_of_mem _ hr)
    obtain ⟨h1, h2⟩ := h r (List.mem_cons_self ..)
    match r, h1 with
    | [x0, x1, x2, x3, x4, x5, x6, x7, x8, x9, x10, x11, x12, x13, x14, x15, x16, x17, x18, x19, x20], _ =>
      obtain ⟨n0, rfl, _⟩ := leafInt (h2 0 _ _ rfl rfl)
      obtain ⟨n1, rfl, _⟩ := leafInt (h2 1 _ _ rfl rfl)
      obtain ⟨n2, rfl, _⟩ := leafInt (h2 2 _ _ rfl rfl)
      obtain ⟨n3, rfl⟩ := leafBool (h2 3 _ _ rfl rfl)
      obtain ⟨n4, rfl, _⟩ := leafInt (h2 4 _ _ rfl rfl)
      obtain ⟨n5, rfl, _⟩ := leafInt (h2 5 _ _ rfl rfl)
      obtain ⟨n6, rfl, _⟩ := leafInt (h2 6 _ _ rfl rfl)
      obtain ⟨n7, rfl, _⟩ := leafInt (h2 7 _ _ rfl rfl)
      obtain ⟨n8, rfl, w8⟩ := leafInt (h2 8 _ _ rfl rfl)
      obtain ⟨n9, rfl, _⟩ := leafInt (h2 9 _ _ rfl rfl)
      obtain ⟨n10, rfl, _⟩ := leafInt (h2 10 _ _ rfl rfl)
      obtain ⟨n11, rfl, _⟩ := leafInt (h2 11 _ _ rfl rfl)
      obtain ⟨n12, rfl, _⟩ := leafInt (h2 12 _ _ rfl rfl)
      obtain ⟨n13, rfl, _⟩ := leafInt (h2 13 _ _ rfl rfl)
      obtain ⟨n14, rfl, _⟩ := leafInt (h2 14 _ _ rfl rfl)
      obtain ⟨n15, rfl, _⟩ := leafInt (h2 15 _ _ rfl rfl)
      obtain ⟨n16, rfl, _⟩ := leafInt (h2 16 _ _ rfl rfl)
      obtain ⟨n17, rfl, _⟩ := leafInt (h2 17 _ _ rfl rfl)
      obtain ⟨n18, rfl, _⟩ := leafInt (h2 18 _ _ rfl rfl)
      obtain ⟨n19, rfl, _⟩ := leafInt (h2 19 _ _ rfl rfl)
      obtain ⟨n20, rfl, _⟩ := leafInt (h2 20 _ _ rfl rfl)
      simp only [Lit.wf, Bool.and_eq_true, decide_eq_true_eq, IntKind.min, IntKind.max, IntKind.signed, IntKind.bits] at w8
      refine ⟨⟨n0, n1, n2, n3, n4, n5, n6, n7, n8, n9, n10, n11, n12, n13, n14, n15, n16, n17, n18, n19, n20⟩ :: us, rfl, fun x hx => ?_⟩
      rcases List.mem_cons.1 hx with rfl | hx
      · exact ⟨by simpa using w8.1, by simpa using w8.2⟩
      · exact hu x hx
theorem rows_ring {l : List (List Value)} (h : ∀ r ∈ l, Leafs (LeafU Try.prog W (n + 1)) [.slc 3] r) :
    ∃ us : List RingD, l = us.map RingD.cells ∧ ∀ x ∈ us, RowAt W.heap.size (heapOf W) x.a 1 (x.l.map intCells) ∧ x.l.length ≤ 281474976710656 := by
  induction l with
  | nil => exact ⟨[], rfl, fun x hx => by cases hx⟩
  | cons r l ih =>
    obtain ⟨us, rfl, hu⟩ := ih fun r hr => h r (List.mem_cons_of_mem _ hr)
    obtain ⟨h1, h2⟩ := h r (List.mem_cons_self ..)
    match r, h1 with
    | [x0], _ =>
      obtain ⟨a, len, cap, rfl, hw, _, hr⟩ := h2 0 _ _ rfl rfl
      obtain ⟨rows, rfl, ra, rr⟩ := hr 3 _ flat3 cells3
      obtain ⟨ks, rfl⟩ := rows_int rr
      rw [bytes3] at hw
      refine ⟨⟨a, cap, ks⟩ :: us, by simp [RingD.cells], fun x hx => ?_⟩
      rcases List.mem_cons.1 hx with rfl | hx
      · refine ⟨ra, ?_⟩
        rw [List.length_map] at hw
        have := reachBytes_lt
        simp only
        omega
      · exact hu x hx
end
theorem same_slc {a : Option Addr} {l c k : Nat} (h : SlF a l c) : Go.Ev.sameV k (.slice a l c) (.slice a l c) = true := by
  rcases h with ⟨rfl, rfl, rfl⟩ | ⟨⟨b, off, rfl⟩, _⟩
  · cases k <;> simp [Go.Ev.sameV]
  · cases k <;> simp [Go.Ev.sameV]

theorem same_int' {n : Nat} {k : IntKind} {m : Int} : Go.Ev.sameV n (.int k m) (.int k m) = true := by cases n <;> simp [Go.Ev.sameV]
theorem same_view {a : VA} {d : ViewD} (h1 : SlF a.ta d.tasks.length a.tc) (h2 : SlF a.a2 a.n2 a.c2) (h3 : SlF a.a3 a.n3 a.c3) (h4 : SlF a.a4 a.n4 a.c4) (h5 : SlF a.ra d.runs.length a.rc) (h6 : SlF a.na d.next.length a.nc)
    (h7 : SlF a.ga d.rings.length a.gc) (h8 : SlF a.a8 a.n8 a.c8) (h9 : SlF a.a9 a.n9 a.c9) (h10 : SlF a.la d.global.length a.lc) (h11 : SlF a.ma d.timers.length a.mc) : Go.Ev.sameV 50 (.agg ⟨vcells a d⟩) (.agg ⟨vcells a d⟩) = true := by
  show Go.Ev.sameV.go 49 (vcells a d) (vcells a d) = true
  unfold vcells
  simp only [Go.Ev.sameV.go, same_int', same_slc h1, same_slc h2, same_slc h3, same_slc h4, same_slc h5, same_slc h6, same_slc h7, same_slc h8, same_slc h9, same_slc h10, same_slc h11, Bool.and_self]
theorem walk {W : World} {us : List Value} {v0 : Value} (hl : Leafs (LeafU Try.prog W 2) [.int .u64, .slc 66, .slc 204, .slc 206, .slc 207, .slc 3, .slc 3, .slc 38, .slc 3, .slc 22, .slc 3, .slc 78] us) (hv : Go.Ev.VR (renB W.heap.size) (.agg ⟨us⟩) v0) :
    Calls Try.prog 4 #[v0] W fun e w' => e = .returned (.bool true) ∧ Below W.heap.size W w' := by
  obtain ⟨h1, h2⟩ := hl
  match us, h1 with
  | [x0, x1, x2, x3, x4, x5, x6, x7, x8, x9, x10, x11], _ =>
    obtain ⟨now, rfl, _⟩ := h2 0 _ _ rfl rfl
    obtain ⟨ta, tl, tc, rfl, tw, ts, th⟩ := h2 1 _ _ rfl rfl
    obtain ⟨a2, n2, c2, rfl, _, s2, _⟩ := h2 2 _ _ rfl rfl
    obtain ⟨a3, n3, c3, rfl, _, s3, _⟩ := h2 3 _ _ rfl rfl
    obtain ⟨a4, n4, c4, rfl, _, s4, _⟩ := h2 4 _ _ rfl rfl
    obtain ⟨ra, rl, rc, rfl, rw5, rs, rh⟩ := h2 5 _ _ rfl rfl
    obtain ⟨na, nl, nc, rfl, nw, ns, nh⟩ := h2 6 _ _ rfl rfl
    obtain ⟨ga, gl, gc, rfl, gw, gs, gh⟩ := h2 7 _ _ rfl rfl
    obtain ⟨a8, n8, c8, rfl, _, s8, _⟩ := h2 8 _ _ rfl rfl
    obtain ⟨a9, n9, c9, rfl, _, s9, _⟩ := h2 9 _ _ rfl rfl
    obtain ⟨la, ll, lc, rfl, lw, ls, lh⟩ := h2 10 _ _ rfl rfl
    obtain ⟨ma, ml, mc, rfl, mw, ms, mh⟩ := h2 11 _ _ rfl rfl
    obtain ⟨trows, rfl, tra, trr⟩ := th 5 _ flat66 cells66
    obtain ⟨tasks, rfl, taff⟩ := rows_task trr
    obtain ⟨rrows, rfl, rra, rrr⟩ := rh 3 _ flat3 cells3
    obtain ⟨runs, rfl⟩ := rows_int rrr
    obtain ⟨nrows, rfl, nra, nrr⟩ := nh 3 _ flat3 cells3
    obtain ⟨next, rfl⟩ := rows_int nrr
    obtain ⟨grows, rfl, gra, grr⟩ := gh 3 _ flat38 cells38
    obtain ⟨rings, rfl, grow⟩ := rows_ring grr
    obtain ⟨lrows, rfl, lra, lrr⟩ := lh 3 _ flat3 cells3
    obtain ⟨glob, rfl⟩ := rows_int lrr
    obtain ⟨mrows, rfl, mra, mrr⟩ := mh 3 _ flat78 cells78
    obtain ⟨timers, rfl⟩ := rows_timer mrr
    rw [bytes66] at tw
    rw [bytes3] at rw5 nw lw
    rw [bytes38] at gw
    rw [bytes78] at mw
    simp only [List.length_map] at *
    have hz := reachBytes_lt
    let a : VA := ⟨now, ta, tc, a2, n2, c2, a3, n3, c3, a4, n4, c4, ra, rc, na, nc, ga, gc, a8, n8, c8, a9, n9, c9, la, lc, ma, mc⟩
    let d : ViewD := ⟨tasks, runs, next, rings, glob, timers⟩
    have hr : Ranges d := ⟨taff, ⟨by show tasks.length ≤ _; omega, by show runs.length ≤ _; omega, by show next.length ≤ _; omega, by show rings.length ≤ _; omega, by show glob.length ≤ _; omega, by show timers.length ≤ _; omega⟩, fun r hr => (grow r hr).2⟩
    have hok : VOK W.heap.size (heapOf W) a d := ⟨tra, rra, nra, gra, fun r hr => (grow r hr).1, lra, mra⟩
    have hsv : Go.Ev.sameV 50 (.agg ⟨vcells a d⟩) (.agg ⟨vcells a d⟩) = true := same_view ts s2 s3 s4 rs ns gs s8 s9 ls ms
    exact Go.Ev.open_calls (E := env) (us := [.agg ⟨vcells a d⟩]) (Go.Ev.envOK Try.prog 0 _ mixed) ext_ok (Go.Ev.namesOK names) (fun g hg => absurd hg (Nat.not_lt_zero g)) (.cons hv .nil) rfl (law_ret (a := a) (d := d) hr (Nat.le_refl _) hok (same_slc ls) hsv)
end Go.Proofs.Ytdjnedamphifcaa
