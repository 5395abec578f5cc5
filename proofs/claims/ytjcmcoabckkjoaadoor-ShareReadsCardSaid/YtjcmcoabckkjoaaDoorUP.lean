/- What the row's condition gives. -/
import Derived.Test.YtjcmcoabckkjoaaDoorUN
import Derived.Test.YtjcmcoabckkjoaaDoorZRow
import Derived.Shelf.Vars
import Derived.HandedShaped
import Derived.Test.YtjcmcoabckkjoaaDoorRows
import Derived.Test.YtjcmcoabckkjoaaDoorCards
import Derived.Test.YtjcmcoabckkjoaaDoorTie
import Derived.LaidMore
import Derived.SevenTiedAt
import Derived.Stop.Joined
import Derived.WalkKit
import Derived.ProofKit
import Derived.OpenShut
import Derived.SizedLaws
set_option linter.unusedSimpArgs false
set_option linter.unusedVariables false
set_option linter.unusedSimpArgs false
set_option linter.unusedVariables false
namespace Go.Proofs.YtjcmcoabckkjoaaDoor.Li
open Go.ChangeShapes Go.WideShapes Go.ChangeAt Go.RowKit
open Go.Ev (Leaf Leafs LeafU heapOf renB)
set_option maxRecDepth 100000
theorem own : ownKnob Tryd.prog.godebug = none := by kernel_rfl
theorem laidOut : laidOutB Tryd.prog = true := by kernel_rfl
theorem gDb : Tryd.prog.globalNamed "math/bits.deBruijn64tab" = some 1 := by kernel_rfl
theorem tDb : (Tryd.prog.globals[1]?).map (·.type) = some 93 := by kernel_rfl
theorem arr93 : Tryd.prog.underlying 93 = some (.array 64 5) := by kernel_rfl
theorem int5 : Tryd.prog.underlying 5 = some (.int .u8) := by kernel_rfl
theorem int3 : Tryd.prog.underlying 3 = some (.int .i64) := by kernel_rfl
theorem int23 : Tryd.prog.underlying 23 = some (.int .u64) := by kernel_rfl
theorem cells5 : Tryd.prog.cellsOf 5 = 1 := by kernel_rfl
theorem cells23 : Tryd.prog.cellsOf 23 = 1 := by kernel_rfl
theorem gP10 : Tryd.prog.globalNamed "internal/strconv.uint64pow10" = some 2 := by kernel_rfl
theorem tP10 : (Tryd.prog.globals[2]?).map (·.type) = some 117 := by kernel_rfl
theorem arr117 : Tryd.prog.underlying 117 = some (.array 20 23) := by kernel_rfl
/-! ### what is laid -/
abbrev laid5 : List (String × DataW Unit) := [("math/bits.deBruijn32tab", Rows.laid_math_bits_deBruijn32tab), ("math/bits.deBruijn64tab", Rows.laid_math_bits_deBruijn64tab), ("internal/strconv.uint64pow10", Rows.laid_internal_strconv_uint64pow10), ("strconv.ErrRange", Rows.laid_strconv_ErrRange), ("strconv.ErrSyntax", Rows.laid_strconv_ErrSyntax)]
theorem door_met5 (os : Os) (args : Array Value) : laidMetH Tryd.prog laid5 ((World.doorLaid Tryd.prog 400 os).forCall (fun _ _ => 0) ⟨#[], args, []⟩).memory :=
  laidMetH_of_parts3 (fuel := 8) (laidMet_of_run' 8 (by kernel_rfl) (by kernel_rfl)) (by kernel_rfl) (by kernel_rfl)
def dbn : List Int := [0, 1, 56, 2, 57, 49, 28, 3, 61, 58, 42, 50, 38, 29, 17, 4, 62, 47, 59, 36, 45, 43, 51, 22, 53, 39, 33, 30, 24, 18, 12, 5, 63, 55, 48, 27, 60, 41, 37, 16, 46, 35, 44, 21, 52, 32, 23, 11, 54, 26, 40, 15, 34, 20, 31, 10, 25, 14, 19, 9, 13, 8, 7, 6]
theorem dbs_n : dbs = dbn.map fun n => .int .u8 n := rfl
theorem laid_n : (Rows.laid_math_bits_deBruijn64tab : DataW Unit) = .agg (dbn.map fun n => .lit (.int .u8 n)) := rfl
theorem p10_n : p10 = (List.range 20).map fun n => .int .u64 ((10 ^ n : Nat) : Int) := rfl
theorem laid_p : (Rows.laid_internal_strconv_uint64pow10 : DataW Unit) = .agg ((List.range 20).map fun n => .lit (.int .u64 ((10 ^ n : Nat) : Int))) := by kernel_rfl
theorem cell_tab1 {W : World} {b : Nat} {l : List Value} (h0 : ∃ v, l[0]? = some v) (hc : l.all Go.Ev.constOk0 = true) (h : ∀ (i : Nat) (v : Value), l[i]? = some v → W.cell? ⟨b, i, none⟩ = some v) : Go.Ev.tabsOk [(b, l)] (heapOf W) = true := by
  simp only [Go.Ev.tabsOk, List.all_cons, List.all_nil, Bool.and_true]
  obtain ⟨v0, h0⟩ := h0
  have c0 := h 0 _ h0
  unfold World.cell? at c0
  simp only at c0
  rw [Go.Ev.heapOf_get]
  split at c0
  · rename_i c el f hb
    simp only [hb, Option.map_some, Go.Ev.roOf]
    refine Go.Ev.rowOk_of (i := 0) (fun v hv => ?_) (fun j v e => ?_) ?_
    · unfold Go.Ev.constOk0 at hv
      split at hv <;> first | (cases hv; done) | (simp [Go.Ev.sameV, Go.Ev.eqStr])
    · have := h j v e
      rw [show j = 0 + j by omega, Go.Ev.cell_of hb] at this
      rw [this, Option.bind_some]
      have hv : Go.Ev.constOk0 v = true := List.all_eq_true.1 hc v (List.mem_of_getElem? e)
      unfold Go.Ev.constOk0 at hv
      split at hv <;> first | (cases hv; done) | (simp [Go.Ev.absV, Go.Ev.okV0]; done) | (simp [Go.Ev.absV, Go.Ev.okV0, Go.Ev.blt_eq, Go.Ev.UNK])
    · exact hc
  · cases c0
theorem cell_tabs {W : World} (h : ∀ (i : Nat) (v : Value), dbs[i]? = some v → W.cell? ⟨1, i, none⟩ = some v) (h' : ∀ (i : Nat) (v : Value), p10[i]? = some v → W.cell? ⟨2, i, none⟩ = some v) : Go.Ev.tabsOk tabs (heapOf W) = true := by
  have a := cell_tab1 (b := 1) (l := dbs) ⟨_, rfl⟩ (tab_const (1, dbs) (by simp [tabs])) h
  have b := cell_tab1 (b := 2) (l := p10) ⟨_, rfl⟩ (tab_const (2, p10) (by simp [tabs])) h'
  simp only [Go.Ev.tabsOk, tabs, List.all_cons, List.all_nil, Bool.and_true, Bool.and_eq_true] at a b ⊢
  exact ⟨a, b⟩
/-! the variables that hold errors -/
theorem trod_ptr_inv {w : World} {n : Nat} {t : TypeId} {cs : List Value} {d : DataW Unit} {q : List MemPlace} {enc : TypeId × Value → Unit} (h : DataW.trod enc Tryd.prog w 0 (fun _ => true) false n t cs = some (.ptr d, q)) :
    ∃ e, Tryd.prog.underlying t = some (.pointer e) := by
  cases n with
  | zero => simp [DataW.trod] at h
  | succ n =>
    unfold DataW.trod at h
    cases hu : Tryd.prog.underlying t with
    | none => rw [hu] at h; simp at h
    | some k =>
      cases k with
      | pointer e => exact ⟨e, rfl⟩
      | _ =>
        exfalso
        rw [hu] at h
        split at h <;> simp_all [Option.bind_eq_some_iff, Option.map_eq_some_iff]
        all_goals (repeat' split at h) <;> simp_all [Option.bind_eq_some_iff, Option.map_eq_some_iff]
theorem trod_iface_inv {w : World} {n : Nat} {t : TypeId} {ms : Array (String × TypeId)} {cs : List Value} {nm : String} {d : DataW Unit} {q : List MemPlace} {enc : TypeId × Value → Unit} (ht : Tryd.prog.underlying t = some (.interface ms)) (h : DataW.trod enc Tryd.prog w 0 (fun _ => true) false n t cs = some (.iface nm (.ptr d), q)) :
    ∃ m u v q', cs = [.iface u v] ∧ DataW.trod enc Tryd.prog w 0 (fun _ => true) false m u v.cells.toList = some (.ptr d, q') := by
  cases n with
  | zero => simp [DataW.trod] at h
  | succ n =>
    unfold DataW.trod at h
    rw [ht] at h
    split at h <;> simp_all [Option.map_eq_some_iff]
    split at h
    · cases h
    · simp only [Option.map_eq_some_iff, Prod.mk.injEq] at h
      obtain ⟨y, hy, h1, h2⟩ := h
      obtain ⟨y1, y2⟩ := y
      simp only [DataW.iface.injEq] at h1
      obtain ⟨_, rfl⟩ := h1
      exact ⟨_, _, _, ⟨rfl, rfl⟩, _, hy⟩
    · cases h
theorem int76 : ∃ ms, Tryd.prog.underlying 76 = some (.interface ms) := ⟨_, Tryd.underlying76⟩
theorem err_cell {W : World} {g n : Nat} {nm name : String} {cs : Array Value} {d : DataW Unit} {p ps : List MemPlace} (hg : Tryd.prog.globalNamed name = some g) (hv : W.var? Tryd.prog name = some cs)
    (hd : DataW.trod (fun _ => ()) Tryd.prog W 0 (fun _ => true) false n 76 cs.toList = some (.iface nm (.ptr d), p)) (hsub : ∀ x ∈ MemPlace.row ⟨g, 0, none⟩ cs.size, x ∈ ps)
    (hok : ∀ b off, MemPlace.cell b off ∈ ps → (∃ c t, W.heap[b]? = some (.cells c t (0, 0))) ∧ ∀ u v, W.cell? ⟨b, off, none⟩ = some (.iface u v) → Value.okWide Tryd.prog W .any 0 u v) :
    g < W.heap.size ∧ isIf (Go.Ev.cellAt (heapOf W) ⟨g, 0, none⟩) = true := by
  obtain ⟨ms, h76⟩ := int76
  obtain ⟨m, u, v, q', hcs, hin⟩ := trod_iface_inv h76 hd
  obtain ⟨e, hu⟩ := trod_ptr_inv hin
  have h0 : cs[0]? = some (.iface u v) := by rw [← Array.getElem?_toList, hcs]; rfl
  have hc := World.var?_cell hg hv 0
  rw [h0] at hc
  have hsz : 0 < cs.size := (Array.getElem?_eq_some_iff.1 h0).1
  have hmem : MemPlace.cell g 0 ∈ ps := hsub _ (by
    unfold MemPlace.row
    exact List.mem_map.2 ⟨0, List.mem_range.2 hsz, rfl⟩)
  have ok := (hok g 0 hmem).2 u v hc
  rcases DataW.trod_pointer hu hin with ⟨_, h2⟩ | ⟨a, cs', y, n', _, hva, _, hcell, _⟩
  · cases h2
  · unfold Value.okWide at ok
    rw [hu] at ok
    simp only [Cell.okWide, hu, Cell.ok] at ok
    have hvv : v = .pointer (some a) := by
      cases v with
      | pointer o =>
        have : (Value.pointer o).cells.toList = [.pointer o] := rfl
        rw [this] at hva
        exact (List.cons.inj hva).1
      | _ => exact absurd ok (by simp)
    subst hvv
    obtain ⟨_, hs, row, cells, hsh, _⟩ := ok
    have hlt : a.block < W.heap.size := by
      cases hb : W.heap[a.block]? with
      | none => simp [World.shape?, hb] at hsh
      | some o => exact (Array.getElem?_eq_some_iff.1 hb).1
    obtain ⟨ab, ao, sp⟩ := a
    simp only at hs hlt
    subst hs
    refine ⟨(Go.Ev.cell_lt hc).1, ?_⟩
    rw [Go.Ev.heapOf_cell hc (u := .iface u (.pointer (some ⟨ab, ao, none⟩))) ?_]
    · rfl
    · simp [Go.Ev.absV, Go.Ev.okV0, Go.Ev.blt_eq, hlt]
theorem gRng : Tryd.prog.globalNamed "strconv.ErrRange" = some 5 := by kernel_rfl
theorem tRng : (Tryd.prog.globals[5]?).map (·.type) = some 76 := by kernel_rfl
theorem gSyn : Tryd.prog.globalNamed "strconv.ErrSyntax" = some 4 := by kernel_rfl
theorem tSyn : (Tryd.prog.globals[4]?).map (·.type) = some 76 := by kernel_rfl
theorem str9u : Tryd.prog.underlying 9 = some .string := by kernel_rfl
/-- WHAT THE CONDITION GIVES -/
theorem of_laid {W : World} (h : laidMetH Tryd.prog laid5 W) : 5 < W.heap.size ∧ Go.Ev.tabsOk tabs (heapOf W) = true ∧ errsOk (heapOf W) = true := by
  rw [MakeChecks.laidMetH_plain _ _ _ (by kernel_rfl)] at h
  obtain ⟨ps, ⟨_, _, _, _, _, _, _, _, _, _, ⟨g0, t0, cs0, f0, p0, q0, hg0, ht0, hv0, hd0, ⟨g1, t1, cs1, f1, p1, q1, hg1, ht1, hv1, hd1, ⟨g2, t2, cs2, f2, p2, q2, hg2, ht2, hv2, hd2, ⟨g3, t3, cs3, f3, p3, q3, hg3, ht3, hv3, hd3, hr3, e3⟩, e2⟩, e1⟩, e0⟩, e00⟩, _, hokk⟩ := h
  obtain rfl := Option.some.inj (gDb.symm.trans hg0)
  obtain rfl := Option.some.inj (tDb.symm.trans ht0)
  obtain ⟨xs, m1, rfl, hx1, hlen, hn, hel⟩ := DataW.trod_array arr93 hd0
  rw [cells5] at hel
  have hx2 : dbn.map (fun b => DataW.lit (.int .u8 b)) = xs.map (·.1) := by
    have := (Prod.mk.inj hx1).1
    rw [laid_n] at this
    exact DataW.agg.inj this
  have key : ∀ (i : Nat) (v : Value), dbs[i]? = some v → cs0.toList[i]? = some v := by
    intro i v hv
    rw [dbs_n, List.getElem?_map] at hv
    obtain ⟨b, hb, rfl⟩ := Option.map_eq_some_iff.1 hv
    have hi : i < 64 := (List.getElem?_eq_some_iff.1 hb).1
    have h1 := hel i hi
    rw [Nat.mul_one, List.getElem?_eq_getElem (by omega)] at h1
    obtain ⟨s, e1, e2, _⟩ := DataW.trod_int int5 h1
    have h2 := congrArg (·[i]?) hx2
    simp only [List.getElem?_map, hb, Option.map_some, List.getElem?_eq_getElem (show i < xs.length by omega)] at h2
    rw [e2] at h2
    have h3 : b = s := by simpa using h2
    have := congrArg (·[0]?) e1
    simp only [List.getElem?_take_of_lt (show 0 < 1 by omega), List.getElem?_drop, Nat.add_zero] at this
    rw [this, h3]
    rfl
  have cell : ∀ (i : Nat) (v : Value), dbs[i]? = some v → W.cell? ⟨1, i, none⟩ = some v := by
    intro i v hv
    rw [World.var?_cell hg0 hv0 i, ← Array.getElem?_toList]
    exact key i v hv
  obtain rfl := Option.some.inj (gP10.symm.trans hg1)
  obtain rfl := Option.some.inj (tP10.symm.trans ht1)
  obtain ⟨ys, m2, rfl, hy1, hlen2, hn2, hel2⟩ := DataW.trod_array arr117 hd1
  rw [cells23] at hel2
  have hy2 : (List.range 20).map (fun n => DataW.lit (.int .u64 ((10 ^ n : Nat) : Int))) = ys.map (·.1) := by
    have := (Prod.mk.inj hy1).1
    rw [laid_p] at this
    exact DataW.agg.inj this
  have key2 : ∀ (i : Nat) (v : Value), p10[i]? = some v → cs1.toList[i]? = some v := by
    intro i v hv
    rw [p10_n, List.getElem?_map] at hv
    obtain ⟨b, hb, rfl⟩ := Option.map_eq_some_iff.1 hv
    have hi : i < 20 := by have := (List.getElem?_eq_some_iff.1 hb).1; simpa using this
    have h1 := hel2 i hi
    rw [Nat.mul_one, List.getElem?_eq_getElem (by omega)] at h1
    obtain ⟨s, e1, e2, _⟩ := DataW.trod_int int23 h1
    have h2 := congrArg (·[i]?) hy2
    simp only [List.getElem?_map, hb, Option.map_some, List.getElem?_eq_getElem (show i < ys.length by omega)] at h2
    rw [e2] at h2
    have h3 : ((10 ^ b : Nat) : Int) = s := by simpa using h2
    have := congrArg (·[0]?) e1
    simp only [List.getElem?_take_of_lt (show 0 < 1 by omega), List.getElem?_drop, Nat.add_zero] at this
    rw [this, h3]
    rfl
  have cell2 : ∀ (i : Nat) (v : Value), p10[i]? = some v → W.cell? ⟨2, i, none⟩ = some v := by
    intro i v hv
    rw [World.var?_cell hg1 hv1 i, ← Array.getElem?_toList]
    exact key2 i v hv
  obtain rfl := Option.some.inj (gRng.symm.trans hg2)
  obtain rfl := Option.some.inj (tRng.symm.trans ht2)
  obtain rfl := Option.some.inj (gSyn.symm.trans hg3)
  obtain rfl := Option.some.inj (tSyn.symm.trans ht3)
  have s2 : ∀ x ∈ MemPlace.row ⟨5, 0, none⟩ cs2.size, x ∈ ps := fun x hx => by
    rw [e00, e0, e1, e2]; simp [hx]
  have s3 : ∀ x ∈ MemPlace.row ⟨4, 0, none⟩ cs3.size, x ∈ ps := fun x hx => by
    rw [e00, e0, e1, e2, e3]; simp [hx]
  obtain ⟨l5, i5⟩ := err_cell hg2 hv2 hd2 s2 hokk
  obtain ⟨l4, i4⟩ := err_cell hg3 hv3 hd3 s3 hokk
  exact ⟨l5, cell_tabs cell cell2, by unfold errsOk; rw [i4, i5]; rfl⟩
/-- what the world's shape gives: some number stands in internal/bytealg.MaxLen -/
theorem of_shape {W : World} (h : W.ShapedOpen Tryd.prog) : 3 < W.heap.size ∧ isI (Go.Ev.cellAt (heapOf W) ⟨3, 0, none⟩) = true := by
  obtain ⟨m, hm⟩ := cell_of_shapedOpen_int (P := Tryd.prog) (g := 3) (t := 3) (zero := #[.int .i64 0]) (k := .i64) h (of_decide_eq_true (by kernel_rfl)) (by kernel_rfl) rfl (by kernel_rfl) (by kernel_rfl) int3
  refine ⟨(Go.Ev.cell_lt hm).1, ?_⟩
  rw [Go.Ev.heapOf_cell hm (u := .int .i64 m) rfl]
  rfl
/-- a row whose variables are laid, the world's shape kept -/
theorem handed_shaped {H : Type} {enc : TypeId × Value → H} {C : Checked} {os : Os} {f : FuncId} {fn : Func} {s : ChangeSpec} {X : World → Array Value → Prop} (hX : ∀ (w w' : World) (args : Array Value), w.heap = w'.heap → X w args → X w' args)
    (own : ownKnob C.prog.godebug = none) (started : os.Started) (noInit : C.prog.inits.idxOf? f = none) (hfn : C.prog.funcs[f]? = some fn)
    (wit : ∃ (w : World) (tape : Tape) (i : Input), w.os = os ∧ (w.forCall tape i).Shaped C.prog ∧ i.vars = [] ∧ Input.okWide C.prog (w.forCall tape i) .any w.heap.size f i ∧
      ((s.pre enc C.prog fn [] false (w.forCall tape i).memory i.args ∧ X (w.forCall tape i).memory i.args) ∧ sizedMet enc C.prog fn (OpenSpec.ofChange s) false (w.forCall tape i).memory i.args) ∧ ({} : Assume).holds C.prog (lone (Frame.enter C.prog f i.args .normal) [] (w.forCall tape i)))
    (law : ∀ (W : World) (base : Nat) (args : Array Value) (ds gs : List (DataW H)) (before : List MemPlace), W.ShapedOpen C.prog → X W args →
      (∀ (j : Nat) t v, fn.params[j]? = some t → args[j]? = some v → Value.okWide C.prog W .any base t v) → DataW.Whole enc C.prog fn.params.toList s.vars false W args.toList ds gs before →
      Calls C.prog f args W fun e W' => ∃ v, e = .returned v ∧ s.post enc C.prog fn false true false false W args v W') :
    ReturnsInHanded {} C os f .any (fun w args => (s.pre enc C.prog fn [] false w args ∧ X w args) ∧ sizedMet enc C.prog fn (OpenSpec.ofChange s) false w args) (s.post enc C.prog fn false true false false) :=
  returnsInHanded_of_calls own started noInit wit fun w tape i _ shaped _ ok pre _ => by
    obtain ⟨_, _, _, f', hf', _, _, _, _, hv⟩ := ok
    cases hf'.symm.trans hfn
    obtain ⟨⟨⟨ds, gs, b, whole, _⟩, x⟩, _⟩ := pre
    exact (law (w.forCall tape i) w.heap.size i.args ds gs b shaped (hX _ _ _ (by rfl) x) hv (DataW.Whole.of_heap (w' := w.forCall tape i) (by rfl) whole)).mono fun e W' ⟨v, h1, h2⟩ => by
      subst h1
      exact ChangeSpec.post_blind h2
end Go.Proofs.YtjcmcoabckkjoaaDoor.Li

