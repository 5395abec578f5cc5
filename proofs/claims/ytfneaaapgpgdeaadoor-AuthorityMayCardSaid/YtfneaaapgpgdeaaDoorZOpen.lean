/- THE EVALUATOR, part 'Open': a deterministic reading of the program's code over an abstract heap, and that the model does what it says. Conditions: none beyond each theorem's own. -/
import Derived.Test.YtfneaaapgpgdeaaDoorZK
set_option linter.unusedSimpArgs false
set_option linter.unusedVariables false
namespace Go.Ev
open Go.RowKit
/-! a law with arguments: the world as it came in, read alone -/
def okV0 (B : Nat) : Value → Bool
  | .bool _ | .int _ _ | .string _ | .float _ _ | .pointer none | .map none | .nilFunc | .nilIface => true
  | .pointer (some a) => a.spot.isNone && Nat.blt a.block B
  | .slice none _ c => Nat.blt c UNK
  | .slice (some a) _ c => a.spot.isNone && Nat.blt a.block B && Nat.blt c UNK
  | .iface _ (.pointer (some a)) => a.spot.isNone && Nat.blt a.block B
  | _ => false
def okV (B : Nat) : Value → Bool
  | .agg cs => cs.toList.all (okV0 B)
  | v => okV0 B v
def renB (B : Nat) : Ren := fun i => if i < B then some (i, 0) else none
theorem VR.ok0 {B : Nat} : ∀ {v : Value}, okV0 B v = true → VR (renB B) v v
  | .bool _, _ => .bool _
  | .int _ _, _ => .int _ _
  | .float _ _, _ => .float _ _
  | .string _, _ => .string _
  | .pointer none, _ => .nilptr
  | .map none, _ => .nilmap
  | .nilFunc, _ => .nilFunc
  | .nilIface, _ => .nilIface
  | .pointer (some ⟨b, o, s⟩), h => by
    simp only [okV0, Bool.and_eq_true, blt_eq, decide_eq_true_eq, Option.isNone_iff_eq_none] at h
    obtain ⟨rfl, h2⟩ := h
    exact .ptr (c := 0) _ (by simp [renB, h2])
  | .slice none _ c, h => by
    simp only [okV0, blt_eq, decide_eq_true_eq] at h
    exact .nilslice _ _ h
  | .slice (some ⟨b, o, s⟩) _ c, h => by
    simp only [okV0, Bool.and_eq_true, blt_eq, decide_eq_true_eq, Option.isNone_iff_eq_none] at h
    obtain ⟨⟨rfl, h2⟩, h3⟩ := h
    exact .slice (c := 0) _ _ _ (by simp [renB, h2]) h3
  | .iface _ (.pointer (some ⟨b, o, s⟩)), h => by
    simp only [okV0, Bool.and_eq_true, blt_eq, decide_eq_true_eq, Option.isNone_iff_eq_none] at h
    obtain ⟨rfl, h2⟩ := h
    exact .iface _ _ _ (.ptr (c := 0) _ (by simp [renB, h2]))
theorem VRL.ok0 {B : Nat} : ∀ {l : List Value}, l.all (okV0 B) = true → VRL (renB B) l l
  | [], _ => .nil
  | v :: l, h => by simp only [List.all_cons, Bool.and_eq_true] at h; exact .cons (VR.ok0 h.1) (VRL.ok0 h.2)
theorem VR.ok {B : Nat} {v : Value} (h : okV B v = true) : VR (renB B) v v := by
  cases v with
  | agg cs => exact .agg _ _ (VRL.ok0 h)
  | _ => exact VR.ok0 h
theorem VRL.ok {B : Nat} : ∀ {l : List Value}, l.all (okV B) = true → VRL (renB B) l l
  | [], _ => .nil
  | v :: l, h => by simp only [List.all_cons, Bool.and_eq_true] at h; exact .cons (VR.ok h.1) (VRL.ok h.2)

/-- a cell's word: an empty slice without room is one of which nothing more is known -/
def absV (B : Nat) : Value → Option Value
  | .slice (some _) 0 0 => some (.slice (some ⟨0, 0, none⟩) 0 UNK2)
  | v => cond (okV0 B v) (some v) none
theorem absV_ok {B : Nat} {v u : Value} (h : absV B v = some u) : VR (renB B) u v := by
  unfold absV at h
  split at h
  · cases h; exact .sliceE _ _ _
  · cases hk : okV0 B v with
    | false => rw [hk] at h; cases h
    | true => rw [hk] at h; cases h; exact VR.ok0 hk
def roOf (B : Nat) : Obj → Blk
  | .cells xs _ _ => .ro fun i => (xs[i]?).bind (absV B)
  | _ => .dead
def heapOf (W : World) : Heap := { n := W.heap.size, b := T.ofList (W.heap.toList.map (roOf W.heap.size)) }
theorem heapOf_get (W : World) (i : Nat) : (heapOf W).b.get i = (W.heap[i]?).map (roOf W.heap.size) := by
  simp [heapOf, T.get_ofList]
theorem heapOf_hr (P : Program) (W : World) : HR P (renB W.heap.size) (heapOf W) W where
  dom i b c e := by
    unfold renB at e
    by_cases h : i < W.heap.size
    · rw [if_pos h] at e; cases e; exact ⟨h, h⟩
    · rw [if_neg h] at e; cases e
  blk i b c e := by
    unfold renB at e
    by_cases h : i < W.heap.size
    · rw [if_pos h] at e; cases e
      refine ⟨roOf W.heap.size W.heap[i], W.heap[i], by rw [heapOf_get]; simp [h], by simp [h], ?_⟩
      generalize W.heap[i] = o
      cases o with
      | cells xs el f =>
        refine .ro _ _ fun j v hv => ?_
        obtain ⟨v0, h0, h1⟩ := Option.bind_eq_some_iff.1 hv
        exact ⟨xs, el, f, v0, rfl, h0, absV_ok h1⟩
      | _ => exact .dead _
    · rw [if_neg h] at e; cases e
  inj i j b c d e e' hn := by
    unfold renB at e e'
    by_cases h : i < W.heap.size
    · rw [if_pos h] at e; cases e
      by_cases h' : j < W.heap.size
      · rw [if_pos h'] at e'; cases e'; exact absurd rfl hn
      · rw [if_neg h'] at e'; cases e'
    · rw [if_neg h] at e; cases e

theorem heapOf_cell {W : World} {b off : Nat} {v u : Value} (hc : W.cell? ⟨b, off, none⟩ = some v) (hv : absV W.heap.size v = some u) : cellAt (heapOf W) ⟨b, off, none⟩ = some u := by
  unfold World.cell? at hc
  simp only at hc
  split at hc
  · rename_i c el f hb
    simp only [Option.isSome_none, Bool.false_eq_true, if_false] at hc
    have hlt : b < W.heap.size := (Array.getElem?_eq_some_iff.1 hb).1
    have hlt' : Nat.blt b (heapOf W).n = true := by simp [blt_eq, heapOf, hlt]
    simp only [cellAt, cellsAt, hlt', heapOf_get, hb, Option.map_some, roOf, roCells, hc, hv, cond_true, Option.bind_some]
    rfl
  · cases hc

/-- so many cells -/
theorem heapOf_cells {W : World} {b : Nat} (l : List Value) (off : Nat) (hc : ∀ (i : Nat) (u : Value), l[i]? = some u → ∃ v, W.cell? ⟨b, off + i, none⟩ = some v ∧ absV W.heap.size v = some u) : cellsAt (heapOf W) ⟨b, off, none⟩ l.length = some l := by
  cases l with
  | nil => rfl
  | cons v0 l0 =>
    obtain ⟨v1, h0, _⟩ := hc 0 v0 rfl
    unfold World.cell? at h0
    simp only at h0
    split at h0
    · rename_i c el f hb
      have hlt : b < W.heap.size := (Array.getElem?_eq_some_iff.1 hb).1
      have hlt' : Nat.blt b (heapOf W).n = true := by simp [blt_eq, heapOf, hlt]
      have key : ∀ (l : List Value) (off : Nat), (∀ (i : Nat) (u : Value), l[i]? = some u → ∃ v, c[off + i]? = some v ∧ absV W.heap.size v = some u) →
          roCells (fun i => (c[i]?).bind (absV W.heap.size)) off l.length = some l := by
        intro l
        induction l with
        | nil => intro off _; rfl
        | cons u l ih =>
          intro off hc
          obtain ⟨v, h1, h2⟩ := hc 0 u rfl
          rw [Nat.add_zero] at h1
          simp only [List.length_cons, roCells, h1, h2, Option.bind_some]
          rw [ih (off + 1) (fun i u' e => by have := hc (i + 1) u' (by simpa using e); rwa [show off + 1 + i = off + (i + 1) by omega])]
      have hcells : cellsAt (heapOf W) ⟨b, off, none⟩ (v0 :: l0).length = roCells (fun i => (c[i]?).bind (absV W.heap.size)) off (v0 :: l0).length := by
        unfold cellsAt
        simp only [hlt', heapOf_get, hb, Option.map_some, roOf, cond_true]
        rfl
      rw [hcells]
      refine key _ _ (fun i u e => ?_)
      obtain ⟨v, h1, h2⟩ := hc i u e
      rw [cell_of hb] at h1
      exact ⟨v, h1, h2⟩
    · cases h0

section
variable {P : Program} {E : Env}
/-- a law's call: its arguments, its answer -/
theorem open_calls (hE : EnvOK P E) (hx : ExtOK P E) (hn : NamesOK P) {f : FuncId} {W : World} (hg : GR E (renB W.heap.size)) {us : List Value} {args : Array Value} (hargs : VRL (renB W.heap.size) us args.toList) (hext : E.ext f us (heapOf W) = none)
    (r : Ret E (.func f) us (heapOf W) fun v _ => v = .bool true) : Calls P f args W fun e w' => e = .returned (.bool true) ∧ Below W.heap.size W w' := by
  obtain ⟨d, v, h', e, rfl⟩ := r
  refine (callF_calls hE hx hn hext e (heapOf_hr P W) hg hargs).mono fun e w' hh => ?_
  obtain ⟨v', ρ', rfl, r, hs⟩ := hh
  cases r
  refine ⟨rfl, hs.below fun i x e => ?_⟩
  rw [heapOf_get]
  unfold renB at e
  by_cases h : i < W.heap.size
  · simp only [h, Array.getElem?_eq_getElem, Option.map_some]
    generalize W.heap[i] = o
    cases o with
    | cells xs el f => exact .inr (.inl ⟨_, rfl⟩)
    | _ => exact .inl rfl
  · rw [if_neg h] at e; cases e
theorem Stp.of_below {ρ : Ren} {h : Heap} {w w' : World} (hr : HR P ρ h w) (hb : Below w.heap.size w w') : Stp P ρ h w ρ h w' where
  le := Ren.le_refl _
  hr := {
    dom := fun i b c e => ⟨(hr.dom i b c e).1, Nat.lt_of_lt_of_le (hr.dom i b c e).2 hb.size⟩
    blk := fun i b c e => by
      obtain ⟨k, o, e1, e2, e3⟩ := hr.blk i b c e
      exact ⟨k, o, e1, by rw [hb.block b (hr.dom i b c e).2]; exact e2, e3⟩
    inj := hr.inj }
  n := Nat.le_refl _
  new i x e e0 := by rw [e] at e0; cases e0
  keep _ _ _ := rfl
  os := hb.os
  tape := hb.tape
  output := hb.output
  size := hb.size
  frame b hlt _ := hb.block b hlt
  img i b c e _ := ⟨i, c, e, .inl rfl⟩
  stays _ _ _ _ := rfl

/-- a closed call that is known to answer true -/
def extKnown (ext : FuncId → List Value → Heap → Option (Option (Value × Heap))) (k : FuncId) (f : FuncId) (args : List Value) (h : Heap) : Option (Option (Value × Heap)) :=
  cond (Nat.beq f k) (match args with | [] => some (some (.bool true, h)) | _ => some none) (ext f args h)
theorem extKnown_ok {ng ng' k : Nat} {ext : FuncId → List Value → Heap → Option (Option (Value × Heap))} (h0 : ExtOK P (envOf P ng ext)) (hle : ng ≤ ng') {fn : Func} {c : Code} (hf : P.funcs[k]? = some fn) (hb : fn.body = some c) (hn : NamesOK P)
    (hk : ∀ w : World, Calls P k #[] w fun e w' => e = .returned (.bool true) ∧ Below w.heap.size w w') : ExtOK P (envOf P ng' (extKnown ext k)) := by
  intro f args h v h' e ρ w args' hr hg ra
  simp only [envOf, extKnown, cond_beq] at e
  by_cases hfk : f = k
  · subst hfk
    rw [if_pos rfl] at e
    split at e
    · simp only [Option.some.injEq, Prod.mk.injEq] at e
      obtain ⟨rfl, rfl⟩ := e
      have hargs : args' = #[] := by obtain ⟨l⟩ := args'; simp only at ra; cases ra; rfl
      subst hargs
      refine .inr (.inl ⟨f, #[], run_callFunc hf hn hb #[] w, (hk w).mono fun e w' hh => ?_⟩)
      obtain ⟨rfl, hbl⟩ := hh
      exact ⟨_, ρ, rfl, .bool _, Stp.of_below hr hbl⟩
    · simp at e
  · rw [if_neg hfk] at e
    exact h0 f args h v h' e ρ w args' hr (fun g hlt => hg g (Nat.lt_of_lt_of_le hlt hle)) ra
theorem Ret.extH {f : FuncId} {args : List Value} {h h' : Heap} {K : Value → Heap → Prop} {v : Value} (hx : E.ext f args h = some (some (v, h'))) (k : K v h') : Ret E (.func f) args h K :=
  ⟨1, v, h', by rw [callF, hx], k⟩
theorem Ret.ext {f : FuncId} {args : List Value} {h : Heap} {K : Value → Heap → Prop} {v : Value} (hx : E.ext f args h = some (some (v, h))) (k : K v h) : Ret E (.func f) args h K := Ret.extH hx k
end
end Go.Ev
