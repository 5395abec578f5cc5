/- THE EVALUATOR, part 'Lib3': a deterministic reading of the program's code over an abstract heap, and that the model does what it says. Conditions: none beyond each theorem's own. -/
import Derived.Test.YtfneaaapgpgdeaaDoorZLib2
set_option linter.unusedSimpArgs false
set_option linter.unusedVariables false
namespace Go.Ev
open Go.RowKit
section
variable {P : Program}
/-- a block of the world's that nobody looks at -/
theorem Stp.deadAt {ρ : Ren} {h : Heap} {w w' : World} {N : Nat} {o : Obj} (hr : HR P ρ h w) (hb : Below w.heap.size w w') (hN : w.heap.size ≤ N) (ho : w'.heap[N]? = some o) :
    Stp P ρ h w (ρ.upd h.n (N, 0)) (newBlk h .dead) w' := by
  have s := Stp.of_below hr hb
  have hr' := s.hr
  have hf := hr.fresh
  have hle : ρ.le (ρ.upd h.n (N, 0)) := Ren.le_upd _ hf
  refine ⟨hle, ⟨fun j b c e => ?_, fun j b c e => ?_, fun j l b c d e e' hn => ?_⟩, by simp [newBlk], fun j x e e0 => ?_, fun j hj _ => get_newBlk hj, s.os, s.tape, s.output, s.size, s.frame, fun j b c e hlt => ?_, fun j x e => ?_⟩
  · by_cases hj : j = h.n
    · subst hj; rw [Ren.upd_same] at e; cases e
      exact ⟨by simp [newBlk], (Array.getElem?_eq_some_iff.1 ho).1⟩
    · rw [Ren.upd_ne ρ _ hj] at e
      exact ⟨Nat.lt_succ_of_lt (hr'.dom j b c e).1, (hr'.dom j b c e).2⟩
  · by_cases hj : j = h.n
    · subst hj; rw [Ren.upd_same] at e; cases e
      exact ⟨.dead, o, newBlk_same _ _, ho, .dead o⟩
    · rw [Ren.upd_ne ρ _ hj] at e
      obtain ⟨k, o', e1, e2, e3⟩ := hr'.blk j b c e
      exact ⟨k, o', by rw [get_newBlk (hr'.dom j b c e).1]; exact e1, e2, e3.mono hle⟩
  · by_cases hj : j = h.n
    · subst hj; left; exact newBlk_same _ _
    · by_cases hl : l = h.n
      · subst hl; right; exact newBlk_same _ _
      · rw [Ren.upd_ne ρ _ hj] at e
        rw [Ren.upd_ne ρ _ hl] at e'
        rw [get_newBlk (hr'.dom j b c e).1, get_newBlk (hr'.dom l b d e').1]
        exact hr'.inj j l b c d e e' hn
  · by_cases hj : j = h.n
    · omega
    · rw [Ren.upd_ne ρ _ hj] at e; rw [e] at e0; cases e0
  · by_cases hj : j = h.n
    · subst hj; rw [Ren.upd_same] at e; cases e; omega
    · rw [Ren.upd_ne ρ _ hj] at e; exact ⟨j, c, e, .inl rfl⟩
  · have hj := (hr.dom j x.1 x.2 e).1
    rw [get_newBlk hj]
    intro _; rfl
/-- a function of the library that may leave a block behind at which nobody looks -/
def extDead (k : FuncId) (g : List Value → Heap → Option (Value × Bool)) (base : ExtT) (f : FuncId) (args : List Value) (h : Heap) : Option (Option (Value × Heap)) :=
  cond (Nat.beq f k) (some ((g args h).map fun x => (x.1, cond x.2 (newBlk h .dead) h))) (base f args h)
theorem extDead_ok {ng k : Nat} {g : List Value → Heap → Option (Value × Bool)} {base : ExtT} (h0 : ExtOK P (envOf P ng base)) {fn : Func} {c : Code} (hf : P.funcs[k]? = some fn) (hb : fn.body = some c) (hn : NamesOK P)
    (hk : ∀ args h v b, g args h = some (v, b) → ∀ (ρ : Ren) (w : World) (args' : Array Value), HR P ρ h w → (∀ i, i < ng → ∃ c, ρ i = some (i, c)) → VRL ρ args args'.toList →
      Calls P k args' w fun e w' => ∃ v', e = .returned v' ∧ Below w.heap.size w w' ∧ (b = true → ∃ N o, w.heap.size ≤ N ∧ w'.heap[N]? = some o ∧ VR (ρ.upd h.n (N, 0)) v v') ∧ (b = false → VR ρ v v')) :
    ExtOK P (envOf P ng (extDead k g base)) := by
  intro f args h v h' e ρ w args' hr hg ra
  simp only [envOf, extDead, cond_beq] at e
  by_cases hfk : f = k
  · subst hfk
    rw [if_pos rfl] at e
    simp only [Option.some.injEq, Option.map_eq_some_iff, Prod.mk.injEq] at e
    obtain ⟨⟨u, b⟩, e, rfl, rfl⟩ := e
    refine .inr (.inl ⟨f, args', run_callFunc hf hn hb args' w, (hk args _ _ _ e ρ w args' hr (fun i hi => hg i hi) ra).mono fun e w' hh => ?_⟩)
    obtain ⟨v', rfl, hbl, r1, r0⟩ := hh
    cases b with
    | true =>
      obtain ⟨N, o, hN, ho, r⟩ := r1 rfl
      exact ⟨v', _, rfl, r, Stp.deadAt hr hbl hN ho⟩
    | false => exact ⟨v', ρ, rfl, r0 rfl, Stp.of_below hr hbl⟩
  · rw [if_neg hfk] at e
    exact h0 f args h v h' e ρ w args' hr hg ra
theorem extDead_ret {E : Env} {k : FuncId} {g : List Value → Heap → Option (Value × Bool)} {base : ExtT} {args : List Value} {h : Heap} {K : Value → Heap → Prop} {v : Value} {b : Bool} (he : E.ext k args h = extDead k g base k args h) (hg : g args h = some (v, b)) (q : K v (cond b (newBlk h .dead) h)) : Ret E (.func k) args h K := by
  refine Ret.extH (v := v) (h' := cond b (newBlk h .dead) h) ?_ q
  rw [he]
  simp only [extDead, Nat.beq_refl, cond_true, hg, Option.map_some]
end
end Go.Ev
/-! the walks' rules, that prove their own conditions; unfolding by a definition's equation -/
namespace Go.Ev
theorem opsW_unf {E : Env} {fr : Fr} {h : Heap} {Q : Fr → Heap → Prop} {l l' : List GO} (e : l = l') : opsW E l fr h Q = opsW E l' fr h Q := by rw [e]
theorem planW_unf {E : Env} {fr : Fr} {h : Heap} {Q : Fr → Heap → Prop} {l l' : List (GO × List GO)} (e : l = l') : planW E l fr h Q = planW E l' fr h Q := by rw [e]
theorem wp_unf {E : Env} {nt : Nat} {rd : Option Nat} {fr : Fr} {h : Heap} {Q : Ex → Fr → Heap → Prop} {c c' : GC} (e : c = c') : c.wp E nt rd fr h Q = c'.wp E nt rd fr h Q := by rw [e]
theorem y1 {p A B : Prop} (a : A) (hp : p) : brK p A B := brK_yes hp a
theorem y2 {p A B : Prop} (b : B) (hp : ¬ p) : brK p A B := brK_no hp b
theorem y3 {p A B : Prop} (a : p → A) (b : ¬ p → B) : brK p A B := brK_both a b
theorem y4 {p q A : Prop} (a : A) (hp : p) (hq : q) : (p ∧ q) ∧ A := ⟨⟨hp, hq⟩, a⟩
theorem y5 {p A : Prop} (a : A) (hp : p) : p ∧ A := ⟨hp, a⟩
theorem y6 {l : List Value} {A : Prop} (a : A) (hp : l.all oneCell = true) : l.all oneCell = true ∧ A := ⟨hp, a⟩
theorem y7 {n : Nat} {cs l : List Value} {e : TypeId} {b : Bool} {h : Heap} {K : Value → Heap → Prop} (k : K undef (newBlk h (.cells l e b))) (hc : (Nat.beq l.length n && Nat.beq cs.length n && l.all oneCell && !Nat.beq n 0) = true) :
    stK n (.pointer (some ⟨h.n, 0, none⟩)) (.agg ⟨l⟩) (newBlk h (.cells cs e b)) K := st_newM hc k
theorem y8 {e : TypeId} {sz : Nat} {zs : List Value} {v : Value} {h : Heap} {K : Value → Heap → Prop} (k : K (.slice (some ⟨h.n, 0, none⟩) 1 1) (newBlk h (.cells v.cells.toList e true))) (hc : (Nat.beq v.cells.toList.length sz && Nat.beq zs.length sz && !Nat.beq sz 0) = true) : bsK e sz zs 1 [(0, v)] h K := bs_oneM hc k
theorem y9 {zs l : List Value} {pl : List (Nat × Nat)} {ps : List (Nat × Value)} {K : Value → Prop} (k : K (.agg ⟨l⟩)) (hf : fillL (nth pl) zs ps = some l) : bdK zs pl ps K := bd_of hf k
theorem ya {zs l : List Value} {sz : Nat} {ps : List (Nat × Value)} {K : Value → Prop} (k : K (.agg ⟨l⟩)) (hf : fillL (fun i => some (i * sz, sz)) zs ps = some l) : bdaK zs sz ps K := bda_of hf k
end Go.Ev
