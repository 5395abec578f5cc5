/- THE EVALUATOR, part 'Lib4': a deterministic reading of the program's code over an abstract heap, and that the model does what it says. Conditions: none beyond each theorem's own. -/
import Derived.Test.YtfneaaapgpgdeaaDoorZQuiet
set_option linter.unusedSimpArgs false
set_option linter.unusedVariables false
namespace Go.Ev
open Go.RowKit
section
variable {P : Program}
/-! a builder's own check: its first cell holds its own pointer behind it -/
def ccG (args : List Value) (h : Heap) : Option (Value × Heap) :=
  match args with
  | [.pointer (some ⟨i, 0, none⟩)] =>
    match h.b.get i with
    | some (.cells [p, q] e true) => cond (Nat.blt i h.n) (match p with
      | .pointer none => some (.tuple #[], { h with b := h.b.set i (.cells [.pointer (some ⟨i, 0, none⟩), q] e true) })
      | .pointer (some ⟨j, 0, none⟩) => cond (Nat.beq i j) (some (.tuple #[], h)) none
      | _ => none) none
    | _ => none
  | _ => none
def extCc (k : FuncId) (el : TypeId) (base : ExtT) (f : FuncId) (args : List Value) (h : Heap) : Option (Option (Value × Heap)) :=
  cond (Nat.beq f k) (some (match args with
    | [.pointer (some ⟨i, 0, none⟩)] => match h.b.get i with
      | some (.cells _ e _) => cond (Nat.beq e el) (ccG args h) none
      | _ => none
    | _ => none)) (base f args h)
theorem extCc_ok {ng k : Nat} {el : TypeId} {base : ExtT} (h0 : ExtOK P (envOf P ng base)) {fn : Func} {c : Code} (hf : P.funcs[k]? = some fn) (hb : fn.body = some c) (hn : NamesOK P)
    (hu : ∀ (b : Nat) (w : World), w.cell? ⟨b, 0, none⟩ = some (.pointer (some ⟨b, 0, none⟩)) → Calls P k #[.pointer (some ⟨b, 0, none⟩)] w fun e w' => e = .returned (.tuple #[]) ∧ w' = w)
    (hfr : ∀ (b : Nat) (w : World), w.cell? ⟨b, 0, none⟩ = some (.pointer none) → w.shape? b = some (el, 2) → w.frozen? ⟨b, 0, none⟩ = false → Calls P k #[.pointer (some ⟨b, 0, none⟩)] w fun e w' => e = .returned (.tuple #[]) ∧ w' = w.setCell ⟨b, 0, none⟩ (.pointer (some ⟨b, 0, none⟩))) :
    ExtOK P (envOf P ng (extCc k el base)) := by
  intro f args h v h' e ρ w args' hr hg ra
  simp only [envOf, extCc, cond_beq] at e
  by_cases hfk : f = k
  · subst hfk
    rw [if_pos rfl] at e
    simp only [Option.some.injEq] at e
    split at e
    · rename_i i
      split at e
      · rename_i cs e' ex hbk
        by_cases hee : e' = el
        case neg => rw [if_neg hee] at e; cases e
        subst hee
        rw [if_pos rfl] at e
        unfold ccG at e
        simp only [hbk] at e
        split at e
        · rename_i p q e2 heq
          simp only [Option.some.injEq, Blk.cells.injEq] at heq
          obtain ⟨rfl, rfl, rfl⟩ := heq
          cases hlt : Nat.blt i h.n with
          | false => rw [hlt] at e; cases e
          | true =>
            rw [hlt, cond_true] at e
            obtain ⟨args'⟩ := args'
            simp only at ra
            cases ra with
            | cons r1 t => cases r1 with
              | @ptr _ b c _ hi => cases t with
                | nil =>
                  obtain ⟨kb, o, k1, k2, k3⟩ := hr.blk _ _ _ hi
                  rw [hbk] at k1
                  cases k1
                  cases k3 with
                  | cells _ xs _ _ hcell hsz =>
                    simp only [if_true] at hsz
                    have hsz2 : xs.size = 2 := hsz
                    obtain ⟨p', hp0, rp⟩ := hcell 0 p rfl
                    obtain ⟨q', hq0, rq⟩ := hcell 1 q rfl
                    have hc0 : w.cell? ⟨b, 0, none⟩ = some p' := by simp [World.cell?, k2, hp0]
                    split at e
                    · simp only [Option.some.injEq, Prod.mk.injEq] at e
                      obtain ⟨rfl, rfl⟩ := e
                      cases rp
                      refine .inr (.inl ⟨f, #[.pointer (some ⟨b, 0, none⟩)], run_callFunc hf hn hb _ w, (hfr b w hc0 (by simp [World.shape?, k2, hsz2]) (by simp [World.frozen?, k2])).mono fun e w' hh => ?_⟩)
                      obtain ⟨rfl, rfl⟩ := hh
                      refine ⟨_, ρ, rfl, .tuple _ _ .nil, ?_⟩
                      have hblt : b < w.heap.size := (Array.getElem?_eq_some_iff.1 k2).1
                      refine Stp.write (o' := .cells (xs.setIfInBounds 0 (.pointer (some ⟨b, 0, none⟩))) e' (0, 0)) hr hi hbk ?_ ?_ ?_ ?_ ?_ rfl rfl rfl
                      · simp [soft]
                      · refine .cells _ _ _ _ (fun j v hj => ?_) (by simp [hsz2])
                        match j, hj with
                        | 0, hj =>
                          simp only [List.getElem?_cons_zero, Option.some.injEq] at hj
                          subst hj
                          exact ⟨_, by simp [Array.getElem?_setIfInBounds, hsz2], .ptr _ hi⟩
                        | 1, hj =>
                          simp only [List.getElem?_cons_succ, List.getElem?_cons_zero, Option.some.injEq] at hj
                          subst hj
                          exact ⟨_, by simp [Array.getElem?_setIfInBounds, hq0], rq⟩
                        | j + 2, hj => simp at hj
                      · simp [World.setCell]
                      · simp [World.setCell, Array.getElem?_modify, k2]
                      · intro j hj; simp [World.setCell, Array.getElem?_modify, Ne.symm hj]
                    · rename_i j
                      by_cases hij : i = j
                      case neg => rw [cond_beq, if_neg hij] at e; cases e
                      subst hij
                      rw [cond_beq, if_pos rfl] at e
                      simp only [Option.some.injEq, Prod.mk.injEq] at e
                      obtain ⟨rfl, rfl⟩ := e
                      cases rp with
                      | @ptr _ b2 c2 _ hi2 =>
                        rw [hi] at hi2
                        cases hi2
                        refine .inr (.inl ⟨f, #[.pointer (some ⟨b, 0, none⟩)], run_callFunc hf hn hb _ w, (hu b w hc0).mono fun e w' hh => ?_⟩)
                        obtain ⟨rfl, rfl⟩ := hh
                        exact ⟨_, ρ, rfl, .tuple _ _ .nil, Stp.refl hr⟩
                    · cases e
        · cases e
      · cases e
    · cases e
  · rw [if_neg hfk] at e
    exact h0 f args h v h' e ρ w args' hr hg ra
/-! a function that makes one block -/
def extNew (k : FuncId) (g : List Value → Heap → Option (Value × Blk)) (base : ExtT) (f : FuncId) (args : List Value) (h : Heap) : Option (Option (Value × Heap)) :=
  cond (Nat.beq f k) (some ((g args h).map fun x => (x.1, newBlk h x.2))) (base f args h)
theorem extNew_ok {ng k : Nat} {g : List Value → Heap → Option (Value × Blk)} {base : ExtT} (h0 : ExtOK P (envOf P ng base)) {fn : Func} {c : Code} (hf : P.funcs[k]? = some fn) (hb : fn.body = some c) (hn : NamesOK P)
    (hk : ∀ args h v bk, g args h = some (v, bk) → ∀ (ρ : Ren) (w : World) (args' : Array Value), HR P ρ h w → (∀ i, i < ng → ∃ c, ρ i = some (i, c)) → VRL ρ args args'.toList →
      Calls P k args' w fun e w' => ∃ v' o, e = .returned v' ∧ w' = w.alloc o ∧ VR (ρ.upd h.n (w.heap.size, 0)) v v' ∧ BR P ρ 0 bk o) :
    ExtOK P (envOf P ng (extNew k g base)) := by
  intro f args h v h' e ρ w args' hr hg ra
  simp only [envOf, extNew, cond_beq] at e
  by_cases hfk : f = k
  · subst hfk
    rw [if_pos rfl] at e
    simp only [Option.some.injEq, Option.map_eq_some_iff, Prod.mk.injEq] at e
    obtain ⟨⟨u, bk⟩, e, rfl, rfl⟩ := e
    refine .inr (.inl ⟨f, args', run_callFunc hf hn hb args' w, (hk args _ _ _ e ρ w args' hr (fun i hi => hg i hi) ra).mono fun e w' hh => ?_⟩)
    obtain ⟨v', o, rfl, rfl, r, hbr⟩ := hh
    exact ⟨v', _, rfl, r, Stp.alloc hr hbr rfl rfl rfl rfl⟩
  · rw [if_neg hfk] at e
    exact h0 f args h v h' e ρ w args' hr hg ra
end
end Go.Ev
