/- THE EVALUATOR, part 'Step': a deterministic reading of the program's code over an abstract heap, and that the model does what it says. Conditions: none beyond each theorem's own. -/
import Derived.Test.YtfneaaapgpgdeaaDoorZAct5
import Derived.Calls
import Derived.Scope
import Derived.LoopN
import Derived.OrdersIn
import Derived.RangeFuncIn
import Derived.RangeFuncRecord
import Derived.RangeFuncCalls
set_option linter.unusedSimpArgs false
set_option linter.unusedVariables false
namespace Go.Ev
section
variable {P : Program} {E : Env} {ρ : Ren} {h : Heap} {w : World}

def GR (E : Env) (ρ : Ren) : Prop := ∀ g, g < E.ng → ∃ c, ρ g = some (g, c)
theorem GR.mono {ρ' : Ren} (hg : GR E ρ) (hle : ρ.le ρ') : GR E ρ' := fun g hlt => let ⟨c, e⟩ := hg g hlt; ⟨c, hle _ _ e⟩
theorem FR.mono {ρ' : Ren} {fr : Fr} {a : Act} (hf : FR E ρ fr a) (hle : ρ.le ρ') : FR E ρ' fr a :=
  ⟨GR.mono hf.glob hle, fun t v e => (hf.tmp t v e).mono hle⟩

/-- the fences of this walk: none, in a function's frame or in a round's -/
structure FOK (F : Fence) : Prop where
  fn : ∀ f, F.fn f
  depth : F.depth = none
  calls : ∀ (n : Nat) (P : Program) (f : FuncId) (args : Array Value) (w : World) (R : Ending → World → Prop), Calls P f args w R → CallsIn F n P f args w R
  rounds : ∀ (n : Nat) (P : Program) (l : Nat) (f : FuncId) (tmps : Array Value) (assign body : Code) (w : World) (R : Ending → World → Prop), RoundIn Fence.wide n P l f tmps assign body w R → RoundIn F n P l f tmps assign body w R
theorem fokWide : FOK Fence.wide := ⟨fun _ => trivial, rfl, fun _ _ _ _ _ _ h => callsIn_wide.2 h, fun _ _ _ _ _ _ _ _ _ h => h⟩
theorem fokRound (l : Nat) : FOK (Fence.wide.inRound l) := ⟨fun _ => trivial, rfl, fun _ _ _ _ _ _ h => CallsIn.inRound l (callsIn_wide.2 h), fun _ _ _ _ _ _ _ _ _ h => h⟩

inductive FnR (ρ : Ren) : Fn → Fn → Prop
  | func (f : FuncId) : FnR ρ (.func f) (.func f)
  | yield {i b c : Nat} (h : ρ i = some (b, c)) : FnR ρ (.yield i) (.yield b)

def semOf : Fn → Array Value → Sem Next
  | .func f, args => callFunc f args
  | .yield l, args => Instr.yield l args
  | _, _ => pure .skip

def EndOK (P : Program) (ρ : Ren) (h : Heap) (w : World) (v : Value) (h' : Heap) (e : Ending) (w' : World) : Prop :=
  ∃ v' ρ', e = .returned v' ∧ VR ρ' v v' ∧ Stp P ρ h w ρ' h' w'

def CallOK (P : Program) (ρ : Ren) (h : Heap) (w : World) (fn' : Fn) (args' : Array Value) (v : Value) (h' : Heap) : Prop :=
  ActOK P ρ h w (semOf fn' args') v h' ∨
  (∃ f as, (semOf fn' args').run P w = .ok (.enter f as) w ∧ Calls P f as w (EndOK P ρ h w v h')) ∨
  (∃ l f tmps assign body, (semOf fn' args').run P w = .ok (.round l f tmps assign body) w ∧ ∀ n, RoundIn Fence.wide n P l f tmps assign body w (EndOK P ρ h w v h'))

def CallSound (P : Program) (E : Env) (call : Fn → List Value → Heap → Option (Value × Heap)) : Prop :=
  ∀ fn args h v h', call fn args h = some (v, h') → ∀ (ρ : Ren) (w : World) (fn' : Fn) (args' : Array Value), HR P ρ h w → GR E ρ → FnR ρ fn fn' → VRL ρ args args'.toList → CallOK P ρ h w fn' args' v h'

theorem upon_of_ok {F : Fence} {n : Nat} {o : Oper} {a : Act} {s : Sem Next} {v : Value} {h' : Heap} {K : Act → World → Prop} {Q : Exit → Act → World → Prop}
    (hok : ActOK P ρ h w s v h') (k : ∀ v' ρ' w', VR ρ' v v' → Stp P ρ h w ρ' h' w' → K (a.put o.dst v') w') : o.uponIn F n P a K Q (s.run P w) := by
  obtain ⟨n, v', ρ', w', hrun, hn, r, hs⟩ := hok
  rw [hrun]
  have := k v' ρ' w' r hs
  cases n <;> simp [nval] at hn <;> subst hn <;> exact this

theorem wp_of_upon {F : Fence} {n : Nat} (hF : FOK F) {o : Oper} {a : Act} {K : Act → World → Prop} {Q : Exit → Act → World → Prop} (hd : ∀ c, o.op ≠ .defer c)
    (k : o.uponIn F n P a K Q ((execOp a.eval o).run P w)) : o.wpIn F n P a w K Q := by
  refine ⟨fun f _ => hF.fn f, ?_⟩
  rw [Oper.semAt_eq F.round a.eval o hd]
  exact k
theorem wp_of_ok {F : Fence} {n : Nat} (hF : FOK F) {o : Oper} {a : Act} {nx : Next} {v' : Value} {w' : World} {K : Act → World → Prop} {Q : Exit → Act → World → Prop} (hd : ∀ c, o.op ≠ .defer c)
    (hrun : (execOp a.eval o).run P w = .ok nx w') (hn : nval nx = some v') (k : K (a.put o.dst v') w') : o.wpIn F n P a w K Q := by
  refine wp_of_upon hF hd ?_
  rw [hrun]
  cases nx <;> simp [nval] at hn <;> subst hn <;> exact k

theorem target_sim {fr : Fr} {a : Act} {c : Call} {ty : TypeId} {f : Fn} {args : List Value} (hf : FR E ρ fr a) (e : target E fr c = some (f, args)) :
    ∃ (fn' : Fn) (args' : Array Value), FnR ρ f fn' ∧ VRL ρ args args'.toList ∧ ∀ w : World, ((resolve a.eval c ty).run P w).andThen (fun d w => (invoke d.target d.args).run P w) = (semOf fn' args').run P w := by
  unfold target at e
  split at e
  · cases e
  rename_i args0 hargs
  split at e
  · rename_i g hcal
    have rargs : VRL ρ args0 (c.args.map a.eval).toList := by
      have := evs_sim hf hargs
      simpa using this
    split at e
    · rename_i fn first cap hfv
      cases e
      have r := ev_sim hf hfv
      generalize hge : a.eval g = gv at r
      cases r with
      | func _ _ _ first' cap' _ r1 r2 =>
        refine ⟨.func fn, first' ++ c.args.map a.eval ++ cap', .func fn, ?_, fun w => ?_⟩
        · simp only [Array.toList_append]
          exact (r1.append rargs).append r2
        · simp [resolve, hcal, hge, Deferred.ofValue, invoke, semOf]
    · rename_i l first cap hfv
      cases e
      have r := ev_sim hf hfv
      generalize hge : a.eval g = gv at r
      cases r with
      | func _ _ _ _ _ hy _ _ => cases hy
      | @yield _ b _ hi =>
        refine ⟨.yield b, c.args.map a.eval, .yield hi, rargs, fun w => ?_⟩
        simp [resolve, hcal, hge, Deferred.ofValue, invoke, semOf]
    · cases e
  · cases e

theorem opBy_defer {call : Fn → List Value → Heap → Option (Value × Heap)} {fr : Fr} {o : Oper} {p : Value × Heap} (e : opBy E call fr o h = some p) : ∀ c, o.op ≠ .defer c := by
  intro c hc
  unfold opBy at e
  have hk : kindOf E o.op = .act := by rw [hc]; rfl
  rw [hk] at e
  simp [hc, actOp] at e

theorem Stp.ofBelow {w' : World} (hr : HR P ρ h w) (hb : RowKit.Below w.heap.size w w') : Stp P ρ h w ρ h w' where
  le := Ren.le_refl _
  hr := {
    dom := fun i b c e => ⟨(hr.dom i b c e).1, Nat.lt_of_lt_of_le (hr.dom i b c e).2 hb.size⟩
    blk := fun i b c e => by
      obtain ⟨k, o, e1, e2, e3⟩ := hr.blk i b c e
      exact ⟨k, o, e1, by rw [hb.block b (hr.dom i b c e).2]; exact e2, e3⟩
    inj := hr.inj }
  n := Nat.le_refl _
  new i x e e0 := by rw [e] at e0; cases e0
  keep _ _ _ := rfl
  os := hb.os
  tape := hb.tape
  output := hb.output
  size := hb.size
  frame b hlt _ := hb.block b hlt
  img i b c e _ := ⟨i, c, e, .inl rfl⟩
  stays _ _ _ _ := rfl

/-- a call of a function that leaves memory alone -/
theorem qcall_wp (hE : EnvOK P E) {F : Fence} {n : Nat} (hF : FOK F) {fr : Fr} {a : Act} {o : Oper} {c : Call} {v : Value} (ho : o.op = .call c) (hf : FR E ρ fr a) (hr : HR P ρ h w) (e : qcall E fr c = some v)
    {K : Act → World → Prop} {Q : Exit → Act → World → Prop} (k : ∀ v' w', VR ρ v v' → Stp P ρ h w ρ h w' → K (a.put o.dst v') w') : o.wpIn F n P a w K Q := by
  refine wp_of_upon hF (fun c' hc' => by rw [ho] at hc'; cases hc') ?_
  unfold qcall at e
  split at e
  · rename_i f hcal
    cases hq : E.qf f with
    | false => rw [hq] at e; cases e
    | true =>
      rw [hq, cond_true] at e
      split at e
      · rename_i l hl
        have ht : target E fr c = some (.func f, l) := by
          unfold evs at hl
          simp only [target, hl, hcal, ev]
          simp
        obtain ⟨fn', args', rfn, rargs, hrun⟩ := target_sim (P := P) (ty := o.type) hf ht
        have hex : (execOp a.eval o).run P w = (semOf fn' args').run P w := by
          simp only [execOp, ho]
          rw [← hrun w]
          simp [Sem.run_bind]
        rw [hex]
        cases rfn
        obtain ⟨h1, h2⟩ := hE.qc f l v hq e ρ w args' rargs
        have h1' : (semOf (.func f) args').run P w = .ok (.enter f args') w := h1
        rw [h1']
        refine ⟨fun hdep => (by rw [hF.depth] at hdep; cases hdep), CallsIn.mono (hF.calls _ _ _ _ _ _ h2) fun e w' hh => ?_⟩
        obtain ⟨v', rfl, r, hs⟩ := hh
        exact k v' w' r (Stp.ofBelow hr hs)
      · cases e
  · cases e

theorem op_sim (hE : EnvOK P E) {F : Fence} {n : Nat} (hF : FOK F) {call : Fn → List Value → Heap → Option (Value × Heap)} (hc : CallSound P E call) {fr : Fr} {a : Act} {o : Oper} {v : Value} {h' : Heap}
    (hf : FR E ρ fr a) (hr : HR P ρ h w) (e : opBy E call fr o h = some (v, h')) {K : Act → World → Prop} {Q : Exit → Act → World → Prop}
    (k : ∀ v' ρ' w', VR ρ' v v' → Stp P ρ h w ρ' h' w' → K (a.put o.dst v') w') : o.wpIn F n P a w K Q := by
  have hnd := opBy_defer e
  unfold opBy at e
  split at e
  · simp only [Option.map_eq_some_iff, Prod.mk.injEq] at e
    obtain ⟨u, e, rfl, rfl⟩ := e
    rcases val_sim hE hf e w with ⟨v', n, hrun, r⟩ | ⟨c, ho, hq⟩
    · exact wp_of_ok hF hnd hrun rfl (k v' ρ _ r (Stp.draw hr n))
    · exact qcall_wp hE hF ho hf hr hq fun v' w' r hs => k v' ρ w' r hs
  · simp only [Option.map_eq_some_iff, Prod.mk.injEq] at e
    obtain ⟨u, e, rfl, rfl⟩ := e
    obtain ⟨v', hrun, r⟩ := read_sim hE hf hr e
    exact wp_of_ok hF hnd hrun rfl (k v' ρ w r (Stp.refl hr))
  · simp only [Option.map_eq_some_iff, Prod.mk.injEq] at e
    obtain ⟨⟨bk, mk⟩, e, rfl, rfl⟩ := e
    obtain ⟨obj, mk', hrun, hb, hd, hv⟩ := alloc_sim hE hf e
    refine wp_of_ok hF hnd (hrun w) rfl (k _ (ρ.upd h.n (w.heap.size, 0)) _ (hv _ _ _ (Ren.upd_same _ _ _)) ?_)
    exact Stp.alloc hr hb rfl rfl rfl rfl
  · refine wp_of_upon hF hnd ?_
    split at e
    · rename_i c ho
      split at e
      · exact upon_of_ok (act_sim hE hf hr e) k
      · split at e
        · rename_i f args ht
          obtain ⟨fn', args', rfn, rargs, hrun⟩ := target_sim (P := P) (ty := o.type) hf ht
          have hex : (execOp a.eval o).run P w = (semOf fn' args').run P w := by
            simp only [execOp, ho]
            rw [← hrun w]
            simp [Sem.run_bind]
          rw [hex]
          rcases hc f args h v h' e ρ w fn' args' hr hf.glob rfn rargs with hok | ⟨g, as, h1, h2⟩ | ⟨l, g, tmps, as, bd, h1, h2⟩
          · exact upon_of_ok hok k
          · rw [h1]
            refine ⟨fun hdep => (by rw [hF.depth] at hdep; cases hdep), CallsIn.mono (hF.calls _ _ _ _ _ _ h2) fun e w' hh => ?_⟩
            obtain ⟨v', ρ', rfl, r, hs⟩ := hh
            exact k v' ρ' w' r hs
          · rw [h1]
            refine ⟨fun hdep => (by rw [hF.depth] at hdep; cases hdep), RoundIn.mono (hF.rounds _ _ _ _ _ _ _ _ _ (h2 _)) fun e w' hh => ?_⟩
            obtain ⟨v', ρ', rfl, r, hs⟩ := hh
            exact k v' ρ' w' r hs
        · cases e
    · exact upon_of_ok (act_sim hE hf hr e) k

theorem getD_put {a : Act} {d : Nat} {v : Value} (hd : d < a.tmps.size) (t : Nat) : (a.put (some d) v).tmps.getD t undef = if d = t then v else a.tmps.getD t undef := by
  simp only [Act.put, Array.getD_eq_getD_getElem?, Array.getElem?_setIfInBounds]
  by_cases h : d = t
  · subst h; simp [hd]
  · simp [h]
theorem put_size (a : Act) (o : Option Tmp) (v : Value) : (a.put o v).tmps.size = a.tmps.size := by cases o <;> simp [Act.put]
theorem put_defers (a : Act) (o : Option Tmp) (v : Value) : (a.put o v).defers = a.defers := by cases o <;> simp [Act.put]

theorem FR.put {fr fr' : Fr} {a : Act} {o : Oper} {v v' : Value} {nt : Nat} (hf : FR E ρ fr a) (hnt : a.tmps.size = nt) (r : VR ρ v v') (e : put nt fr o v = some fr') : FR E ρ fr' (a.put o.dst v') := by
  unfold Ev.put at e
  split at e
  · rename_i d hd
    rw [blt_eq] at e
    by_cases hlt : d < nt
    · simp only [hlt, decide_true, cond_true] at e; cases e
      refine ⟨hf.glob, fun t u hu => ?_⟩
      rw [T.get_set] at hu
      rw [hd, getD_put (by rw [hnt]; exact hlt)]
      by_cases h : d = t
      · rw [if_pos h] at hu ⊢; cases hu; exact r
      · rw [if_neg h] at hu ⊢; exact hf.tmp t u hu
    · simp [hlt] at e
  · rename_i hd
    cases e
    rw [hd]
    exact hf

theorem wanted_sim {fr : Fr} {a : Act} {ops : Array Oper} {o : Oper} {b : Bool} (hf : FR E ρ fr a) (e : wantedA ops.toList fr o = some b) :
    Region.wanted o (yielded ops a.tmps) = b := by
  unfold wantedA at e
  split at e
  · rename_i hg; cases e; simp [Region.wanted, hg]
  · rename_i j wnt hg
    rw [nth_eq, Array.getElem?_toList] at e
    simp only [Region.wanted, hg, yielded]
    cases hd : (ops[j]?).bind (·.dst) with
    | none => simp only [hd] at e; cases e; rfl
    | some d =>
      simp only [hd] at e
      simp only [Option.bind_some]
      have hno : ∀ v, VR ρ v (a.tmps.getD d undef) → (∀ b, v ≠ .bool b) → ∀ b, a.tmps[d]? ≠ some (.bool b) := by
        intro v r hv b hb
        rw [Array.getD_eq_getD_getElem?, hb] at r
        simp only [Option.getD_some] at r
        cases r
        exact absurd rfl (hv _)
      split at e
      · rename_i b' hb
        cases e
        have ht := hf.tmp d _ hb
        simp only [Array.getD_eq_getD_getElem?] at ht
        cases hx : a.tmps[d]? with
        | none => rw [hx] at ht; cases ht
        | some u => rw [hx] at ht; simp only [Option.getD_some] at ht; cases ht; cases b' <;> cases wnt <;> rfl
      · rename_i u hu hb
        cases e
        have hno := hno _ (hf.tmp d u hb) (fun b' hb' => hu b' hb')
        split
        · rename_i b' hb'; exact absurd hb' (hno b')
        · rfl
      · cases e

/-- the marks of an activation: the blocks for its rounds' deferred calls, all empty; and deferred calls that do nothing -/
structure DR (P : Program) (B : Nat) (ρ : Ren) (w : World) (ds : List Deferred) : Prop where
  nd : ds.Pairwise fun d d' => ∀ D, d = { target := .collected D, args := #[] } → d' ≠ { target := .collected D, args := #[] }
  each : ∀ d ∈ ds, (∃ D, d = { target := .collected D, args := #[] } ∧ B ≤ D ∧ w.heap[D]? = some (.deferred (some [])) ∧ ∀ i c, ρ i ≠ some (D, c)) ∨
    ∃ f cap args, d = { target := .fn (.func f) cap, args := args } ∧ HarmD P f
theorem DR.nil (P : Program) (B : Nat) (ρ : Ren) (w : World) : DR P B ρ w [] := ⟨.nil, fun d hd => by cases hd⟩
theorem DR.step {B : Nat} {ρ' : Ren} {h' : Heap} {w' : World} {ds : List Deferred} (hd : DR P B ρ w ds) (hs : Stp P ρ h w ρ' h' w') : DR P B ρ' w' ds := by
  refine ⟨hd.nd, fun d hm => ?_⟩
  rcases hd.each d hm with ⟨D, e, hB, hD, hi⟩ | hh
  · have hlt := (Array.getElem?_eq_some_iff.1 hD).1
    refine .inl ⟨D, e, hB, by rw [hs.frame D hlt fun i c e => absurd e (hi i c)]; exact hD, fun i c hh => ?_⟩
    obtain ⟨j, d', hj, _⟩ := hs.img i D c hh hlt
    exact hi j d' hj
  · exact .inr hh
/-- one that does nothing is laid -/
theorem DR.lay {B : Nat} {ds : List Deferred} (hd : DR P B ρ w ds) {f : FuncId} (hf : HarmD P f) (cap args : Array Value) : DR P B ρ w ({ target := .fn (.func f) cap, args := args } :: ds) := by
  refine ⟨.cons (fun d _ D e => by cases e) hd.nd, fun d hm => ?_⟩
  rcases List.mem_cons.1 hm with rfl | hm
  · exact .inr ⟨f, cap, args, rfl, hf⟩
  · exact hd.each d hm

/-- behind a piece of code: the frame, the heaps -/
def After (B : Nat) (P : Program) (E : Env) (ρ : Ren) (h : Heap) (w : World) (nt : Nat) (fr' : Fr) (h' : Heap) (a' : Act) (w' : World) : Prop :=
  ∃ ρ', FR E ρ' fr' a' ∧ Stp P ρ h w ρ' h' w' ∧ a'.tmps.size = nt ∧ DR P B ρ' w' a'.defers

theorem step_sim (hE : EnvOK P E) {B : Nat} {F : Fence} {n : Nat} (hF : FOK F) {call : Fn → List Value → Heap → Option (Value × Heap)} (hc : CallSound P E call) {ops : Array Oper} {i : Nat} {fr fr' : Fr} {a : Act} {o : Oper} {h' : Heap} {nt : Nat}
    (hi : ops[i]? = some o) (hf : FR E ρ fr a) (hr : HR P ρ h w) (hnt : a.tmps.size = nt) (hd : DR P B ρ w a.defers) (e : step E call nt ops.toList fr o h = some (fr', h')) {K : Act → World → Prop} {Q : Exit → Act → World → Prop}
    (k : ∀ a' w', After B P E ρ h w nt fr' h' a' w' → K a' w') : wpOpIn F n P ops Q i K a w := by
  unfold step at e
  unfold wpOpIn
  simp only [hi]
  split at e
  · cases e
  · rename_i hw
    simp only [Option.map_eq_some_iff, Prod.mk.injEq] at e
    obtain ⟨f, e, rfl, rfl⟩ := e
    rw [wanted_sim hf hw, if_neg (by simp)]
    exact ⟨fun f _ => hF.fn f, k _ _ ⟨ρ, FR.put hf hnt (VR.undef ρ) e, Stp.refl hr, by rw [put_size]; exact hnt, by rw [put_defers]; exact hd⟩⟩
  · rename_i hw
    rw [wanted_sim hf hw, if_pos rfl]
    split at e
    · rename_i p hp
      obtain ⟨v, h2⟩ := p
      simp only [Option.map_eq_some_iff, Prod.mk.injEq] at e
      obtain ⟨f, e, rfl, rfl⟩ := e
      exact op_sim hE hF hc hf hr hp fun v' ρ' w' r hs => k _ _ ⟨ρ', FR.put (hf.mono hs.le) hnt r e, hs, by rw [put_size]; exact hnt, by rw [put_defers]; exact hd.step hs⟩
    · cases e

theorem After.trans {B : Nat} {ρ' : Ren} {nt : Nat} {fr' : Fr} {h₁ h' : Heap} {a' : Act} {w₁ w' : World} (hs : Stp P ρ h w ρ' h₁ w₁) (b : After B P E ρ' h₁ w₁ nt fr' h' a' w') : After B P E ρ h w nt fr' h' a' w' := by
  obtain ⟨ρ2, h1, h2, h3⟩ := b
  exact ⟨ρ2, h1, hs.trans h2, h3⟩

theorem text_sim (hE : EnvOK P E) {B : Nat} {F : Fence} {n : Nat} (hF : FOK F) {call : Fn → List Value → Heap → Option (Value × Heap)} (hc : CallSound P E call) {ops : Array Oper} {nt : Nat} {Q : Exit → Act → World → Prop} :
    ∀ (l : List Oper) (j : Nat) (ρ : Ren) (fr fr' : Fr) (a : Act) (h h' : Heap) (w : World), (∀ i, l[i]? = ops[j + i]?) → FR E ρ fr a → HR P ρ h w → a.tmps.size = nt → DR P B ρ w a.defers →
      stepsText E call nt ops.toList l fr h = some (fr', h') → (∀ a' w', After B P E ρ h w nt fr' h' a' w' → Q .normal a' w') → wpOpsIn F n P ops Q (List.range' j l.length) a w
  | [], j, ρ, fr, fr', a, h, h', w, _, hf, hr, hnt, hd, e, k => by
    simp only [stepsText, Option.some.injEq, Prod.mk.injEq] at e
    obtain ⟨rfl, rfl⟩ := e
    exact k a w ⟨ρ, hf, Stp.refl hr, hnt, hd⟩
  | o :: l, j, ρ, fr, fr', a, h, h', w, hl, hf, hr, hnt, hd, e, k => by
    simp only [stepsText] at e
    split at e
    · rename_i fr1 h1 hst
      rw [List.length_cons, List.range'_succ, wpOpsIn_cons]
      refine step_sim hE hF hc (by have := hl 0; simpa using this.symm) hf hr hnt hd hst fun a' w' ha => ?_
      obtain ⟨ρ', hf', hs, hnt', hd'⟩ := ha
      refine text_sim hE hF hc l (j + 1) ρ' fr1 fr' a' h1 h' w' (fun i => by have := hl (i + 1); simp only [List.getElem?_cons_succ] at this; rw [this]; congr 1; omega) hf' hs.hr hnt' hd' e fun a2 w2 ha => k a2 w2 (ha.trans hs)
    · cases e

theorem callNone : CallSound P E fun _ _ _ => none := fun fn args h v h' e => by cases e

theorem isDefer_some {o : Oper} (h : isDefer o = true) : ∃ c, o.op = .defer c := by
  unfold isDefer at h
  split at h
  · rename_i c hc; exact ⟨c, hc⟩
  · cases h

/-- whom a deferred call will call -/
theorem resolve_sim {fr : Fr} {a : Act} {c : Call} {t : TypeId} {g : FuncId} {args : List Value} (hf : FR E ρ fr a) (e : target E fr c = some (.func g, args)) :
    ∃ cap as, (resolve a.eval c t).run P w = .ok { target := .fn (.func g) cap, args := as } w := by
  unfold target at e
  split at e
  · cases e
  · split at e
    · rename_i f hcal
      split at e
      · rename_i g' first cap hv
        simp only [Option.some.injEq, Prod.mk.injEq, Fn.func.injEq] at e
        obtain ⟨rfl, _⟩ := e
        have r := ev_sim hf hv
        generalize hce : a.eval f = u at r
        cases r with
        | func _ _ _ first' cap' _ r1 r2 =>
          refine ⟨cap', first' ++ c.args.map a.eval, ?_⟩
          simp only [resolve, hcal, hce, Deferred.ofValue]
          rfl
      · simp at e
      · cases e
    · cases e

theorem defer_sim (hE : EnvOK P E) {B : Nat} {F : Fence} {n : Nat} (hF : FOK F) (hro : F.round = none) {ops : Array Oper} {nt : Nat} {Q : Exit → Act → World → Prop} :
    ∀ (l : List Oper) (j : Nat) (ρ : Ren) (fr fr' : Fr) (a : Act) (h h' : Heap) (w : World), (∀ i, l[i]? = ops[j + i]?) → FR E ρ fr a → HR P ρ h w → a.tmps.size = nt → DR P B ρ w a.defers →
      stepsDefer E nt ops.toList l fr h = some (fr', h') → (∀ a' w', After B P E ρ h w nt fr' h' a' w' → Q .normal a' w') → wpOpsIn F n P ops Q (List.range' j l.length) a w
  | [], j, ρ, fr, fr', a, h, h', w, _, hf, hr, hnt, hd, e, k => by
    simp only [stepsDefer, Option.some.injEq, Prod.mk.injEq] at e
    obtain ⟨rfl, rfl⟩ := e
    exact k a w ⟨ρ, hf, Stp.refl hr, hnt, hd⟩
  | o :: l, j, ρ, fr, fr', a, h, h', w, hl, hf, hr, hnt, hd, e, k => by
    simp only [stepsDefer] at e
    split at e
    · rename_i fr1 h1 hst
      rw [List.length_cons, List.range'_succ, wpOpsIn_cons]
      have hi : ops[j]? = some o := by have := hl 0; simpa using this.symm
      have next : ∀ a' w', After B P E ρ h w nt fr1 h1 a' w' → wpOpsIn F n P ops Q (List.range' (j + 1) l.length) a' w' := fun a' w' ha => by
        obtain ⟨ρ', hf', hs, hnt', hd'⟩ := ha
        exact defer_sim hE hF hro l (j + 1) ρ' fr1 fr' a' h1 h' w' (fun i => by have := hl (i + 1); simp only [List.getElem?_cons_succ] at this; rw [this]; congr 1; omega) hf' hs.hr hnt' hd' e fun a2 w2 ha => k a2 w2 (ha.trans hs)
      cases hdf : isDefer o with
      | false =>
        rw [hdf] at hst
        exact step_sim hE hF callNone hi hf hr hnt hd hst next
      | true =>
        rw [hdf] at hst
        obtain ⟨c, hc⟩ := isDefer_some hdf
        simp only [cond_true] at hst
        split at hst
        · rename_i hw
          have hdo : deferOp E fr o = true := by cases hh : deferOp E fr o with | true => rfl | false => rw [hh] at hst; cases hst
          rw [hdo] at hst
          simp only [cond_true, Option.map_eq_some_iff, Prod.mk.injEq] at hst
          obtain ⟨f1, hput, rfl, rfl⟩ := hst
          unfold deferOp at hdo
          rw [hc] at hdo
          simp only at hdo
          split at hdo
          · rename_i g args htar
            obtain ⟨cap, as, hrun⟩ := resolve_sim (P := P) (w := w) (t := o.type) hf htar
            unfold wpOpIn
            simp only [hi]
            rw [wanted_sim hf hw, if_pos rfl]
            refine ⟨fun f _ => hF.fn f, ?_⟩
            rw [hro, Oper.semAt_none]
            have : (execOp a.eval o).run P w = .ok (.defer { target := .fn (.func g) cap, args := as }) w := by
              simp only [execOp, hc]
              simp [hrun]
            rw [this, Oper.uponIn_defer]
            refine next _ _ ⟨ρ, ?_, Stp.refl hr, ?_, ?_⟩
            · exact FR.put (a := { a with defers := _ :: a.defers }) ⟨hf.glob, hf.tmp⟩ hnt (VR.undef ρ) hput
            · rw [put_size]; exact hnt
            · rw [put_defers]; exact hd.lay (hE.dfr g hdo) cap as
          · cases hdo
        · cases hst
    · cases e
end
end Go.Ev
