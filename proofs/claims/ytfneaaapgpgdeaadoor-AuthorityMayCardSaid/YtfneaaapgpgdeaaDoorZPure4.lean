/- THE EVALUATOR, part 'Pure4': a deterministic reading of the program's code over an abstract heap, and that the model does what it says. Conditions: none beyond each theorem's own. -/
import Derived.Test.YtfneaaapgpgdeaaDoorZPure3
import Derived.Lib.UnsafeStr
set_option linter.unusedSimpArgs false
set_option linter.unusedVariables false
namespace Go.Ev
section
variable {P : Program} {E : Env} {ρ : Ren}

theorem evo_sim {fr : Fr} {a : Act} (hf : FR E ρ fr a) {x : Option Operand} {o : Option Value} (h : evo E fr x = some o) : OR ρ o (x.map a.eval) := by
  cases x with
  | none => simp only [evo] at h; cases h; exact .none
  | some y =>
    simp only [evo, Option.map_eq_some_iff] at h
    obtain ⟨v, hv, rfl⟩ := h
    exact .some (ev_sim hf hv)
theorem evp_sim {fr : Fr} {a : Act} (hf : FR E ρ fr a) : ∀ {ps : List (Nat × Operand)} {l : List (Nat × Value)}, mapOpt (fun (p : Nat × Operand) => (ev E fr p.2).map (p.1, ·)) ps = some l →
    (ps.map fun p => (p.1, a.eval p.2)).map (·.1) = l.map (·.1) ∧ VRL ρ (l.map (·.2)) ((ps.map fun p => (p.1, a.eval p.2)).map (·.2))
  | [], l, h => by simp [mapOpt] at h; subst h; exact ⟨rfl, .nil⟩
  | p :: ps, l, h => by
    simp only [mapOpt] at h
    cases hx : ev E fr p.2 with
    | none => simp [hx] at h
    | some y =>
      cases hm : mapOpt (fun (p : Nat × Operand) => (ev E fr p.2).map (p.1, ·)) ps with
      | none => simp [hx, hm] at h
      | some q =>
        simp only [hx, hm, Option.map_some] at h; cases h
        obtain ⟨h1, h2⟩ := evp_sim hf hm
        exact ⟨by simp at h1 ⊢; exact h1, .cons (ev_sim hf hx) h2⟩

theorem asliceData_sim {x x' v : Value} {ts : Array TypeId} {ty : TypeId} (h : asliceData x = some v) (r : VR ρ x x') :
    ∃ v', (∀ w : World, (Builtin.unsafeSliceData_ ts ty #[x']).run P w = .ok v' w) ∧ VR ρ v v' := by
  unfold asliceData at h
  split at h
  · cases h
    cases r
    exact ⟨.pointer none, fun w => Lib.run_unsafeSliceData_nil w ts ty _ _, .nilptr⟩
  · rename_i ad n c
    cases hc : ((Nat.beq c UNK && Nat.blt 0 n) || (Nat.blt 0 c && Nat.blt c UNK)) with
    | false => rw [hc] at h; cases h
    | true =>
      rw [hc] at h
      simp only [cond_true, Option.some.injEq] at h
      subst h
      simp only [Bool.or_eq_true, Bool.and_eq_true, Nat.blt_eq, Nat.beq_eq] at hc
      cases r with
      | slice off len cap hi hcap =>
        rcases hc with hc | hc
        · exact absurd hc.1 (Nat.ne_of_lt hcap)
        · exact ⟨_, fun w => Lib.run_unsafeSliceData_row w ts ty _ _ _ (by omega), .ptr _ hi⟩
      | sliceU off len cap hi hn hl h0 =>
        rcases hc with hc | hc
        · exact ⟨_, fun w => Lib.run_unsafeSliceData_row w ts ty _ _ _ (by omega), .ptr _ hi⟩
        · exact absurd hc.2 (Nat.lt_irrefl _)
      | sliceE a a' cap =>
        rcases hc with hc | hc
        · exact absurd hc.2 (Nat.lt_irrefl _)
        · exact absurd hc.2 (by decide)
  · cases h

set_option maxHeartbeats 1000000 in
theorem pure_sim (hE : EnvOK P E) {fr : Fr} {a : Act} {o : Oper} {v : Value} (hf : FR E ρ fr a) (h : pureOp E fr o = some v) :
    ∃ v', (∀ w : World, (execOp a.eval o).run P w = .ok (.value v') w) ∧ VR ρ v v' := by
  unfold pureOp at h
  split at h
  · rename_i x ho
    exact ⟨_, fun w => by simp [execOp, ho], ev_sim hf h⟩
  · rename_i x ho
    exact ⟨_, fun w => by simp [execOp, ho], ev_sim hf h⟩
  · rename_i c x y ho
    split at h
    · rename_i hc
      have r := ev_sim hf hc
      generalize hce : a.eval c = ce at r
      cases r
      exact ⟨_, fun w => by simp [execOp, ho, hce, asBool], ev_sim hf h⟩
    · rename_i hc
      have r := ev_sim hf hc
      generalize hce : a.eval c = ce at r
      cases r
      exact ⟨_, fun w => by simp [execOp, ho, hce, asBool], ev_sim hf h⟩
    · cases h
  · rename_i t ps ho
    split at h
    · rename_i l hl
      obtain ⟨h1, h2⟩ := evp_sim hf hl
      obtain ⟨v', e, r⟩ := abuild_sim hE (ps' := ps.map fun (p : Nat × Operand) => (p.1, a.eval p.2)) h (by simpa using h1) (by simpa using h2)
      exact ⟨v', fun w => by simp [execOp, ho, e w], r⟩
    · cases h
  · rename_i x ho
    split at h
    · rename_i p hc
      cases h
      have r := ev_sim hf hc
      generalize hce : a.eval x = ce at r
      cases r with
      | ptr off hr => exact ⟨_, fun w => by simp [execOp, ho, hce], .ptr off hr⟩
    · rename_i t u hc
      cases h
      have r := ev_sim hf hc
      generalize hce : a.eval x = ce at r
      cases r with
      | iface _ _ u' hr => exact ⟨_, fun w => by simp [execOp, ho, hce], .iface _ _ _ hr⟩
    · rename_i f xs ys hc
      cases h
      have r := ev_sim hf hc
      generalize hce : a.eval x = ce at r
      cases r with
      | func _ _ _ xs' ys' hy h1 h2 => exact ⟨_, fun w => by simp [execOp, ho, hce], .func _ _ _ _ _ hy h1 h2⟩
    · rename_i f xs ys hc
      cases h
      have r := ev_sim hf hc
      generalize hce : a.eval x = ce at r
      cases r with
      | func _ _ _ _ _ hy _ _ => cases hy
      | yield hi => exact ⟨_, fun w => by simp [execOp, ho, hce], .yield hi⟩
    · cases h
  · rename_i op t x y yt ho
    have fin : ∀ u1 u2, ev E fr x = some u1 → ev E fr y = some u2 → abin E op t u1 u2 = some v → (u1 = .nilIface → u2 = .nilIface → (isConst x || isConst y) = true) →
        ∃ v', (∀ w : World, (execOp a.eval o).run P w = .ok (.value v') w) ∧ VR ρ v v' := by
      intro u1 u2 e1 e2 hb hn
      have hh := fun w => abin_sim hE hb (ev_sim hf e1) (ev_sim hf e2) hn w
      exact ⟨v, fun w => by simp [execOp, ho, (hh w).1, (hh w).2.1], (hh default).2.2⟩
    split at h
    · rename_i e1 e2
      cases hc : (isConst x || isConst y) with
      | false => simp [hc] at h
      | true => simp only [hc, cond_true] at h; exact fin _ _ e1 e2 h (fun _ _ => hc)
    · rename_i u1 u2 hnn e1 e2
      exact fin _ _ e1 e2 h (fun e e' => (hnn e e').elim)
    · cases h
  · rename_i op t x ho
    split at h
    · rename_i u hu
      obtain ⟨v', hh, r⟩ := aun_sim (P := P) h (ev_sim hf hu)
      exact ⟨v', fun w => by simp [execOp, ho, hh w], r⟩
    · cases h
  · rename_i s d x ho
    split at h
    · rename_i u hu
      obtain ⟨v', hh, r⟩ := aconvert_sim hE h (ev_sim hf hu)
      exact ⟨v', fun w => by simp [execOp, ho, hh w], r⟩
    · cases h
  · rename_i t x ho
    split at h
    · cases h
    · cases h
    · rename_i u d hi1 hi2 hu hd
      cases h
      have hd := hE.und hd (fun e => hi2 e)
      refine ⟨.iface t (a.eval x), fun w => ?_, .iface _ _ _ (ev_sim hf hu)⟩
      simp only [execOp, ho, Instr.makeInterface, Sem.run_bind, run_underlying hd, Result.andThen_ok]
      cases d <;> first | exact (hi1 _ rfl).elim | simp
    · cases h
  · rename_i fn first cap ho
    split at h
    · rename_i l1 l2 e0 e1 e2
      cases h
      exact ⟨.func fn (first.map a.eval) (cap.map a.eval), fun w => by simp [execOp, ho, Instr.makeFunc], .func _ _ _ _ _ e0 (by simpa using evs_sim' hf e1) (by simpa using evs_sim' hf e2)⟩
    · cases h
  · rename_i t x lo hi mx ho
    split at h
    · rename_i u1 o1 o2 o3 e1 e2 e3 e4
      obtain ⟨v', e, r⟩ := asliceS_sim hE h (ev_sim hf e1) (evo_sim hf e2) (evo_sim hf e3) (evo_sim hf e4)
      exact ⟨v', fun w => by simp [execOp, ho, e w], r⟩
    · cases h
  · rename_i s x f ho
    split at h
    · rename_i u hu
      obtain ⟨v', e, r⟩ := afieldAddr_sim hE h (ev_sim hf hu)
      exact ⟨v', fun w => by simp [execOp, ho, e w], r⟩
    · cases h
  · rename_i t x f ho
    split at h
    · rename_i u hu
      obtain ⟨v', e, r⟩ := afield_sim hE h (ev_sim hf hu)
      exact ⟨v', fun w => by simp [execOp, ho, e w], r⟩
    · cases h
  · rename_i t x i ho
    split at h
    · rename_i u1 u2 h1 h2
      obtain ⟨v', e, r⟩ := aindexAddr_sim hE h (ev_sim hf h1) (ev_sim hf h2)
      exact ⟨v', fun w => by simp [execOp, ho, e w], r⟩
    · cases h
  · rename_i t x i ho
    split at h
    · rename_i u1 u2 h1 h2
      obtain ⟨v', e, r⟩ := aindex_sim hE h (ev_sim hf h1) (ev_sim hf h2)
      exact ⟨v', fun w => by simp [execOp, ho, e w], r⟩
    · cases h
  · rename_i x xt t ok ho
    split at h
    · rename_i u hu
      obtain ⟨v', e, r⟩ := atypeAssert_sim hE (xt := xt) h (ev_sim hf hu)
      exact ⟨v', fun w => by simp [execOp, ho, e w], r⟩
    · cases h
  · rename_i t i ho
    split at h
    · rename_i vs hu
      have r := ev_sim hf hu
      generalize hce : a.eval t = ce at r
      cases r with
      | tuple _ vs' hr =>
        rw [nth_eq] at h
        obtain ⟨v', e, r⟩ := hr.get _ _ h
        have e : vs'[i]? = some v' := by simpa using e
        exact ⟨v', fun w => by simp [execOp, ho, hce, Instr.extract, e], r⟩
    · cases h
  · rename_i c ho
    have call : ∀ b, c.callee = .builtin b → ∃ cs : Array Bool, ∀ w : World, (execOp a.eval o).run P w = (builtin b c.argTypes o.type cs (c.args.map a.eval)).run P w := by
      intro b hb
      refine ⟨c.args.map fun | .const _ => true | _ => false, fun w => ?_⟩
      simp only [execOp, ho, resolve, hb, Sem.run_bind, Sem.run_pure, Result.andThen_ok, invoke]
      rfl
    split at h
    · rename_i hb
      obtain ⟨cs, call⟩ := call _ hb
      split at h
      · rename_i t ts x xs ht hx
        have r := evs_sim' hf hx
        have ht : c.argTypes[0]? = some t := by
          have : c.argTypes.toList[0]? = some t := by rw [ht]; rfl
          simpa using this
        generalize hce : c.args.map a.eval = ce at r
        cases hl : ce.toList with
        | nil => rw [hl] at r; cases r
        | cons x' xs' =>
          rw [hl] at r
          cases r with
          | cons rx _ =>
            have hx0 : ce[0]? = some x' := by
              have : ce.toList[0]? = some x' := by rw [hl]; rfl
              simpa using this
            have hh := fun w => alen_sim hE (ty := o.type) ht hx0 h rx w
            exact ⟨v, fun w => by simp [call, builtin, hce, (hh w).1], (hh default).2⟩
      · cases h
    · rename_i hb
      obtain ⟨cs, call⟩ := call _ hb
      split at h
      · rename_i t ts x xs ht hx
        have r := evs_sim' hf hx
        have ht : c.argTypes[0]? = some t := by
          have : c.argTypes.toList[0]? = some t := by rw [ht]; rfl
          simpa using this
        generalize hce : c.args.map a.eval = ce at r
        cases hl : ce.toList with
        | nil => rw [hl] at r; cases r
        | cons x' xs' =>
          rw [hl] at r
          cases r with
          | cons rx _ =>
            have hx0 : ce[0]? = some x' := by
              have : ce.toList[0]? = some x' := by rw [hl]; rfl
              simpa using this
            have hh := fun w => acap_sim hE (ty := o.type) ht hx0 h rx w
            exact ⟨v, fun w => by simp [call, builtin, hce, (hh w).1], (hh default).2⟩
      · cases h
    · rename_i hb
      obtain ⟨cs, call⟩ := call _ hb
      split at h
      · rename_i x xs hx
        have r := evs_sim' hf hx
        generalize hce : c.args.map a.eval = ce at r
        cases hl : ce.toList with
        | nil => rw [hl] at r; cases r
        | cons x' xs' =>
          rw [hl] at r
          cases r with
          | cons rx rl =>
            obtain ⟨v', r, e⟩ := afold_sim (P := P) h rx rl
            simp only [if_true] at e
            exact ⟨v', fun w => by simp [call, builtin, hce, Builtin.max_, hl, e w], r⟩
      · cases h
    · rename_i hb
      obtain ⟨cs, call⟩ := call _ hb
      split at h
      · rename_i x xs hx
        have r := evs_sim' hf hx
        generalize hce : c.args.map a.eval = ce at r
        cases hl : ce.toList with
        | nil => rw [hl] at r; cases r
        | cons x' xs' =>
          rw [hl] at r
          cases r with
          | cons rx rl =>
            obtain ⟨v', r, e⟩ := afold_sim (P := P) h rx rl
            simp only [Bool.false_eq_true, if_false] at e
            exact ⟨v', fun w => by simp [call, builtin, hce, Builtin.min_, hl, e w], r⟩
      · cases h
    · rename_i hb
      obtain ⟨cs, call⟩ := call _ hb
      split at h
      · rename_i x hx
        have r := evs_sim' hf hx
        generalize hce : c.args.map a.eval = ce at r
        obtain ⟨l⟩ := ce
        simp only at r
        cases r with
        | cons rx t =>
          cases t
          obtain ⟨v', e, r⟩ := asliceData_sim (P := P) (ts := c.argTypes) (ty := o.type) h rx
          exact ⟨v', fun w => by simp [call, builtin, hce, e w], r⟩
      · cases h
    · cases h
  · cases h

theorem val_sim (hE : EnvOK P E) {fr : Fr} {a : Act} {o : Oper} {v : Value} (hf : FR E ρ fr a) (h : valOp E fr o = some v) (w : World) :
    (∃ v' n, (execOp a.eval o).run P w = .ok (.value v') { w with drawn := n } ∧ VR ρ v v') ∨ ∃ c, o.op = .call c ∧ qcall E fr c = some v := by
  unfold valOp at h
  split at h
  · rename_i u hfl
    cases h
    unfold flOp at hfl
    split at hfl
    · rename_i op t x y yt ho
      split at hfl
      · rename_i u1 u2 e1 e2
        obtain ⟨h1, v', n, h2, r⟩ := fbin_sim (P := P) (t := t) hfl (ev_sim hf e1) (ev_sim hf e2) x y w
        exact .inl ⟨v', n, by simp [execOp, ho, h1, h2], r⟩
      · cases hfl
    · rename_i c ho
      exact .inr ⟨c, ho, hfl⟩
    · cases hfl
  · obtain ⟨v', h1, r⟩ := pure_sim hE hf h
    exact .inl ⟨v', w.drawn, h1 w, r⟩
end
end Go.Ev
