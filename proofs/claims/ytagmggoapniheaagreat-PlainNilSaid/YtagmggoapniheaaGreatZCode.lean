/- THE EVALUATOR, part 'Code': a deterministic reading of the program's code over an abstract heap, and that the model does what it says. Conditions: none beyond each theorem's own. -/
import Derived.Test.YtagmggoapniheaaGreatZDrawn2
namespace Go.Ev
section
variable {P : Program} {E : Env}

def toExit : Ex → Exit
  | .normal => .normal
  | .exit id => .exit id
  | .ret => .ret

section
variable {call : FuncId → List Value → Heap → Option (Value × Heap)} {nt : Nat}

theorem code_sim (hE : EnvOK P E) (hc : CallSound P E call) : ∀ (c : Code) (ρ : Ren) (h : Heap) (w : World) (fr : Fr) (a : Act) (ex : Ex) (fr' : Fr) (h' : Heap) (Q : Exit → Act → World → Prop),
    FR E ρ fr a → HR P ρ h w → a.tmps.size = nt → a.defers = [] → code E call nt c fr h = some (ex, fr', h') →
    (∀ a' w', After P E ρ h w nt fr' h' a' w' → Q (toExit ex) a' w') → c.wp P Q a w
  | .skip, ρ, h, w, fr, a, ex, fr', h', Q, hf, hr, hnt, hd, e, hq => by
    simp only [code, Option.some.injEq, Prod.mk.injEq] at e
    obtain ⟨rfl, rfl, rfl⟩ := e
    exact wp_skip (hq a w ⟨ρ, hf, Stp.refl hr, hnt, hd⟩)
  | .label _, ρ, h, w, fr, a, ex, fr', h', Q, hf, hr, hnt, hd, e, hq => by
    simp only [code, Option.some.injEq, Prod.mk.injEq] at e
    obtain ⟨rfl, rfl, rfl⟩ := e
    exact wp_label (hq a w ⟨ρ, hf, Stp.refl hr, hnt, hd⟩)
  | .exit id, ρ, h, w, fr, a, ex, fr', h', Q, hf, hr, hnt, hd, e, hq => by
    simp only [code, Option.some.injEq, Prod.mk.injEq] at e
    obtain ⟨rfl, rfl, rfl⟩ := e
    exact wp_exit (hq a w ⟨ρ, hf, Stp.refl hr, hnt, hd⟩)
  | .ret, ρ, h, w, fr, a, ex, fr', h', Q, hf, hr, hnt, hd, e, hq => by
    simp only [code, Option.some.injEq, Prod.mk.injEq] at e
    obtain ⟨rfl, rfl, rfl⟩ := e
    exact wp_ret (hq a w ⟨ρ, hf, Stp.refl hr, hnt, hd⟩)
  | .region id ops false, ρ, h, w, fr, a, ex, fr', h', Q, hf, hr, hnt, hd, e, hq => by
    simp only [code, Option.map_eq_some_iff, Prod.mk.injEq] at e
    obtain ⟨⟨f1, h1⟩, e, rfl, rfl, rfl⟩ := e
    refine wp_region ?_
    have := text_sim hE hc (Q := Q) ops.toList 0 ρ fr f1 a h h1 w (fun i => by simp) hf hr hnt hd e hq
    rw [List.range_eq_range']
    simpa using this
  | .region id ops true, ρ, h, w, fr, a, ex, fr', h', Q, hf, hr, hnt, hd, e, hq => by
    simp only [code] at e
    split at e
    · rename_i pl hpl
      simp only [Option.map_eq_some_iff, Prod.mk.injEq] at e
      obtain ⟨⟨f1, h1⟩, e, rfl, rfl, rfl⟩ := e
      exact region_sim hE hc hpl e hf hr hnt hd hq
    · cases e
  | .seq x y, ρ, h, w, fr, a, ex, fr', h', Q, hf, hr, hnt, hd, e, hq => by
    simp only [code] at e
    refine wp_seq ?_
    split at e
    · rename_i f1 h1 e1
      refine code_sim hE hc x ρ h w fr a _ f1 h1 _ hf hr hnt hd e1 fun a1 w1 hA => ?_
      obtain ⟨ρ1, hf1, hs, hnt1, hd1⟩ := hA
      exact code_sim hE hc y ρ1 h1 w1 f1 a1 ex fr' h' Q hf1 hs.hr hnt1 hd1 e fun a2 w2 hA => hq a2 w2 (hA.trans hs)
    · rename_i hno
      refine code_sim hE hc x ρ h w fr a ex fr' h' _ hf hr hnt hd e fun a1 w1 hA => ?_
      cases ex with
      | normal => exact absurd e (hno _ _)
      | exit id => exact hq a1 w1 hA
      | ret => exact hq a1 w1 hA
  | .cond c x y, ρ, h, w, fr, a, ex, fr', h', Q, hf, hr, hnt, hd, e, hq => by
    simp only [code] at e
    split at e
    · rename_i hc'
      have r := ev_sim hf hc'
      generalize hce : a.eval c = u at r
      cases r
      exact wp_cond_true hce (code_sim hE hc x ρ h w fr a ex fr' h' Q hf hr hnt hd e hq)
    · rename_i hc'
      have r := ev_sim hf hc'
      generalize hce : a.eval c = u at r
      cases r
      exact wp_cond_false hce (code_sim hE hc y ρ h w fr a ex fr' h' Q hf hr hnt hd e hq)
    · cases e
  | .block id b, ρ, h, w, fr, a, ex, fr', h', Q, hf, hr, hnt, hd, e, hq => by
    simp only [code] at e
    refine wp_block ?_
    split at e
    · rename_i j f1 h1 e1
      simp only [Option.some.injEq, Prod.mk.injEq] at e
      obtain ⟨rfl, rfl, rfl⟩ := e
      refine code_sim hE hc b ρ h w fr a _ f1 h1 _ hf hr hnt hd e1 fun a1 w1 hA => ?_
      have := hq a1 w1 hA
      show Exit.inBlock id Q (.exit j) a1 w1
      simp only [Exit.inBlock]
      rw [cond_beq] at this
      by_cases hj : j = id
      · rw [if_pos hj] at this ⊢; exact this
      · rw [if_neg hj] at this ⊢; exact this
    · rename_i hno
      refine code_sim hE hc b ρ h w fr a ex fr' h' _ hf hr hnt hd e fun a1 w1 hA => ?_
      cases ex with
      | normal => exact hq a1 w1 hA
      | exit id => exact absurd e (hno _ _ _)
      | ret => exact hq a1 w1 hA
  | .loop b, ρ, h, w, fr, a, ex, fr', h', Q, hf, hr, hnt, hd, e, hq => by
    simp only [code] at e
    refine wp_loop_rounds 1000000 ?_
    generalize 1000000 = n at e
    induction n generalizing ρ h w fr a with
    | zero => simp [iter] at e
    | succ n ih =>
      simp only [iter] at e
      rw [rounds_succ]
      split at e
      · rename_i f1 h1 e1
        refine code_sim hE hc b ρ h w fr a _ f1 h1 _ hf hr hnt hd e1 fun a1 w1 hA => ?_
        obtain ⟨ρ1, hf1, hs, hnt1, hd1⟩ := hA
        exact ih ρ1 h1 w1 f1 a1 hf1 hs.hr hnt1 hd1 (fun a2 w2 hA => hq a2 w2 (hA.trans hs)) e
      · rename_i hno
        refine code_sim hE hc b ρ h w fr a ex fr' h' _ hf hr hnt hd e fun a1 w1 hA => ?_
        cases ex with
        | normal => exact absurd e (hno _ _)
        | exit id => exact hq a1 w1 hA
        | ret => exact hq a1 w1 hA
  | .scope b, ρ, h, w, fr, a, ex, fr', h', Q, hf, hr, hnt, hd, e, hq => by
    simp only [code] at e
    refine wp_scope_straight (code_sim hE hc b ρ h w fr a ex fr' h' _ hf hr hnt hd e fun a1 w1 hA => ?_)
    have := hq a1 w1 hA
    cases ex <;> exact this
  | .rangeFunc .., ρ, h, w, fr, a, ex, fr', h', Q, hf, hr, hnt, hd, e, hq => by simp [code] at e
  | .goto .., ρ, h, w, fr, a, ex, fr', h', Q, hf, hr, hnt, hd, e, hq => by simp [code] at e
  | .refuse .., ρ, h, w, fr, a, ex, fr', h', Q, hf, hr, hnt, hd, e, hq => by simp [code] at e

/-! results -/
theorem mapOpt_cons {α β : Type} {f : α → Option β} {x : α} {l : List α} {r : List β} (h : mapOpt f (x :: l) = some r) : ∃ y ys, f x = some y ∧ mapOpt f l = some ys ∧ r = y :: ys := by
  simp only [mapOpt] at h
  split at h
  · rename_i y ys h1 h2; cases h; exact ⟨y, ys, h1, h2, rfl⟩
  · cases h

def resR (tmps : Array Value) (r : ResultVar) : Sem Value :=
  match r with
  | .tmp t => pure (tmps.getD t undef)
  | .cell b t => do loadVar t (← asAddr (tmps.getD b undef))
theorem results_eq (fn : Func) (tmps : Array Value) : results fn tmps = ((fn.results.mapM (resR tmps)) >>= fun vs => pure (if h : vs.size = 1 then vs[0] else .tuple vs)) := by
  have : (resR tmps) = (fun | .tmp t => pure (tmps.getD t undef) | .cell a t => do loadVar t (← asAddr (tmps.getD a undef)) : ResultVar → Sem Value) := by funext r; cases r <;> rfl
  rw [this]
  rfl

theorem res_sim (hE : EnvOK P E) {ρ : Ren} {h : Heap} {w : World} {fr : Fr} {a : Act} (hf : FR E ρ fr a) (hr : HR P ρ h w) {r : ResultVar} {v : Value} (e : resOf E fr h r = some v) :
    ∃ v', (resR a.tmps r).run P w = .ok v' w ∧ VR ρ v v' := by
  cases r with
  | tmp t =>
    simp only [resOf] at e
    exact ⟨a.eval (.tmp t), by simp [resR, Act.eval], ev_sim hf e⟩
  | cell b t =>
    simp only [resOf] at e
    split at e
    · rename_i x hx
      have rx := hf.tmp b
      rw [hx] at rx
      simp only [Option.getD_some] at rx
      obtain ⟨v', hrun, r⟩ := loadAt_sim hE hr e rx
      refine ⟨v', ?_, r⟩
      have hptr : ∃ p, a.tmps.getD b undef = .pointer (some p) := by
        unfold loadAt at e
        split at e
        · generalize a.tmps.getD b undef = u at rx
          cases rx with
          | ptr off hh => exact ⟨_, rfl⟩
        · cases e
      obtain ⟨p, hp⟩ := hptr
      simp only [resR]
      rw [hp] at hrun ⊢
      simpa [Instr.loadAt, Instr.sureAddr, asAddr] using hrun
    · cases e

theorem resL_sim (hE : EnvOK P E) {ρ : Ren} {h : Heap} {w : World} {fr : Fr} {a : Act} (hf : FR E ρ fr a) (hr : HR P ρ h w) : ∀ (rs : List ResultVar) (vs : List Value), mapOpt (resOf E fr h) rs = some vs →
    ∃ vs', (rs.mapM (resR a.tmps)).run P w = .ok vs' w ∧ VRL ρ vs vs'
  | [], vs, e => by simp [mapOpt] at e; subst e; exact ⟨[], by simp, .nil⟩
  | r :: rs, vs, e => by
    obtain ⟨y, ys, h1, h2, rfl⟩ := mapOpt_cons e
    obtain ⟨v', e1, r1⟩ := res_sim hE hf hr h1
    obtain ⟨vs', e2, r2⟩ := resL_sim hE hf hr rs ys h2
    refine ⟨v' :: vs', ?_, .cons r1 r2⟩
    rw [List.mapM_cons]
    simp only [Sem.run_bind, Sem.run_pure]
    rw [e1]
    simp only [Result.andThen_ok, e2]

theorem results_sim (hE : EnvOK P E) {ρ : Ren} {h : Heap} {w : World} {fr : Fr} {a : Act} (hf : FR E ρ fr a) (hr : HR P ρ h w) {fn : Func} {vs : List Value} (e : mapOpt (resOf E fr h) fn.results.toList = some vs) :
    ∃ v', (results fn a.tmps).run P w = .ok v' w ∧ VR ρ (match vs with | [v] => v | vs => .tuple vs.toArray) v' := by
  obtain ⟨vs', e1, r⟩ := resL_sim hE hf hr _ _ e
  have hm : (results fn a.tmps).run P w = .ok (if h : vs'.toArray.size = 1 then vs'.toArray[0] else .tuple vs'.toArray) w := by
    rw [results_eq, Array.mapM_eq_mapM_toList]
    simp only [Sem.run_bind, Sem.run_map, Sem.run_pure]
    rw [e1]
    simp only [Result.andThen_ok]
  refine ⟨_, hm, ?_⟩
  cases r with
  | nil => exact .tuple _ _ .nil
  | cons r1 r2 =>
    cases r2 with
    | nil => exact r1
    | cons r3 r4 =>
      simp only [List.size_toArray, List.length_cons]
      rw [dif_neg (by omega)]
      exact .tuple _ _ (.cons r1 (.cons r3 r4))
end

theorem setAll_get : ∀ (l : List Value) (i : Nat) (fr : Fr) (t : Nat), (setAll l i fr).get t = if i ≤ t ∧ t < i + l.length then l[t - i]? else fr.get t
  | [], i, fr, t => by simp [setAll]; omega
  | v :: l, i, fr, t => by
    rw [setAll, setAll_get l]
    by_cases h : i = t
    · subst h; rw [if_neg (by omega), if_pos (by simp), T.get_set_same]; simp
    · by_cases h2 : i + 1 ≤ t ∧ t < i + 1 + l.length
      · rw [if_pos h2, if_pos (by simp; omega), show t - i = (t - (i + 1)) + 1 by omega]; simp
      · rw [if_neg h2, T.get_set_ne _ _ h, if_neg (by simp; omega)]

def ExtOK (P : Program) (E : Env) : Prop := ∀ f args v, E.ext f args = some (some v) → ∀ (ρ : Ren) (h : Heap) (w : World) (args' : Array Value), HR P ρ h w → GR E ρ → VRL ρ args args'.toList → CallOK P ρ h w f args' v h
def NamesOK (P : Program) : Prop := ∀ (f : FuncId) (fn : Func), P.funcs[f]? = some fn → fn.body.isSome = true → fn.name ≠ "runtime.NumGoroutine"

theorem run_callFunc {f : FuncId} {fn : Func} {c : Code} (hf : P.funcs[f]? = some fn) (hn : NamesOK P) (hb : fn.body = some c) (args : Array Value) (w : World) : (callFunc f args).run P w = .ok (.enter f args) w := by
  have := hn f fn hf (by rw [hb]; rfl)
  simp [callFunc, hf, this, hb]

theorem callF_sim (hE : EnvOK P E) (hx : ExtOK P E) (hn : NamesOK P) : ∀ d, CallSound P E (callF E d)
  | 0 => fun f args h v h' e => by simp [callF] at e
  | d + 1 => fun f args h v h' e ρ w args' hr hg ra => by
    rw [callF] at e
    split at e
    · rename_i r he
      cases r with
      | none => cases e
      | some v2 =>
        simp only [Option.map_some, Option.some.injEq, Prod.mk.injEq] at e
        obtain ⟨rfl, rfl⟩ := e
        exact hx f args v2 he ρ h w args' hr hg ra
    · split at e
      · cases e
      · rename_i fn hfn
        have hfn := hE.funs f fn hfn
        split at e
        · cases e
        · rename_i b hb
          refine .inr ⟨run_callFunc hfn hn hb args' w, ?_⟩
          have hlen := ra.length
          have hnt : (args' ++ Array.replicate (fn.ntmps - args'.size) undef).size = max fn.ntmps args.length := by
            simp only [Array.length_toList] at hlen
            simp; omega
          have hfr : FR E ρ (setAll args 0 .leaf) { tmps := args' ++ Array.replicate (fn.ntmps - args'.size) undef, defers := [] } := by
            refine ⟨hg, fun t => ?_⟩
            simp only [Array.length_toList] at hlen
            rw [setAll_get]
            simp only [Nat.zero_le, true_and, Nat.zero_add, Nat.sub_zero, T.get_leaf, Array.getD_eq_getD_getElem?, Array.getElem?_append]
            by_cases ht : t < args.length
            · rw [if_pos ht, if_pos (by omega)]
              obtain ⟨v', e', r⟩ := ra.get t _ (List.getElem?_eq_getElem ht)
              rw [List.getElem?_eq_getElem ht, ← Array.getElem?_toList, e']
              exact r
            · rw [if_neg ht, if_neg (by omega)]
              simp only [Option.getD_none, Array.getElem?_replicate]
              split <;> exact VR.undef ρ
          split at e
          · cases e
          · rename_i ex fr1 h1 hnx hcode
            split at e
            · rename_i v1 hres
              simp only [Option.some.injEq, Prod.mk.injEq] at e
              obtain ⟨rfl, rfl⟩ := e
              refine calls_of_wp hfn hb (code_sim hE (callF_sim hE hx hn d) b ρ h w _ _ _ _ _ _ hfr hr hnt rfl hcode fun a' w' hA => ?_)
              obtain ⟨ρ', hf', hs, _, hd⟩ := hA
              obtain ⟨v', hrun, r⟩ := results_sim hE hf' hs.hr hres
              cases ex with
              | normal => exact ⟨hd, v', hrun, v', ρ', rfl, r, hs⟩
              | ret => exact ⟨hd, v', hrun, v', ρ', rfl, r, hs⟩
              | exit id => exact absurd rfl (hnx id)
            · rename_i vs hvs hres
              simp only [Option.some.injEq, Prod.mk.injEq] at e
              obtain ⟨rfl, rfl⟩ := e
              refine calls_of_wp hfn hb (code_sim hE (callF_sim hE hx hn d) b ρ h w _ _ _ _ _ _ hfr hr hnt rfl hcode fun a' w' hA => ?_)
              obtain ⟨ρ', hf', hs, _, hd⟩ := hA
              obtain ⟨v', hrun, r⟩ := results_sim hE hf' hs.hr hres
              have r : VR ρ' (.tuple vs.toArray) v' := by
                split at r
                · exact absurd rfl (hvs _)
                · exact r
              cases ex with
              | normal => exact ⟨hd, v', hrun, v', ρ', rfl, r, hs⟩
              | ret => exact ⟨hd, v', hrun, v', ρ', rfl, r, hs⟩
              | exit id => exact absurd rfl (hnx id)
            · cases e
          · cases e
end
end Go.Ev
