/- THE EVALUATOR, part 'Code': a deterministic reading of the program's code over an abstract heap, and that the model does what it says. Conditions: none beyond each theorem's own. -/
import Derived.Test.YtfneaaapgpgdeaaDoorZLoop
import Derived.RangeFuncLeaves
import Derived.RangeFuncNested
set_option linter.unusedSimpArgs false
set_option linter.unusedVariables false
namespace Go.Ev
section
variable {P : Program} {E : Env}

section
variable {call : Fn → List Value → Heap → Option (Value × Heap)} {nt : Nat}

def EnterSound (P : Program) (E : Env) (call : Fn → List Value → Heap → Option (Value × Heap)) : Prop :=
  ∀ f args h v h', call (.func f) args h = some (v, h') → E.ext f args h = none → ∀ (ρ : Ren) (w : World) (args' : Array Value), HR P ρ h w → GR E ρ → VRL ρ args args'.toList →
    (callFunc f args').run P w = .ok (.enter f args') w ∧ Calls P f args' w (EndOK P ρ h w v h')

/-- a block that no id names -/
theorem Stp.push0 {ρ : Ren} {h : Heap} {w : World} (hr : HR P ρ h w) (o : Obj) : Stp P ρ h w ρ h (w.alloc o) where
  le := Ren.le_refl _
  hr := {
    dom := fun i b c e => by
      have := hr.dom i b c e
      exact ⟨this.1, by simp; omega⟩
    blk := fun i b c e => by
      obtain ⟨k, o', e1, e2, e3⟩ := hr.blk i b c e
      have hlt := (hr.dom i b c e).2
      refine ⟨k, o', e1, ?_, e3⟩
      show (w.heap.push o)[b]? = _
      rw [Array.getElem?_push, if_neg (by omega)]; exact e2
    inj := hr.inj }
  n := Nat.le_refl _
  new i x e e0 := by rw [e] at e0; cases e0
  keep _ _ _ := rfl
  os := rfl
  tape := rfl
  output := rfl
  size := by simp
  frame b hb _ := by
    show (w.heap.push o)[b]? = _
    rw [Array.getElem?_push, if_neg (by omega)]
  img i b c e _ := ⟨i, c, e, .inl rfl⟩
  stays _ _ _ _ := rfl

/-- the mark that is laid -/
theorem DR.mark {B : Nat} {ρ : Ren} {h : Heap} {w : World} {ds : List Deferred} (hr : HR P ρ h w) (hd : DR P B ρ w ds) (hB : B ≤ w.heap.size) :
    DR P B ρ (w.alloc (.deferred (some []))) ({ target := .collected w.heap.size, args := #[] } :: ds) := by
  have hst := hd.step (Stp.push0 hr (.deferred (some [])))
  refine ⟨.cons (fun d hm D' e1 e2 => ?_) hd.nd, fun d hm => ?_⟩
  · rw [e2] at hm
    rcases hd.each _ hm with ⟨D, e, _, hD, _⟩ | ⟨f, cap, args, e, _⟩
    · have hlt := (Array.getElem?_eq_some_iff.1 hD).1
      injection e with e3 _
      injection e3 with e4
      injection e1 with e5 _
      injection e5 with e6
      omega
    · cases e
  · rcases List.mem_cons.1 hm with rfl | hm
    · exact .inl ⟨_, rfl, hB, World.alloc_heap_new _ _, fun i c e => by have := (hr.dom _ _ _ e).2; omega⟩
    · exact hst.each d hm

/-- behind the function that was ranged over -/
theorem endLoop_sim {ρ : Ren} {h : Heap} {w : World} {i l : Nat} {c : Nat} {fr fr' : Fr} {ex : Ex} {h' : Heap} (hr : HR P ρ h w) (hl : ρ i = some (l, c)) (e : endLoopA h i fr = some (ex, fr', h')) :
    fr' = fr ∧ ∃ jump w', (Instr.endLoop l).run P w = .ok jump w' ∧ Stp P ρ h w ρ h' w' ∧
      ((jump = none ∧ ex = .normal) ∨ (jump = some .ret ∧ ex = .ret) ∨ ∃ id, jump = some (.exit id) ∧ ex = .exit id) := by
  have hlt := (hr.dom _ _ _ hl).1
  obtain ⟨k, o, k1, k2, k3⟩ := hr.blk _ _ _ hl
  unfold endLoopA at e
  simp only [getBlk, blt_eq, hlt, decide_true, cond_true, k1] at e
  cases k3 with
  | loop fr0 r0 hfr0 =>
    have hsz := (Array.getElem?_eq_some_iff.1 k2).1
    have fin : r0.state ≠ .busy → Stp P ρ h w ρ (setBlk h i (.loop .exhausted r0.pending fr0 r0.tmps.size r0.params.toList r0.assign r0.body)) (w.putObj l (.loop { r0 with state := .exhausted })) := fun _ =>
      Stp.write hr hl k1 (by simp [soft]) (BR.loop (P := P) (c := c) fr0 { r0 with state := .exhausted } hfr0) (by simp) (World.putObj_heap_same hsz) (fun j hj => World.putObj_heap_other hj) rfl rfl rfl
    have run := fun hb => run_endLoop (P := P) k2 hb
    obtain ⟨st, pend, fnn, tmps, prms, asg, bdy, dfs⟩ := r0
    simp only at e fin run
    cases st with
    | busy => cases e
    | _ =>
      have fin := fin (by simp)
      have run := run (by simp)
      cases pend with
      | none =>
        simp only [Option.some.injEq, Prod.mk.injEq] at e
        obtain ⟨rfl, rfl, rfl⟩ := e
        exact ⟨rfl, _, _, run, fin, .inl ⟨rfl, rfl⟩⟩
      | some p =>
        cases p with
        | ret =>
          simp only [Option.some.injEq, Prod.mk.injEq] at e
          obtain ⟨rfl, rfl, rfl⟩ := e
          exact ⟨rfl, _, _, run, fin, .inr (.inl ⟨rfl, rfl⟩)⟩
        | exit id =>
          simp only [Option.some.injEq, Prod.mk.injEq] at e
          obtain ⟨rfl, rfl, rfl⟩ := e
          exact ⟨rfl, _, _, run, fin, .inr (.inr ⟨id, rfl, rfl⟩)⟩
        | _ => cases e
  | _ => simp at e

theorem loop_sim {B : Nat} {F : Fence} {n : Nat} {rd : Option Nat} {b : Code} (ih0 : BodyS P E B F rd nt (code E call nt rd b) (fun Q a w => b.wpIn F n P Q a w)) (ρ : Ren) (h : Heap) (w : World) (fr : Fr) (a : Act) (ex : Ex) (fr' : Fr) (h' : Heap) (Q : Exit → Act → World → Prop)
    (hf : FR E ρ fr a) (hr : HR P ρ h w) (hnt : a.tmps.size = nt) (hd : DR P B ρ w a.defers) (hrd : RdR F ρ rd) (hB : B ≤ w.heap.size) (e : iter (code E call nt rd b) 1000000 fr h = some (ex, fr', h'))
    (hq : ∀ a' w', After B P E ρ h w nt fr' h' a' w' → Q (toExit ex) a' w') : (Code.loop b).wpIn F n P Q a w := by
    refine wpIn_loop_rounds 1000000 ?_
    generalize 1000000 = m at e ⊢
    induction m generalizing ρ h w fr a with
    | zero => simp [iter] at e
    | succ m ih =>
      simp only [iter] at e
      show b.wpIn F n P (Exit.then (roundsIn F n P b Q m) Q) a w
      split at e
      · rename_i f1 h1 e1
        refine ih0 ρ h w fr a _ f1 h1 _ hf hr hnt hd hrd hB e1 fun a1 w1 hA => ?_
        obtain ⟨ρ1, hf1, hs, hnt1, hd1⟩ := hA
        exact ih ρ1 h1 w1 f1 a1 hf1 hs.hr hnt1 hd1 (hrd.mono hs.le) (Nat.le_trans hB hs.size) (fun a2 w2 hA => hq a2 w2 (hA.trans hs)) e
      · rename_i hno
        refine ih0 ρ h w fr a ex fr' h' _ hf hr hnt hd hrd hB e fun a1 w1 hA => ?_
        cases ex with
        | normal => exact absurd e (hno _ _)
        | exit id => exact hq a1 w1 hA
        | ret => exact hq a1 w1 hA
theorem mapLoop_sim (hE : EnvOK P E) {B : Nat} {F : Fence} {n : Nat} (hF : FOK F) {rd : Option Nat} (hc : CallSound P E call) {id : Nat} {ops : Array Oper} {rest : Code} (ihr : BodyS P E B F rd nt (code E call nt rd rest) (fun Q a w => rest.wpIn F n P Q a w)) {M : MHead} {ρ : Ren} {h : Heap} {w : World} {fr : Fr} {a : Act} {ex : Ex} {fr' : Fr} {h' : Heap} {Q : Exit → Act → World → Prop}
    (hf : FR E ρ fr a) (hr : HR P ρ h w) (hnt : a.tmps.size = nt) (hd : DR P B ρ w a.defers) (hrd : RdR F ρ rd) (hB : B ≤ w.heap.size) {D : List Nat} (hM : mapHead E ops.toList fr h = some M)
    (e : mapAll (fun fr h => match stepsText E call nt ops.toList M.tail fr h with | some (fr, h) => code E call nt rd rest fr h | none => none) nt M (eraseF D fr (List.range nt)) h = some (ex, fr', h'))
    (hq : ∀ a' w', After B P E ρ h w nt fr' h' a' w' → Q (toExit ex) a' w') : (Code.loop (.seq (.region id ops false) rest)).wpIn F n P Q a w := by
  obtain ⟨m1, ⟨m2, m3⟩, m4, m5, m6, m7, m8, m9, m10, m11, m12⟩ := mapHead_spec hM
  refine wpIn_loop_rounds 1000000 ?_
  have hfr0 : FR E ρ (eraseF D fr (List.range nt)) a := ⟨hf.glob, fun t v hv => hf.tmp t v (eraseF_get hv).1⟩
  have hlt : ∀ t v, (eraseF D fr (List.range nt)).get t = some v → t < nt := fun t v hv => List.mem_range.1 (eraseF_get hv).2
  have rp := hf.tmp M.t _ m3
  have hit : ∃ rb cr, ρ M.r = some (rb, cr) := by
    generalize a.tmps.getD M.t undef = u at rp
    cases rp with
    | ptr _ hi => exact ⟨_, _, hi⟩
  obtain ⟨rb, cr, hit⟩ := hit
  obtain ⟨k, o, k1, k2, k3⟩ := hr.blk _ _ _ hit
  rw [m5] at k1
  cases k1
  cases k3 with
  | @miter _ mb cm hmp _ _ _ =>
    have hsoft : ¬ Ev.soft (h.b.get M.r) := by rw [m5]; simp [soft]
    have hbody : BodyS P E B F rd nt (fun fr h => match stepsText E call nt ops.toList M.tail fr h with | some (fr, h) => code E call nt rd rest fr h | none => none)
        (fun Q a w => wpOpsIn F n P ops (Exit.then (fun a w => rest.wpIn F n P Q a w) Q) (List.range' 1 M.tail.length) a w) := by
      intro ρ h w fr a ex fr' h' Q hf hr hnt hd hrd hB e hq
      simp only at e
      split at e
      · rename_i f1 h1 e1
        refine text_sim hE hF hc (Q := Exit.then (fun a w => rest.wpIn F n P Q a w) Q) M.tail 1 ρ fr f1 a h h1 w (fun i => ?_) hf hr hnt hd e1 fun a1 w1 hA => ?_
        · rw [← Array.getElem?_toList, m1, Nat.add_comm, List.getElem?_cons_succ]
        · obtain ⟨ρ1, hf1, hs, hnt1, hd1⟩ := hA
          exact ihr ρ1 h1 w1 f1 a1 ex fr' h' Q hf1 hs.hr hnt1 hd1 (hrd.mono hs.le) (Nat.le_trans hB hs.size) e fun a2 w2 hA => hq a2 w2 (hA.trans hs)
      · cases e
    have x : atR M (eraseF D fr (List.range nt)) = true → MFix P E B F n rd nt (eraseF D fr (List.range nt)) M ρ h w _ _ ops M.t (.seq (.region id ops false) rest) (fun Q => Exit.then (fun a w => rest.wpIn F n P Q a w) Q) := fun hat =>
      { hF := hF, hbody := hbody, hi := by rw [← Array.getElem?_toList, m1]; rfl, hop := m2, hgd := m4, ht := atR_spec hat, hborn := m9, hB := hB, hrm := m11, hr0 := ⟨_, hit⟩, hnd := hsoft, hlt := hlt,
        hb := fun Q a w h => by
          refine wpIn_seq (wpIn_region ?_)
          have hsz : ops.size = M.tail.length + 1 := by rw [← Array.length_toList, m1]; rfl
          rw [List.range_eq_range', hsz, List.range'_succ, wpOpsIn_cons]
          exact h }
    refine mapAll_sim x rfl m10 e hq (rb := rb) (cr := cr) (mb := mb) ?_ (by omega)
    obtain ⟨i, b', c', es', hmi, _, _, e1', _, _⟩ := getMap_sim hr m6 (.map hmp)
    cases hmi
    refine ⟨hfr0, Stp.kill hr hit hsoft, hnt, hd, hrd, hit, k2, ⟨_, hmp⟩, e1', fun i c e hi => ?_⟩
    rcases hr.inj i M.r rb c cr e hit hi with e' | e'
    · exact e'
    · rw [m5] at e'; cases e'
theorem code_simN (hE : EnvOK P E) {B : Nat} {F : Fence} {n : Nat} (hF : FOK F) (rd : Option Nat) (hc : CallSound P E call) (hcs : EnterSound P E call) : ∀ (N : Nat) (c : Code), SizeOf.sizeOf c ≤ N → ∀ (ρ : Ren) (h : Heap) (w : World) (fr : Fr) (a : Act) (ex : Ex) (fr' : Fr) (h' : Heap) (Q : Exit → Act → World → Prop),
    FR E ρ fr a → HR P ρ h w → a.tmps.size = nt → DR P B ρ w a.defers → RdR F ρ rd → B ≤ w.heap.size → code E call nt rd c fr h = some (ex, fr', h') →
    (∀ a' w', After B P E ρ h w nt fr' h' a' w' → Q (toExit ex) a' w') → c.wpIn F n P Q a w
  | 0, c, hN, _, _, _, _, _, _, _, _, _, _, _, _, _, _, _, _, _ => absurd hN (by cases c <;> simp)
  | N + 1, .skip, hN, ρ, h, w, fr, a, ex, fr', h', Q, hf, hr, hnt, hd, hrd, hB, e, hq => by
    simp only [code, Option.some.injEq, Prod.mk.injEq] at e
    obtain ⟨rfl, rfl, rfl⟩ := e
    exact wpIn_skip (hq a w ⟨ρ, hf, Stp.refl hr, hnt, hd⟩)
  | N + 1, .label _, hN, ρ, h, w, fr, a, ex, fr', h', Q, hf, hr, hnt, hd, hrd, hB, e, hq => by
    simp only [code, Option.some.injEq, Prod.mk.injEq] at e
    obtain ⟨rfl, rfl, rfl⟩ := e
    exact wpIn_label (hq a w ⟨ρ, hf, Stp.refl hr, hnt, hd⟩)
  | N + 1, .exit id, hN, ρ, h, w, fr, a, ex, fr', h', Q, hf, hr, hnt, hd, hrd, hB, e, hq => by
    simp only [code, Option.some.injEq, Prod.mk.injEq] at e
    obtain ⟨rfl, rfl, rfl⟩ := e
    exact wpIn_exit (hq a w ⟨ρ, hf, Stp.refl hr, hnt, hd⟩)
  | N + 1, .ret, hN, ρ, h, w, fr, a, ex, fr', h', Q, hf, hr, hnt, hd, hrd, hB, e, hq => by
    simp only [code, Option.some.injEq, Prod.mk.injEq] at e
    obtain ⟨rfl, rfl, rfl⟩ := e
    exact wpIn_ret (hq a w ⟨ρ, hf, Stp.refl hr, hnt, hd⟩)
  | N + 1, .region id ops false, hN, ρ, h, w, fr, a, ex, fr', h', Q, hf, hr, hnt, hd, hrd, hB, e, hq => by
    simp only [code] at e
    cases hdf : ops.toList.any isDefer with
    | true =>
      rw [hdf] at e
      cases rd with
      | some l => cases e
      | none =>
        simp only [Option.isNone_none, cond_true, Option.map_eq_some_iff, Prod.mk.injEq] at e
        obtain ⟨⟨f1, h1⟩, e, rfl, rfl, rfl⟩ := e
        refine wpIn_region ?_
        have := defer_sim (n := n) hE hF hrd (Q := Q) ops.toList 0 ρ fr f1 a h h1 w (fun i => by simp) hf hr hnt hd e hq
        rw [List.range_eq_range']
        simpa using this
    | false =>
    rw [hdf] at e
    simp only [cond_false, Option.map_eq_some_iff, Prod.mk.injEq] at e
    obtain ⟨⟨f1, h1⟩, e, rfl, rfl, rfl⟩ := e
    refine wpIn_region ?_
    have := text_sim (n := n) hE hF hc (Q := Q) ops.toList 0 ρ fr f1 a h h1 w (fun i => by simp) hf hr hnt hd e hq
    rw [List.range_eq_range']
    simpa using this
  | N + 1, .region id ops true, hN, ρ, h, w, fr, a, ex, fr', h', Q, hf, hr, hnt, hd, hrd, hB, e, hq => by
    simp only [code] at e
    split at e
    · rename_i pl hpl
      simp only [Option.map_eq_some_iff, Prod.mk.injEq] at e
      obtain ⟨⟨f1, h1⟩, e, rfl, rfl, rfl⟩ := e
      exact region_sim hE hF hc hpl e hf hr hnt hd hq
    · split at e
      · rename_i q A Z hplI
        split at e
        · rename_i f0 h0 hrq
          cases hall : insAll E ops.toList f0 h0 A with
          | false => rw [hall] at e; cases e
          | true =>
            rw [hall] at e
            simp only [cond_true, Option.map_eq_some_iff, Prod.mk.injEq] at e
            obtain ⟨⟨f1, h1⟩, e, rfl, rfl, rfl⟩ := e
            exact region_simI hE hF hc hplI hrq hall e hf hr hnt hd hq
        · cases e
      · cases e
  | N + 1, .seq x y, hN, ρ, h, w, fr, a, ex, fr', h', Q, hf, hr, hnt, hd, hrd, hB, e, hq => by
    simp only [code] at e
    refine wpIn_seq ?_
    split at e
    · rename_i f1 h1 e1
      refine code_simN hE hF rd hc hcs N x (by simp at hN; omega) ρ h w fr a _ f1 h1 _ hf hr hnt hd hrd hB e1 fun a1 w1 hA => ?_
      obtain ⟨ρ1, hf1, hs, hnt1, hd1⟩ := hA
      exact code_simN hE hF rd hc hcs N y (by simp at hN; omega) ρ1 h1 w1 f1 a1 ex fr' h' Q hf1 hs.hr hnt1 hd1 (hrd.mono hs.le) (Nat.le_trans hB hs.size) e fun a2 w2 hA => hq a2 w2 (hA.trans hs)
    · rename_i hno
      refine code_simN hE hF rd hc hcs N x (by simp at hN; omega) ρ h w fr a ex fr' h' _ hf hr hnt hd hrd hB e fun a1 w1 hA => ?_
      cases ex with
      | normal => exact absurd e (hno _ _)
      | exit id => exact hq a1 w1 hA
      | ret => exact hq a1 w1 hA
  | N + 1, .cond c x y, hN, ρ, h, w, fr, a, ex, fr', h', Q, hf, hr, hnt, hd, hrd, hB, e, hq => by
    simp only [code] at e
    split at e
    · rename_i hc'
      have r := ev_sim hf hc'
      generalize hce : a.eval c = u at r
      cases r
      exact wpIn_cond_true hce (code_simN hE hF rd hc hcs N x (by simp at hN; omega) ρ h w fr a ex fr' h' Q hf hr hnt hd hrd hB e hq)
    · rename_i hc'
      have r := ev_sim hf hc'
      generalize hce : a.eval c = u at r
      cases r
      exact wpIn_cond_false hce (code_simN hE hF rd hc hcs N y (by simp at hN; omega) ρ h w fr a ex fr' h' Q hf hr hnt hd hrd hB e hq)
    · cases e
  | N + 1, .block id b, hN, ρ, h, w, fr, a, ex, fr', h', Q, hf, hr, hnt, hd, hrd, hB, e, hq => by
    simp only [code] at e
    refine wpIn_block ?_
    split at e
    · rename_i j f1 h1 e1
      simp only [Option.some.injEq, Prod.mk.injEq] at e
      obtain ⟨rfl, rfl, rfl⟩ := e
      refine code_simN hE hF rd hc hcs N b (by simp at hN; omega) ρ h w fr a _ f1 h1 _ hf hr hnt hd hrd hB e1 fun a1 w1 hA => ?_
      have := hq a1 w1 hA
      show Exit.inBlock id Q (.exit j) a1 w1
      simp only [Exit.inBlock]
      rw [cond_beq] at this
      by_cases hj : j = id
      · rw [if_pos hj] at this ⊢; exact this
      · rw [if_neg hj] at this ⊢; exact this
    · rename_i hno
      refine code_simN hE hF rd hc hcs N b (by simp at hN; omega) ρ h w fr a ex fr' h' _ hf hr hnt hd hrd hB e fun a1 w1 hA => ?_
      cases ex with
      | normal => exact hq a1 w1 hA
      | exit id => exact absurd e (hno _ _ _)
      | ret => exact hq a1 w1 hA
  | N + 1, .loop b, hN, ρ, h, w, fr, a, ex, fr', h', Q, hf, hr, hnt, hd, hrd, hB, e, hq => by
    have ih0 : BodyS P E B F rd nt (code E call nt rd b) (fun Q a w => b.wpIn F n P Q a w) := fun ρ h w fr a ex fr' h' Q hf hr hnt hd hrd hB e hq => code_simN hE hF rd hc hcs N b (by simp at hN; omega) ρ h w fr a ex fr' h' Q hf hr hnt hd hrd hB e hq
    by_cases hb : ∃ id ops rest, b = .seq (.region id ops false) rest
    · obtain ⟨id, ops, rest, rfl⟩ := hb
      simp only [code] at e
      split at e
      · exact loop_sim ih0 ρ h w fr a ex fr' h' Q hf hr hnt hd hrd hB e hq
      · rename_i M hM
        exact mapLoop_sim hE hF hc (fun ρ h w fr a ex fr' h' Q hf hr hnt hd hrd hB e hq => code_simN hE hF rd hc hcs N rest (by simp at hN; omega) ρ h w fr a ex fr' h' Q hf hr hnt hd hrd hB e hq) hf hr hnt hd hrd hB hM e hq
    · have e' : code E call nt rd (.loop b) fr h = iter (code E call nt rd b) 1000000 fr h := by
        cases b with
        | seq x y => cases x with
          | region id ops dr => cases dr with
            | true => simp only [code]
            | false => exact absurd ⟨_, _, _, rfl⟩ hb
          | _ => simp only [code]
        | _ => simp only [code]
      rw [e'] at e
      exact loop_sim ih0 ρ h w fr a ex fr' h' Q hf hr hnt hd hrd hB e hq
  | N + 1, .scope b, hN, ρ, h, w, fr, a, ex, fr', h', Q, hf, hr, hnt, hd, hrd, hB, e, hq => by
    simp only [code] at e
    refine wpIn_scope_straight (code_simN hE hF rd hc hcs N b (by simp at hN; omega) ρ h w fr a ex fr' h' _ hf hr hnt hd hrd hB e fun a1 w1 hA => ?_)
    have := hq a1 w1 hA
    cases ex <;> exact this
  | N + 1, .rangeFunc g ps assign bd, hN, ρ, h, w, fr, a, ex, fr', h', Q, hf, hr, hnt, hd, hrd, hB, e, hq => by
    subst hnt
    simp only [code] at e
    cases hin : inRound h rd with
    | false => rw [hin] at e; cases e
    | true =>
      rw [hin] at e
      simp only [cond_true] at e
      split at e
      · rename_i f first cap hg
        split at e
        · cases e
        · rename_i hext
          split at e
          · rename_i v2 h2 hcall
            refine wpIn_rangeFunc fun fn _ => ?_
            obtain ⟨l, mark, w1, ρ1, henter, hst, hl, hdr⟩ : ∃ (l : Nat) (mark : List Deferred) (w1 : World) (ρ1 : Ren), (Instr.enterLoop fn a.tmps ps assign bd F.round).run P w = .ok (l, mark) w1 ∧
                Stp P ρ h w ρ1 (newBlk h (.loop .ready none fr a.tmps.size ps.toList assign bd)) w1 ∧ ρ1 h.n = some (l, 0) ∧ DR P B ρ1 w1 (mark ++ a.defers) := by
              cases rd with
              | none =>
                have hrd : F.round = none := hrd
                rw [hrd]
                have h0 := Stp.push0 hr (.deferred (some []))
                have hdm := DR.mark hr hd hB
                have h1 := Stp.alloc (c := 0) h0.hr (BR.loop (P := P) (c := 0) fr { state := .ready, pending := none, fn, tmps := a.tmps, params := ps, assign, body := bd, defers := w.heap.size } hf.tmp)
                  (w' := (w.alloc (.deferred (some []))).alloc (.loop { state := .ready, pending := none, fn, tmps := a.tmps, params := ps, assign, body := bd, defers := w.heap.size })) rfl rfl rfl rfl
                refine ⟨_, _, _, _, run_enterLoop_outer fn a.tmps ps assign bd, h0.trans h1, by rw [Ren.upd_same]; simp, hdm.step h1⟩
              | some l0 =>
                obtain ⟨b, c, e1, e2⟩ := hrd
                rw [e2]
                obtain ⟨k, o, k1, k2, k3⟩ := hr.blk l0 b c e1
                have hlt := (hr.dom l0 b c e1).1
                simp only [inRound, getBlk, blt_eq, hlt, decide_true, cond_true, k1] at hin
                cases k3 with
                | loop fr0 r0 _ =>
                  have h1 := Stp.alloc (c := 0) hr (BR.loop (P := P) (c := 0) fr { state := .ready, pending := none, fn, tmps := a.tmps, params := ps, assign, body := bd, defers := r0.defers } hf.tmp)
                    (w' := w.alloc (.loop { state := .ready, pending := none, fn, tmps := a.tmps, params := ps, assign, body := bd, defers := r0.defers })) rfl rfl rfl rfl
                  exact ⟨_, _, _, _, run_enterLoop_inner k2 fn a.tmps ps assign bd, h1, by rw [Ren.upd_same], by simpa using hd.step h1⟩
                | _ => simp at hin
            have r := ev_sim hf hg
            generalize hge : a.eval g = gv at r
            cases r with
            | func _ _ _ first' cap' _ r1 r2 =>
              have rargs : VRL ρ1 (first.toList ++ Value.func (.yield h.n) #[] #[] :: cap.toList) (first' ++ #[Value.func (.yield l) #[] #[]] ++ cap').toList := by
                simp only [Array.toList_append]
                have := ((r1.mono hst.le).append (.cons (.yield hl) .nil)).append (r2.mono hst.le)
                simpa using this
              obtain ⟨hent, hcalls⟩ := hcs _ _ _ _ _ hcall hext ρ1 w1 _ hst.hr (GR.mono hf.glob hst.le) rargs
              refine ⟨l, mark, w1, { target := .fn (.func f) cap', args := first' ++ #[.func (.yield l) #[] #[]] }, w1, f, first' ++ #[.func (.yield l) #[] #[]] ++ cap', w1, henter, ?_, fun f' _ => hF.fn f', ?_, fun hdep => (by rw [hF.depth] at hdep; cases hdep), ?_⟩
              · simp only [resolve, hge, Deferred.ofValue]
                simp [Act.eval]
              · exact hent
              refine CallsIn.mono (hF.calls (n - 1) P f _ w1 _ hcalls) ?_
              intro en w3 hh
              · obtain ⟨v', ρ2, rfl, _, hs2⟩ := hh
                have hl2 := hs2.le _ _ hl
                have hst2 := hst.trans hs2
                obtain ⟨rfl, jump, w4, hend, hs3, hj⟩ := endLoop_sim hs2.hr hl2 e
                have hall := hst2.trans hs3
                have haft : After B P E ρ h w a.tmps.size fr' h' { a with defers := mark ++ a.defers } w4 :=
                  ⟨ρ2, ⟨GR.mono hf.glob hall.le, fun t v e => (hf.tmp t v e).mono hall.le⟩, hall, rfl, (hdr.step hs2).step hs3⟩
                refine ⟨jump, w4, hend, ?_⟩
                rcases hj with ⟨rfl, rfl⟩ | ⟨rfl, rfl⟩ | ⟨id, rfl, rfl⟩
                · exact hq _ _ haft
                · exact wpIn_ret (hq _ _ haft)
                · exact wpIn_exit (hq _ _ haft)
          · cases e
      · cases e
  | N + 1, .goto .., hN, ρ, h, w, fr, a, ex, fr', h', Q, hf, hr, hnt, hd, hrd, hB, e, hq => by simp [code] at e
  | N + 1, .refuse .., hN, ρ, h, w, fr, a, ex, fr', h', Q, hf, hr, hnt, hd, hrd, hB, e, hq => by simp [code] at e

/-! results -/
theorem code_sim (hE : EnvOK P E) {B : Nat} {F : Fence} {n : Nat} (hF : FOK F) (rd : Option Nat) (hc : CallSound P E call) (hcs : EnterSound P E call) (c : Code) (ρ : Ren) (h : Heap) (w : World) (fr : Fr) (a : Act) (ex : Ex) (fr' : Fr) (h' : Heap) (Q : Exit → Act → World → Prop)
    (hf : FR E ρ fr a) (hr : HR P ρ h w) (hnt : a.tmps.size = nt) (hd : DR P B ρ w a.defers) (hrd : RdR F ρ rd) (hB : B ≤ w.heap.size) (e : code E call nt rd c fr h = some (ex, fr', h'))
    (hq : ∀ a' w', After B P E ρ h w nt fr' h' a' w' → Q (toExit ex) a' w') : c.wpIn F n P Q a w :=
  code_simN hE hF rd hc hcs (SizeOf.sizeOf c) c (Nat.le_refl _) ρ h w fr a ex fr' h' Q hf hr hnt hd hrd hB e hq
theorem mapOpt_cons {α β : Type} {f : α → Option β} {x : α} {l : List α} {r : List β} (h : mapOpt f (x :: l) = some r) : ∃ y ys, f x = some y ∧ mapOpt f l = some ys ∧ r = y :: ys := by
  simp only [mapOpt] at h
  split at h
  · rename_i y ys h1 h2; cases h; exact ⟨y, ys, h1, h2, rfl⟩
  · cases h

def resR (tmps : Array Value) (r : ResultVar) : Sem Value :=
  match r with
  | .tmp t => pure (tmps.getD t undef)
  | .cell b t => do loadVar t (← asAddr (tmps.getD b undef))
theorem results_eq (fn : Func) (tmps : Array Value) : results fn tmps = ((fn.results.mapM (resR tmps)) >>= fun vs => pure (if h : vs.size = 1 then vs[0] else .tuple vs)) := by
  have : (resR tmps) = (fun | .tmp t => pure (tmps.getD t undef) | .cell a t => do loadVar t (← asAddr (tmps.getD a undef)) : ResultVar → Sem Value) := by funext r; cases r <;> rfl
  rw [this]
  rfl

theorem res_sim (hE : EnvOK P E) {ρ : Ren} {h : Heap} {w : World} {fr : Fr} {a : Act} (hf : FR E ρ fr a) (hr : HR P ρ h w) {r : ResultVar} {v : Value} (e : resOf E fr h r = some v) :
    ∃ v', (resR a.tmps r).run P w = .ok v' w ∧ VR ρ v v' := by
  cases r with
  | tmp t =>
    simp only [resOf] at e
    exact ⟨a.eval (.tmp t), by simp [resR, Act.eval], ev_sim hf e⟩
  | cell b t =>
    simp only [resOf] at e
    split at e
    · rename_i x hx
      have rx := hf.tmp b x hx
      obtain ⟨v', hrun, r⟩ := loadAt_sim hE hr e rx
      refine ⟨v', ?_, r⟩
      have hptr : ∃ p, a.tmps.getD b undef = .pointer (some p) := by
        unfold loadAt at e
        split at e
        · generalize a.tmps.getD b undef = u at rx
          cases rx with
          | ptr off hh => exact ⟨_, rfl⟩
        · cases e
      obtain ⟨p, hp⟩ := hptr
      simp only [resR]
      rw [hp] at hrun ⊢
      simpa [Instr.loadAt, Instr.sureAddr, asAddr] using hrun
    · cases e

theorem resL_sim (hE : EnvOK P E) {ρ : Ren} {h : Heap} {w : World} {fr : Fr} {a : Act} (hf : FR E ρ fr a) (hr : HR P ρ h w) : ∀ (rs : List ResultVar) (vs : List Value), mapOpt (resOf E fr h) rs = some vs →
    ∃ vs', (rs.mapM (resR a.tmps)).run P w = .ok vs' w ∧ VRL ρ vs vs'
  | [], vs, e => by simp [mapOpt] at e; subst e; exact ⟨[], by simp, .nil⟩
  | r :: rs, vs, e => by
    obtain ⟨y, ys, h1, h2, rfl⟩ := mapOpt_cons e
    obtain ⟨v', e1, r1⟩ := res_sim hE hf hr h1
    obtain ⟨vs', e2, r2⟩ := resL_sim hE hf hr rs ys h2
    refine ⟨v' :: vs', ?_, .cons r1 r2⟩
    rw [List.mapM_cons]
    simp only [Sem.run_bind, Sem.run_pure]
    rw [e1]
    simp only [Result.andThen_ok, e2]

def resVal : List Value → Value
  | [v] => v
  | vs => .tuple vs.toArray
theorem results_sim (hE : EnvOK P E) {ρ : Ren} {h : Heap} {w : World} {fr : Fr} {a : Act} (hf : FR E ρ fr a) (hr : HR P ρ h w) {fn : Func} {vs : List Value} (e : mapOpt (resOf E fr h) fn.results.toList = some vs) :
    ∃ v', (results fn a.tmps).run P w = .ok v' w ∧ VR ρ (resVal vs) v' := by
  obtain ⟨vs', e1, r⟩ := resL_sim hE hf hr _ _ e
  have hm : (results fn a.tmps).run P w = .ok (if h : vs'.toArray.size = 1 then vs'.toArray[0] else .tuple vs'.toArray) w := by
    rw [results_eq, Array.mapM_eq_mapM_toList]
    simp only [Sem.run_bind, Sem.run_map, Sem.run_pure]
    rw [e1]
    simp only [Result.andThen_ok]
  refine ⟨_, hm, ?_⟩
  cases r with
  | nil => exact .tuple _ _ .nil
  | cons r1 r2 =>
    cases r2 with
    | nil => exact r1
    | cons r3 r4 =>
      simp only [List.size_toArray, List.length_cons]
      rw [dif_neg (by omega)]
      exact .tuple _ _ (.cons r1 (.cons r3 r4))
end

theorem setAll_get : ∀ (l : List Value) (i : Nat) (fr : Fr) (t : Nat), (setAll l i fr).get t = if i ≤ t ∧ t < i + l.length then l[t - i]? else fr.get t
  | [], i, fr, t => by simp [setAll]; omega
  | v :: l, i, fr, t => by
    rw [setAll, setAll_get l]
    by_cases h : i = t
    · subst h; rw [if_neg (by omega), if_pos (by simp), T.get_set_same]; simp
    · by_cases h2 : i + 1 ≤ t ∧ t < i + 1 + l.length
      · rw [if_pos h2, if_pos (by simp; omega), show t - i = (t - (i + 1)) + 1 by omega]; simp
      · rw [if_neg h2, T.get_set_ne _ _ h, if_neg (by simp; omega)]

def ExtOK (P : Program) (E : Env) : Prop := ∀ f args h v h', E.ext f args h = some (some (v, h')) → ∀ (ρ : Ren) (w : World) (args' : Array Value), HR P ρ h w → GR E ρ → VRL ρ args args'.toList → CallOK P ρ h w (.func f) args' v h'
def NamesOK (P : Program) : Prop := ∀ (f : FuncId) (fn : Func), P.funcs[f]? = some fn → fn.body.isSome = true → fn.name ≠ "runtime.NumGoroutine"

theorem run_callFunc {f : FuncId} {fn : Func} {c : Code} (hf : P.funcs[f]? = some fn) (hn : NamesOK P) (hb : fn.body = some c) (args : Array Value) (w : World) : (callFunc f args).run P w = .ok (.enter f args) w := by
  have := hn f fn hf (by rw [hb]; rfl)
  simp [callFunc, hf, this, hb]

/-- a mark is taken: its block is nobody's -/
theorem Stp.take {ρ ρ' : Ren} {h h' : Heap} {w w' : World} (hs : Stp P ρ h w ρ' h' w') {D : Nat} {o : Obj} (hB : w.heap.size ≤ D) (hi : ∀ i c, ρ' i ≠ some (D, c)) : Stp P ρ h w ρ' h' (w'.putObj D o) where
  le := hs.le
  hr := {
    dom := fun i b c e => by rw [World.putObj_size]; exact hs.hr.dom i b c e
    blk := fun i b c e => by
      obtain ⟨k, o', e1, e2, e3⟩ := hs.hr.blk i b c e
      have hne : b ≠ D := by intro hb; subst hb; exact hi i c e
      exact ⟨k, o', e1, by rw [World.putObj_heap_other hne]; exact e2, e3⟩
    inj := hs.hr.inj }
  n := hs.n
  new := hs.new
  keep := hs.keep
  os := hs.os
  tape := hs.tape
  output := hs.output
  size := by rw [World.putObj_size]; exact hs.size
  frame b hb hn := by
    have hne : b ≠ D := by omega
    rw [World.putObj_heap_other hne]; exact hs.frame b hb hn
  img := hs.img
  stays := hs.stays

theorem leaves_marks (hn : NamesOK P) {fn : Func} {tmps : Array Value} {R : Ending → World → Prop} {ρ ρ' : Ren} {h h' : Heap} {w : World}
    (hlast : ∀ w', Stp P ρ h w ρ' h' w' → ∃ v, (results fn tmps).run P w' = .ok v w' ∧ R (.returned v) w') :
    ∀ (ds : List Deferred) (w' : World), Stp P ρ h w ρ' h' w' → DR P w.heap.size ρ' w' ds → LeavesInM Fence.wide 0 P fn tmps R ds .returning w'
  | [], w', hs, _ => hlast w' hs
  | d :: ds, w', hs, hd => by
    have hnd := List.pairwise_cons.1 hd.nd
    rcases hd.each d (List.mem_cons_self ..) with ⟨D, rfl, hB, hD, hi⟩ | ⟨f, cap, args, rfl, hh⟩
    · refine ⟨by simp, .inl ⟨D, _, rfl, run_takeDeferred hD, ?_⟩⟩
      refine leaves_marks hn hlast ds _ (hs.take hB hi) ⟨hnd.2, fun d hm => ?_⟩
      rcases hd.each d (List.mem_cons_of_mem _ hm) with ⟨D', e, hB', hD', hi'⟩ | hh
      · have hne : D' ≠ D := by
          intro hx
          subst hx
          exact hnd.1 d hm _ rfl e
        exact .inl ⟨D', e, hB', by rw [World.putObj_heap_other hne]; exact hD', hi'⟩
      · exact .inr hh
    · refine ⟨by simp, .inr ⟨fun hx => (by cases hx), .func f, cap, f, args ++ cap, rfl, ?_, fun _ _ => trivial, ?_⟩⟩
      · obtain ⟨fn', c, h1, h2⟩ := hh.1
        exact run_callFunc h1 hn h2 _ w'
      · refine (hh.2 (args ++ cap) w').mono ?_
        rintro e u w2 ⟨⟨v, rfl⟩, rfl, rfl⟩
        exact leaves_marks hn hlast ds w2 hs ⟨hnd.2, fun d hm => hd.each d (List.mem_cons_of_mem _ hm)⟩

/-- yield's parameters -/
theorem setPs_sim {ρ : Ren} {nt : Nat} : ∀ (ps : List Nat) (vs : List Value) (vs' : List Value) (fr fr1 : Fr) (tmps : Array Value), setPs nt ps vs fr = some fr1 → VRL ρ vs vs' → tmps.size = nt →
    (∀ t v, fr.get t = some v → VR ρ v (tmps.getD t undef)) →
    vs'.length = ps.length ∧ ((ps.zip vs').foldl (fun (tmps : Array Value) (x : Nat × Value) => tmps.setIfInBounds x.1 x.2) tmps).size = nt ∧ ∀ t v, fr1.get t = some v → VR ρ v (((ps.zip vs').foldl (fun (tmps : Array Value) (x : Nat × Value) => tmps.setIfInBounds x.1 x.2) tmps).getD t undef)
  | [], [], vs', fr, fr1, tmps, e, r, hnt, hf => by
    cases r
    simp only [setPs, Option.some.injEq] at e
    subst e
    exact ⟨rfl, hnt, hf⟩
  | t :: ps, v :: vs, vs', fr, fr1, tmps, e, r, hnt, hf => by
    cases r with
    | @cons _ v' _ l' hv hl =>
      simp only [setPs, blt_eq] at e
      by_cases hlt : t < nt
      · simp only [hlt, decide_true, cond_true] at e
        have := setPs_sim ps vs l' (fr.set t v) fr1 (tmps.setIfInBounds t v') e hl (by simpa using hnt) (fun u x hx => by
          have := getD_put (a := { tmps := tmps, defers := [] }) (d := t) (v := v') (by rw [hnt]; exact hlt) u
          simp only [Act.put] at this
          rw [T.get_set] at hx
          rw [this]
          by_cases h : t = u
          · rw [if_pos h] at hx ⊢; cases hx; exact hv
          · rw [if_neg h] at hx ⊢; exact hf u x hx)
        refine ⟨by simp [this.1], ?_⟩
        simpa using this.2
      · simp [hlt] at e
  | [], _ :: _, _, _, _, _, e, _, _, _ => by simp [setPs] at e
  | _ :: _, [], _, _, _, _, e, _, _, _ => by simp [setPs] at e

theorem endRound_sim {ρ : Ren} {h : Heap} {w : World} {i l c : Nat} {ex : Ex} {v : Value} {h' : Heap} (hr : HR P ρ h w) (hl : ρ i = some (l, c)) (e : endRoundA h i ex = some (v, h')) :
    ∃ j : Option Code, (match ex with | .normal => j = none | .exit id => j = some (.exit id) | .ret => j = some .ret) ∧ ∃ w', (Instr.endRound l j).run P w = .ok v w' ∧ VR ρ v v ∧ Stp P ρ h w ρ h' w' := by
  have hlt := (hr.dom _ _ _ hl).1
  obtain ⟨k, o, k1, k2, k3⟩ := hr.blk _ _ _ hl
  unfold endRoundA at e
  simp only [getBlk, blt_eq, hlt, decide_true, cond_true, k1] at e
  cases k3 with
  | loop fr0 r0 hfr0 =>
    have hsz := (Array.getElem?_eq_some_iff.1 k2).1
    obtain ⟨st, pend, fnn, tmps, prms, asg, bdy, dfs⟩ := r0
    have fin : ∀ (st' : LoopState) (p' : Option Code), Stp P ρ h w ρ (setBlk h i (.loop st' p' fr0 tmps.size prms.toList asg bdy)) (w.putObj l (.loop { state := st', pending := p', fn := fnn, tmps, params := prms, assign := asg, body := bdy, defers := dfs })) := fun st' p' =>
      Stp.write hr hl k1 (by simp [soft]) (BR.loop (P := P) (c := c) fr0 { state := st', pending := p', fn := fnn, tmps, params := prms, assign := asg, body := bdy, defers := dfs } hfr0) (by simp) (World.putObj_heap_same hsz) (fun j hj => World.putObj_heap_other hj) rfl rfl rfl
    simp only at e
    cases st with
    | busy =>
      cases pend with
      | none =>
        simp only at e
        cases ex with
        | normal =>
          simp only [Option.some.injEq, Prod.mk.injEq] at e
          obtain ⟨rfl, rfl⟩ := e
          exact ⟨none, rfl, _, run_endRound none k2, .bool _, fin .ready none⟩
        | exit id =>
          simp only [Option.some.injEq, Prod.mk.injEq] at e
          obtain ⟨rfl, rfl⟩ := e
          exact ⟨some (.exit id), rfl, _, run_endRound _ k2, .bool _, fin .done _⟩
        | ret =>
          simp only [Option.some.injEq, Prod.mk.injEq] at e
          obtain ⟨rfl, rfl⟩ := e
          exact ⟨some .ret, rfl, _, run_endRound _ k2, .bool _, fin .done _⟩
      | some p => cases e
    | _ => cases e
  | _ => simp at e

theorem beginRound_sim {ρ : Ren} {h : Heap} {w : World} {i l c : Nat} {h' : Heap} (hr : HR P ρ h w) (hl : ρ i = some (l, c)) (e : beginRoundA h i = some h') :
    ∃ w', (Instr.beginRound l).run P w = .ok () w' ∧ Stp P ρ h w ρ h' w' := by
  have hlt := (hr.dom _ _ _ hl).1
  obtain ⟨k, o, k1, k2, k3⟩ := hr.blk _ _ _ hl
  unfold beginRoundA at e
  simp only [getBlk, blt_eq, hlt, decide_true, cond_true, k1] at e
  cases k3 with
  | loop fr0 r0 hfr0 =>
    have hsz := (Array.getElem?_eq_some_iff.1 k2).1
    obtain ⟨st, pend, fnn, tmps, prms, asg, bdy, dfs⟩ := r0
    simp only at e
    cases st with
    | ready =>
      cases pend with
      | none =>
        simp only [Option.some.injEq] at e
        subst e
        exact ⟨_, run_beginRound k2 rfl, Stp.write hr hl k1 (by simp [soft]) (BR.loop (P := P) (c := c) fr0 { state := .busy, pending := none, fn := fnn, tmps, params := prms, assign := asg, body := bdy, defers := dfs } hfr0) (by simp) (World.putObj_heap_same hsz) (fun j hj => World.putObj_heap_other hj) rfl rfl rfl⟩
      | some p => cases e
    | _ => cases e
  | _ => simp at e

theorem callF_both (hE : EnvOK P E) (hx : ExtOK P E) (hn : NamesOK P) : ∀ d, CallSound P E (callF E d) ∧ EnterSound P E (callF E d)
  | 0 => ⟨fun fn args h v h' e => by simp [callF] at e, fun f args h v h' e => by simp [callF] at e⟩
  | d + 1 => by
    have ih := callF_both hE hx hn d
    have hent : EnterSound P E (callF E (d + 1)) := fun f args h v h' e hext ρ w args' hr hg ra => by
      rw [callF, hext] at e
      simp only at e
      split at e
      · cases e
      · rename_i fn hfn
        have hfn := hE.funs f fn hfn
        split at e
        · cases e
        · rename_i b hb
          refine ⟨run_callFunc hfn hn hb args' w, ?_⟩
          have hlen := ra.length
          have hnt : (args' ++ Array.replicate (fn.ntmps - args'.size) undef).size = max fn.ntmps args.length := by
            simp only [Array.length_toList] at hlen
            simp; omega
          have hfr : FR E ρ (setAll args 0 .leaf) { tmps := args' ++ Array.replicate (fn.ntmps - args'.size) undef, defers := [] } := by
            refine ⟨hg, fun t x hx => ?_⟩
            simp only [Array.length_toList] at hlen
            rw [setAll_get] at hx
            simp only [Nat.zero_le, true_and, Nat.zero_add, Nat.sub_zero, T.get_leaf] at hx
            simp only [Array.getD_eq_getD_getElem?, Array.getElem?_append]
            by_cases ht : t < args.length
            · rw [if_pos ht] at hx
              rw [if_pos (by omega)]
              obtain ⟨v', e', r⟩ := ra.get t _ hx
              rw [← Array.getElem?_toList, e']
              exact r
            · rw [if_neg ht] at hx; cases hx
          split at e
          · cases e
          · rename_i ex fr1 h1 hnx hcode
            have fin : ∀ vs, mapOpt (resOf E fr1 h1) fn.results.toList = some vs → resVal vs = v → h1 = h' → Calls P f args' w (EndOK P ρ h w v h') := fun vs hvs hv hh => by
              subst hh
              refine (callsIn_wide (n := 0)).1 (callsIn_of_wp_marks hfn hb trivial (code_sim hE (B := w.heap.size) fokWide none ih.1 ih.2 b ρ h w _ _ _ _ _ _ hfr hr hnt (DR.nil _ _ _ _) rfl (Nat.le_refl _) hcode fun a' w' hA => ?_))
              obtain ⟨ρ', hf', hs, _, hd⟩ := hA
              have last : LeavesInM Fence.wide 0 P fn a'.tmps (EndOK P ρ h w v h1) a'.defers .returning w' := by
                refine leaves_marks hn (fun w2 hs2 => ?_) a'.defers w' hs hd
                obtain ⟨v', hrun, r⟩ := results_sim hE (a := a') hf' hs2.hr hvs
                rw [hv] at r
                exact ⟨v', hrun, v', ρ', rfl, r, hs2⟩
              cases ex with
              | normal => exact last
              | ret => exact last
              | exit id => exact absurd rfl (hnx id)
            split at e
            · rename_i v1 hres
              simp only [Option.some.injEq, Prod.mk.injEq] at e
              exact fin _ hres e.1 e.2
            · rename_i vs hvs hres
              simp only [Option.some.injEq, Prod.mk.injEq] at e
              refine fin _ hres ?_ e.2
              rw [← e.1]
              unfold resVal
              split
              · exact absurd rfl (hvs _)
              · rfl
            · cases e
          · cases e
    refine ⟨fun fn args h v h' e ρ w fn' args' hr hg rfn ra => ?_, hent⟩
    cases rfn with
    | func f =>
      cases hext : E.ext f args h with
      | some r =>
        have e0 := e
        rw [callF, hext] at e0
        cases r with
        | none => cases e0
        | some v2 =>
          simp only [Option.some.injEq] at e0
          subst e0
          exact hx f args h v h' hext ρ w args' hr hg ra
      | none =>
        obtain ⟨h1, h2⟩ := hent f args h v h' e hext ρ w args' hr hg ra
        exact .inr (.inl ⟨f, args', h1, h2⟩)
    | @yield i b c hi =>
      rw [callF] at e
      split at e
      · rename_i fr nt ps assign body hblk
        have hlt := (hr.dom _ _ _ hi).1
        obtain ⟨k, o, k1, k2, k3⟩ := hr.blk _ _ _ hi
        simp only [getBlk, blt_eq, hlt, decide_true, cond_true, k1, Option.some.injEq] at hblk
        subst hblk
        generalize hk : Blk.loop .ready none fr nt ps assign body = k at k3
        cases k3 with
        | loop fr0 r0 hfr0 =>
          obtain ⟨st, pend, fnn, tmps, prms, asg, bdy, dfs⟩ := r0
          simp only [Blk.loop.injEq] at hk
          obtain ⟨rfl, rfl, rfl, rfl, rfl, rfl, rfl⟩ := hk
          split at e
          · cases e
          · rename_i fr1 hps
            split at e
            · rename_i fr2 h2 hasg
              split at e
              · cases e
              · rename_i h3 hbeg
                split at e
                · rename_i ex fr4 h4 hbody
                  obtain ⟨p1, p2, p3⟩ := setPs_sim _ _ _ _ _ _ hps ra rfl hfr0
                  have hsz : args'.size = prms.size := by simpa using p1
                  have hzip : ((prms.zip args').foldl (fun (tmps : Array Value) (x : Tmp × Value) => tmps.setIfInBounds x.1 x.2) tmps) = ((prms.toList.zip args'.toList).foldl (fun (tmps : Array Value) (x : Nat × Value) => tmps.setIfInBounds x.1 x.2) tmps) := by
                    rw [← Array.foldl_toList, Array.toList_zip]
                  refine .inr (.inr ⟨b, fnn, _, _, _, run_yield k2 hsz, fun n => ?_⟩)
                  refine roundIn_of_wpIn trivial ?_
                  have hfr : FR E ρ fr1 { tmps := (prms.zip args').foldl (fun (tmps : Array Value) (x : Tmp × Value) => tmps.setIfInBounds x.1 x.2) tmps, defers := [] } := ⟨hg, fun t => by
                    rw [hzip]; exact p3 t⟩
                  refine code_sim hE (B := w.heap.size) (fokRound b) (some i) ih.1 ih.2 assign ρ h w fr1 _ .normal fr2 h2 _ hfr hr (by rw [hzip]; exact p2) (DR.nil _ _ _ _) ⟨b, c, hi, rfl⟩ (Nat.le_refl _) hasg fun a1 w1 hA => ?_
                  obtain ⟨ρ1, hf1, hs1, hnt1, hd1⟩ := hA
                  obtain ⟨w2, hrun, hs2⟩ := beginRound_sim hs1.hr (hs1.le _ _ hi) hbeg
                  refine ⟨w2, hrun, ?_⟩
                  refine code_sim hE (B := w.heap.size) (fokRound b) (some i) ih.1 ih.2 body ρ1 h3 w2 fr2 _ ex fr4 h4 _ hf1 hs2.hr hnt1 (hd1.step hs2) ⟨b, c, hs1.le _ _ hi, rfl⟩ (Nat.le_trans hs1.size hs2.size) hbody fun a3 w3 hA => ?_
                  obtain ⟨ρ3, hf3, hs3, hnt3, hd3⟩ := hA
                  obtain ⟨j, hj, w4, hrun4, r4, hs4⟩ := endRound_sim hs3.hr (hs3.le _ _ (hs1.le _ _ hi)) e
                  have all := ((hs1.trans hs2).trans hs3).trans hs4
                  cases ex with
                  | normal => subst hj; exact ⟨v, w4, hrun4, v, ρ3, rfl, r4, all⟩
                  | exit id => subst hj; exact ⟨v, w4, hrun4, v, ρ3, rfl, r4, all⟩
                  | ret => subst hj; exact ⟨v, w4, hrun4, v, ρ3, rfl, r4, all⟩
                · cases e
            · cases e
        | _ => cases hk
      · cases e
theorem callF_sim (hE : EnvOK P E) (hx : ExtOK P E) (hn : NamesOK P) (d : Nat) : CallSound P E (callF E d) := (callF_both hE hx hn d).1
end
end Go.Ev
