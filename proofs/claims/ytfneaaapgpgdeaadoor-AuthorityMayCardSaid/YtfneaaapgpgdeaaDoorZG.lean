/- THE EVALUATOR, part 'G': a deterministic reading of the program's code over an abstract heap, and that the model does what it says. Conditions: none beyond each theorem's own. -/
import Derived.Test.YtfneaaapgpgdeaaDoorZMono
set_option linter.unusedSimpArgs false
set_option linter.unusedVariables false
namespace Go.Ev

/-- an operation, its guard told by the slot -/
structure GO where
  g : Option (Nat × Bool)
  d : Option Nat
  op : Op

inductive GC where
  | skip
  | ops (l : List GO)
  | plan (l : List (GO × List GO))
  | seq (a b : GC)
  | cond (c : Operand) (a b : GC)
  | block (id : Nat) (a : GC)
  | loop (a : GC)
  | exit (id : Nat)
  | ret
  | rangeF (g : Operand) (ps : Array Nat) (a b : Code)

def cleanG (all : List Oper) : Option (Nat × Bool) → Option (Option (Nat × Bool))
  | none => some none
  | some (j, w) => match (nth all j).bind (·.dst) with
    | some d => some (some (d, w))
    | none => none
def cleanD (nt : Nat) : Option Nat → Bool
  | none => true
  | some d => Nat.blt d nt
def cleanO (nt : Nat) (all : List Oper) (o : Oper) : Option GO :=
  match cleanG all o.guard with
  | some g => cond (cleanD nt o.dst) (some ⟨g, o.dst, o.op⟩) none
  | none => none
def cleanI (nt : Nat) (all : List Oper) (x : Item) : Option (GO × List GO) :=
  match (nth all x.i).bind (cleanO nt all), mapOpt (fun i => (nth all i).bind (cleanO nt all)) x.again with
  | some g, some l => some (g, l)
  | _, _ => none

/-- a range over a map begins so -/
def headNext : Code → Bool
  | .seq (.region _ ops false) _ => match ops.toList with
    | o0 :: _ => match o0.op with
      | .next _ false => true
      | _ => false
    | [] => false
  | _ => false
def clean (E : Env) (nt : Nat) : Code → Option GC
  | .skip => some .skip
  | .label _ => some .skip
  | .region _ ops false => cond (ops.toList.any isDefer) none ((mapOpt (cleanO nt ops.toList) ops.toList).map .ops)
  | .region _ ops true => match planned E ops.toList with
    | some pl => (mapOpt (cleanI nt ops.toList) pl).map .plan
    | none => none
  | .seq a b => match clean E nt a, clean E nt b with | some a, some b => some (.seq a b) | _, _ => none
  | .cond c a b => match clean E nt a, clean E nt b with | some a, some b => some (.cond c a b) | _, _ => none
  | .block id a => (clean E nt a).map (.block id)
  | .loop a => cond (headNext a) none ((clean E nt a).map .loop)
  | .scope a => clean E nt a
  | .exit id => some (.exit id)
  | .ret => some .ret
  | .rangeFunc g ps a b => some (.rangeF g ps a b)
  | _ => none

def onR (r : Option (Value × Heap)) (K : Value → Heap → Prop) : Prop := ∃ v h, r = some (v, h) ∧ K v h
def onV {α : Type} (r : Option α) (K : α → Prop) [Tok K] : Prop := ∃ v, r = some v ∧ K v
@[simp] theorem onV_some {α : Type} (v : α) (K : α → Prop) : onV (some v) K ↔ K v := by simp [onV]

section
variable (E : Env)
def noCall : CallT := fun _ _ _ => none
def operOf (op : Op) : Oper := { dst := none, op, type := 0, pos := "", after := #[], guard := none }

def isQ (c : Call) : Bool := match c.callee with | .value (.func f) => E.qf f | _ => false
/-- an operation -/
def opW (op : Op) (fr : Fr) (h : Heap) (K : Value → Heap → Prop) [Tok K] : Prop :=
  match op with
  | .call c => match c.callee with
    | .builtin _ => onR (opBy E noCall fr (operOf op) h) K
    | _ => cond (isQ E c) (onR (opBy E noCall fr (operOf op) h) K) (match target E fr c with
      | some (f, args) => @Ret E f args h K Tok.mk
      | none => False)
  | _ => onR (opBy E noCall fr (operOf op) h) K

def setD (fr : Fr) (d : Option Nat) (v : Value) : Fr := match d with | some d => fr.set d v | none => fr

def gdK (g : Option (Nat × Bool)) (fr : Fr) (A B : Prop) : Prop :=
  match g with
  | none => A
  | some (s, w) => match fr.get s with
    | some (.bool b) => (b = w → A) ∧ (b ≠ w → B)
    | some _ => B
    | none => False

def opsW : List GO → Fr → Heap → (Fr → Heap → Prop) → Prop
  | [], fr, h, Q => Q fr h
  | x :: os, fr, h, Q => gdK x.g fr (opW E x.op fr h fun v h' => opsW os (setD fr x.d v) h' Q) (opsW os (setD fr x.d undef) h Q)

/-- reads that are looked at again -/
def agK : List GO → Fr → Heap → Prop
  | [], _, _ => True
  | x :: l, fr, h => gdK x.g fr (∃ v v' d, readOp E fr (operOf x.op) h = some v ∧ x.d = some d ∧ fr.get d = some v' ∧ sameV 50 v v' = true) True ∧ agK l fr h

def planW : List (GO × List GO) → Fr → Heap → (Fr → Heap → Prop) → Prop
  | [], fr, h, Q => Q fr h
  | (x, ag) :: os, fr, h, Q => gdK x.g fr (opW E x.op fr h fun v h' => h.n ≤ h'.n ∧ agK E ag (setD fr x.d v) h' ∧ planW os (setD fr x.d v) h' Q)
      (agK E ag (setD fr x.d undef) h ∧ planW os (setD fr x.d undef) h Q)

def seqK (B : Fr → Heap → (Ex → Fr → Heap → Prop) → Prop) (Q : Ex → Fr → Heap → Prop) (ex : Ex) (fr : Fr) (h : Heap) : Prop :=
  match ex with
  | .normal => B fr h Q
  | e => Q e fr h
def blockK (id : Nat) (Q : Ex → Fr → Heap → Prop) (ex : Ex) (fr : Fr) (h : Heap) : Prop :=
  match ex with
  | .exit j => Q (cond (Nat.beq j id) .normal (.exit j)) fr h
  | e => Q e fr h
def loopK (R : Fr → Heap → Prop) (Q : Ex → Fr → Heap → Prop) (ex : Ex) (fr : Fr) (h : Heap) : Prop :=
  match ex with
  | .normal => R fr h
  | e => Q e fr h
def loopN (A : Fr → Heap → (Ex → Fr → Heap → Prop) → Prop) (Q : Ex → Fr → Heap → Prop) : Nat → Fr → Heap → Prop
  | 0, _, _ => False
  | n + 1, fr, h => A fr h (loopK (loopN A Q n) Q)
def condK (r : Option Value) (A B : Prop) : Prop :=
  match r with
  | some (.bool b) => (b = true → A) ∧ (b = false → B)
  | _ => False

/-- a piece of code, whatever the depth of its calls -/
def WP (nt : Nat) (rd : Option Nat) (c : Code) (fr : Fr) (h : Heap) (Q : Ex → Fr → Heap → Prop) : Prop :=
  ∃ d ex fr' h', code E (callF E d) nt rd c fr h = some (ex, fr', h') ∧ Q ex fr' h'

def GC.wp (nt : Nat) (rd : Option Nat) : GC → Fr → Heap → (Ex → Fr → Heap → Prop) → Prop
  | .skip, fr, h, Q => Q .normal fr h
  | .ops l, fr, h, Q => opsW E l fr h (Q .normal)
  | .plan l, fr, h, Q => planW E l fr h (Q .normal)
  | .seq a b, fr, h, Q => a.wp nt rd fr h (seqK (b.wp nt rd) Q)
  | .cond c a b, fr, h, Q => condK (ev E fr c) (a.wp nt rd fr h Q) (b.wp nt rd fr h Q)
  | .block id a, fr, h, Q => a.wp nt rd fr h (blockK id Q)
  | .loop a, fr, h, Q => ∃ n, n ≤ 1000000 ∧ loopN (a.wp nt rd) Q n fr h
  | .exit id, fr, h, Q => Q (.exit id) fr h
  | .ret, fr, h, Q => Q .ret fr h
  | .rangeF g ps a b, fr, h, Q => WP E nt rd (.rangeFunc g ps a b) fr h Q
end

section
variable {E : Env}

theorem opBy_operOf {call : CallT} {fr : Fr} {o : Oper} {h : Heap} : opBy E call fr (operOf o.op) h = opBy E call fr o h := rfl

theorem noCall_le (c : CallT) : CallLe noCall c := fun _ _ _ _ e => by cases e

theorem opW_sound {o : Oper} {fr : Fr} {h : Heap} {K : Value → Heap → Prop} (w : opW E o.op fr h K) : ∃ d v h', opBy E (callF E d) fr o h = some (v, h') ∧ K v h' := by
  have other : onR (opBy E noCall fr (operOf o.op) h) K → ∃ d v h', opBy E (callF E d) fr o h = some (v, h') ∧ K v h' := fun ⟨v, h', e, k⟩ =>
    ⟨0, v, h', opBy_le (noCall_le _) e, k⟩
  unfold opW at w
  split at w
  · rename_i c hc
    split at w
    · exact other w
    · rename_i hb
      cases hq : isQ E c with
      | true => rw [hq] at w; exact other w
      | false =>
      rw [hq, cond_false] at w
      split at w
      · rename_i f args ht
        obtain ⟨d, v, h', e, k⟩ := w
        refine ⟨d, v, h', ?_, k⟩
        unfold opBy
        have hk : kindOf E o.op = .act := by
          rw [hc]; unfold kindOf; simp only
          cases hcal : c.callee with
          | builtin b => exact absurd hcal (hb b)
          | value f =>
            cases f with
            | func g => unfold isQ at hq; rw [hcal] at hq; simp only at hq; simp only [hq, cond_false]
            | _ => rfl
          | invoke r m => rfl
        rw [hk]
        simp only [hc]
        cases hcal : c.callee with
        | builtin b => exact absurd hcal (hb b)
        | value f => simp only [ht]; exact e
        | invoke r m => simp only [ht]; exact e
      · exact w.elim
  · exact other w

theorem setD_put {nt : Nat} {fr : Fr} {o : Oper} {v : Value} (hd : cleanD nt o.dst = true) : put nt fr o v = some (setD fr o.dst v) := by
  unfold Ev.put setD
  cases h : o.dst with
  | none => rfl
  | some d => rw [h] at hd; simp only [cleanD] at hd; simp [hd]

theorem cleanO_some {nt : Nat} {all : List Oper} {o : Oper} {x : GO} (e : cleanO nt all o = some x) : cleanG all o.guard = some x.g ∧ x.d = o.dst ∧ x.op = o.op ∧ cleanD nt o.dst = true := by
  unfold cleanO at e
  split at e
  · rename_i g hg
    cases hd : cleanD nt o.dst with
    | false => rw [hd] at e; cases e
    | true => rw [hd] at e; cases e; exact ⟨hg, rfl, rfl, rfl⟩
  · cases e

/-- a guard, both ways -/
theorem gdK_cases {all : List Oper} {fr : Fr} {o : Oper} {g : Option (Nat × Bool)} {A B : Prop} (hg : cleanG all o.guard = some g) (w : gdK g fr A B) :
    (wantedA all fr o = some true ∧ A) ∨ (wantedA all fr o = some false ∧ B) := by
  unfold wantedA
  cases ho : o.guard with
  | none =>
    rw [ho] at hg; simp only [cleanG, Option.some.injEq] at hg; subst hg
    exact .inl ⟨rfl, w⟩
  | some p =>
    obtain ⟨j, b⟩ := p
    rw [ho] at hg
    simp only [cleanG] at hg
    split at hg
    · rename_i d hd
      cases hg
      simp only [gdK] at w
      simp only [hd]
      split at w
      · rename_i b' hb
        by_cases hx : b' = b
        · subst hx; exact .inl ⟨by rw [hb]; simp, w.1 rfl⟩
        · exact .inr ⟨by rw [hb]; simp [hx], w.2 hx⟩
      · rename_i v hv hno
        refine .inr ⟨?_, w⟩
        rw [hno]
        cases v with
        | bool b' => exact absurd rfl (hv b')
        | _ => rfl
      · exact w.elim
    · cases hg

theorem opsW_sound {nt : Nat} {all : List Oper} : ∀ (os : List Oper) (l : List GO) {fr : Fr} {h : Heap} {Q : Fr → Heap → Prop}, mapOpt (cleanO nt all) os = some l → opsW E l fr h Q →
    ∃ d fr' h', stepsText E (callF E d) nt all os fr h = some (fr', h') ∧ Q fr' h'
  | [], l, fr, h, Q, hl, w => by
    simp only [mapOpt, Option.some.injEq] at hl; subst hl
    exact ⟨0, fr, h, rfl, w⟩
  | o :: os, l, fr, h, Q, hl, w => by
    obtain ⟨x, xs, h1, h2, rfl⟩ := mapOpt_cons hl
    obtain ⟨e1, e2, e3, e4⟩ := cleanO_some h1
    simp only [opsW, e3] at w
    rcases gdK_cases e1 w with ⟨hw, w⟩ | ⟨hw, w⟩
    · obtain ⟨d1, v, h', e, k⟩ := opW_sound w
      obtain ⟨d2, fr', h'', e', q⟩ := opsW_sound os xs h2 k
      refine ⟨max d1 d2, fr', h'', ?_, q⟩
      have e := opBy_le (callF_mono (E := E) (Nat.le_max_left d1 d2)) e
      have e' := stepsText_le (callF_mono (E := E) (Nat.le_max_right d1 d2)) _ e'
      rw [e2] at e'
      simp only [stepsText, step, hw, e, setD_put e4, Option.map_some]
      exact e'
    · obtain ⟨d2, fr', h'', e', q⟩ := opsW_sound os xs h2 w
      refine ⟨d2, fr', h'', ?_, q⟩
      rw [e2] at e'
      simp only [stepsText, step, hw, setD_put e4, Option.map_some]
      exact e'

theorem agK_sound {nt : Nat} {all : List Oper} {fr : Fr} {h : Heap} : ∀ (is : List Nat) (l : List GO), mapOpt (fun i => (nth all i).bind (cleanO nt all)) is = some l → agK E l fr h → againOk E all fr h is = true
  | [], l, hl, w => rfl
  | i :: is, l, hl, w => by
    obtain ⟨x, xs, h1, h2, rfl⟩ := mapOpt_cons hl
    simp only [Option.bind_eq_some_iff] at h1
    obtain ⟨o, ho, h1⟩ := h1
    obtain ⟨e1, e2, e3, e4⟩ := cleanO_some h1
    obtain ⟨w1, w2⟩ := w
    simp only [againOk, ho, agK_sound is xs h2 w2, Bool.and_true]
    rcases gdK_cases e1 w1 with ⟨hw, w⟩ | ⟨hw, w⟩
    · obtain ⟨v, v', d, k1, k2, k3, k4⟩ := w
      rw [e3] at k1
      have k1 : readOp E fr o h = some v := k1
      rw [← e2, k2]
      simp only [hw, k1, Option.bind_some, k3, k4]
    · simp only [hw]

theorem planW_sound {nt : Nat} {all : List Oper} : ∀ (os : List Item) (l : List (GO × List GO)) {fr : Fr} {h : Heap} {Q : Fr → Heap → Prop}, mapOpt (cleanI nt all) os = some l → planW E l fr h Q →
    ∃ d fr' h', stepsPlan E (callF E d) nt all os fr h = some (fr', h') ∧ Q fr' h'
  | [], l, fr, h, Q, hl, w => by
    simp only [mapOpt, Option.some.injEq] at hl; subst hl
    exact ⟨0, fr, h, rfl, w⟩
  | y :: os, l, fr, h, Q, hl, w => by
    obtain ⟨x, xs, h1, h2, rfl⟩ := mapOpt_cons hl
    unfold cleanI at h1
    split at h1
    · rename_i g ag hg hag
      cases h1
      simp only [Option.bind_eq_some_iff] at hg
      obtain ⟨o, ho, hg⟩ := hg
      obtain ⟨e1, e2, e3, e4⟩ := cleanO_some hg
      simp only [planW, e3] at w
      rcases gdK_cases e1 w with ⟨hw, w⟩ | ⟨hw, w⟩
      · obtain ⟨d1, v, h', e, k1, k2, k⟩ := opW_sound w
        obtain ⟨d2, fr', h'', e', q⟩ := planW_sound os xs h2 k
        refine ⟨max d1 d2, fr', h'', ?_, q⟩
        have e := opBy_le (callF_mono (E := E) (Nat.le_max_left d1 d2)) e
        have e' := stepsPlan_le (callF_mono (E := E) (Nat.le_max_right d1 d2)) _ e'
        have hn : Nat.ble h.n h'.n = true := Nat.ble_eq_true_of_le k1
        rw [e2] at e' k2
        simp only [stepsPlan, ho, step, hw, e, setD_put e4, Option.map_some, hn, agK_sound _ _ hag k2, Bool.and_self, cond_true]
        exact e'
      · obtain ⟨k2, k⟩ := w
        obtain ⟨d2, fr', h'', e', q⟩ := planW_sound os xs h2 k
        refine ⟨d2, fr', h'', ?_, q⟩
        have hn : Nat.ble h.n h.n = true := Nat.ble_eq_true_of_le (Nat.le_refl _)
        rw [e2] at e' k2
        simp only [stepsPlan, ho, step, hw, setD_put e4, Option.map_some, hn, agK_sound _ _ hag k2, Bool.and_self, cond_true]
        exact e'
    · cases h1

theorem iter_more {f : Fr → Heap → Option (Ex × Fr × Heap)} : ∀ (n m : Nat) (fr : Fr) (h : Heap) (r : Ex × Fr × Heap), n ≤ m → iter f n fr h = some r → iter f m fr h = some r
  | 0, _, _, _, _, _, e => by simp [iter] at e
  | n + 1, 0, _, _, _, hm, _ => by omega
  | n + 1, m + 1, fr, h, r, hm, e => by
    simp only [iter] at e ⊢
    cases hf : f fr h with
    | none => rw [hf] at e; cases e
    | some p =>
      rw [hf] at e
      obtain ⟨ex, fr', h'⟩ := p
      cases ex with
      | normal => exact iter_more n m _ _ _ (by omega) e
      | exit id => exact e
      | ret => exact e

theorem mapHead_none {ops : List Oper} {fr : Fr} {h : Heap} (hn : ∀ o0 tail x, ops = o0 :: tail → o0.op ≠ .next x false) : mapHead E ops fr h = none := by
  unfold mapHead
  split
  · rfl
  · rename_i o0 tail
    split
    · rename_i t ho _
      exact absurd ho (hn o0 tail _ rfl)
    · rfl
theorem code_loop {call : CallT} {nt : Nat} {rd : Option Nat} {b : Code} {fr : Fr} {h : Heap} (hn : headNext b = false) : code E call nt rd (.loop b) fr h = iter (code E call nt rd b) 1000000 fr h := by
  cases b with
  | seq x y => cases x with
    | region id ops dr => cases dr with
      | true => simp only [code]
      | false =>
        simp only [code]
        rw [mapHead_none]
        intro o0 tail x e1 e2
        simp only [headNext, e1, e2] at hn
        cases hn
    | _ => simp only [code]
  | _ => simp only [code]
theorem GC.wp_sound {nt : Nat} {rd : Option Nat} : ∀ (c : Code) (g : GC) {fr : Fr} {h : Heap} {Q : Ex → Fr → Heap → Prop}, clean E nt c = some g → g.wp E nt rd fr h Q → WP E nt rd c fr h Q
  | .skip, g, fr, h, Q, hg, w => by simp only [clean, Option.some.injEq] at hg; subst hg; exact ⟨0, _, _, _, rfl, w⟩
  | .label _, g, fr, h, Q, hg, w => by simp only [clean, Option.some.injEq] at hg; subst hg; exact ⟨0, _, _, _, rfl, w⟩
  | .exit _, g, fr, h, Q, hg, w => by simp only [clean, Option.some.injEq] at hg; subst hg; exact ⟨0, _, _, _, rfl, w⟩
  | .ret, g, fr, h, Q, hg, w => by simp only [clean, Option.some.injEq] at hg; subst hg; exact ⟨0, _, _, _, rfl, w⟩
  | .region _ os false, g, fr, h, Q, hg, w => by
    simp only [clean] at hg
    cases hdf : os.toList.any isDefer with
    | true => rw [hdf] at hg; cases hg
    | false =>
    rw [hdf] at hg
    simp only [cond_false, Option.map_eq_some_iff] at hg
    obtain ⟨l, hl, rfl⟩ := hg
    obtain ⟨d, fr', h', e, q⟩ := opsW_sound (nt := nt) _ _ hl w
    exact ⟨d, _, fr', h', by simp only [code, hdf, cond_false, e, Option.map_some], q⟩
  | .region _ os true, g, fr, h, Q, hg, w => by
    simp only [clean] at hg
    split at hg
    · rename_i pl hpl
      simp only [Option.map_eq_some_iff] at hg
      obtain ⟨l, hl, rfl⟩ := hg
      obtain ⟨d, fr', h', e, q⟩ := planW_sound (nt := nt) _ _ hl w
      exact ⟨d, _, fr', h', by simp only [code, hpl, e, Option.map_some], q⟩
    · cases hg
  | .seq a b, g, fr, h, Q, hg, w => by
    simp only [clean] at hg
    split at hg
    · rename_i ga gb ha hb
      cases hg
      obtain ⟨d, ex, fr', h', e, q⟩ := GC.wp_sound a ga ha w
      cases ex with
      | normal =>
        obtain ⟨d2, ex2, fr2, h2, e2, q2⟩ := GC.wp_sound b gb hb q
        refine ⟨max d d2, ex2, fr2, h2, ?_, q2⟩
        simp only [code, code_le (callF_mono (E := E) (Nat.le_max_left d d2)) _ _ _ _ e]
        exact code_le (callF_mono (E := E) (Nat.le_max_right d d2)) _ _ _ _ e2
      | exit id => exact ⟨d, _, fr', h', by simp only [code, e], q⟩
      | ret => exact ⟨d, _, fr', h', by simp only [code, e], q⟩
    · cases hg
  | .cond c a b, g, fr, h, Q, hg, w => by
    simp only [clean] at hg
    split at hg
    · rename_i ga gb ha hb
      cases hg
      simp only [GC.wp, condK] at w
      split at w
      · rename_i bb hc
        cases bb with
        | true =>
          obtain ⟨d, ex, fr', h', e, q⟩ := GC.wp_sound a ga ha (w.1 rfl)
          exact ⟨d, ex, fr', h', by simp only [code, hc, e], q⟩
        | false =>
          obtain ⟨d, ex, fr', h', e, q⟩ := GC.wp_sound b gb hb (w.2 rfl)
          exact ⟨d, ex, fr', h', by simp only [code, hc, e], q⟩
      · exact w.elim
    · cases hg
  | .block id a, g, fr, h, Q, hg, w => by
    simp only [clean, Option.map_eq_some_iff] at hg
    obtain ⟨ga, ha, rfl⟩ := hg
    obtain ⟨d, ex, fr', h', e, q⟩ := GC.wp_sound a ga ha w
    cases ex with
    | normal => exact ⟨d, _, fr', h', by simp only [code, e], q⟩
    | exit j => exact ⟨d, _, fr', h', by simp only [code, e], q⟩
    | ret => exact ⟨d, _, fr', h', by simp only [code, e], q⟩
  | .loop a, g, fr, h, Q, hg, w => by
    simp only [clean] at hg
    cases hhn : headNext a with
    | true => rw [hhn] at hg; cases hg
    | false =>
    rw [hhn] at hg
    simp only [cond_false, Option.map_eq_some_iff] at hg
    obtain ⟨ga, ha, rfl⟩ := hg
    obtain ⟨n, hn, w⟩ := w
    have key : ∀ n fr h, loopN (ga.wp E nt rd) Q n fr h → ∃ d ex fr' h', iter (code E (callF E d) nt rd a) n fr h = some (ex, fr', h') ∧ Q ex fr' h' := by
      intro n
      induction n with
      | zero => intro fr h w; exact w.elim
      | succ n ih =>
        intro fr h w
        obtain ⟨d, ex, fr', h', e, q⟩ := GC.wp_sound a ga ha w
        cases ex with
        | normal =>
          obtain ⟨d2, ex2, fr2, h2, e2, q2⟩ := ih _ _ q
          refine ⟨max d d2, ex2, fr2, h2, ?_, q2⟩
          simp only [iter, code_le (callF_mono (E := E) (Nat.le_max_left d d2)) _ _ _ _ e]
          exact iter_le (fun fr h r => code_le (callF_mono (E := E) (Nat.le_max_right d d2)) a fr h r) _ _ _ _ e2
        | exit id => exact ⟨d, _, fr', h', by simp only [iter, e], q⟩
        | ret => exact ⟨d, _, fr', h', by simp only [iter, e], q⟩
    obtain ⟨d, ex, fr', h', e, q⟩ := key n fr h w
    exact ⟨d, ex, fr', h', by rw [code_loop hhn]; exact iter_more _ _ _ _ _ hn e, q⟩
  | .scope a, g, fr, h, Q, hg, w => by
    simp only [clean] at hg
    obtain ⟨d, ex, fr', h', e, q⟩ := GC.wp_sound a g hg w
    exact ⟨d, ex, fr', h', by simp only [code, e], q⟩
  | .rangeFunc .., g, fr, h, Q, hg, w => by simp only [clean, Option.some.injEq] at hg; subst hg; exact w
  | .goto .., g, fr, h, Q, hg, w => by simp [clean] at hg
  | .refuse .., g, fr, h, Q, hg, w => by simp [clean] at hg

/-! consequence -/
theorem gdK.mono {g : Option (Nat × Bool)} {fr : Fr} {A A' B B' : Prop} (w : gdK g fr A B) (ha : A → A') (hb : B → B') : gdK g fr A' B' := by
  unfold gdK at w ⊢
  split at w
  · exact ha w
  · split at w
    · exact ⟨fun e => ha (w.1 e), fun e => hb (w.2 e)⟩
    · exact hb w
    · exact w

theorem opW.mono {op : Op} {fr : Fr} {h : Heap} {K K' : Value → Heap → Prop} (w : opW E op fr h K) (k : ∀ v h', K v h' → K' v h') : opW E op fr h K' := by
  have other : ∀ {r}, onR r K → onR r K' := fun ⟨v, h', e, q⟩ => ⟨v, h', e, k _ _ q⟩
  unfold opW at w ⊢
  split at w
  · rename_i c
    split at w
    · exact other w
    · cases hq : isQ E c with
      | true => rw [hq] at w; exact other w
      | false =>
        rw [hq] at w
        rw [cond_false] at w ⊢
        split at w
        · exact w.mono k
        · exact w
  · exact other w

def dstIs (d : Option Nat) (t : Nat) : Bool := match d with | some d => Nat.beq d t | none => false
def wrO (l : List GO) (t : Nat) : Bool := l.any fun x => dstIs x.d t
def GC.wr : GC → Nat → Bool
  | .skip, _ => false
  | .ops l, t => wrO l t
  | .plan l, t => wrO (l.map (·.1)) t
  | .seq a b, t => a.wr t || b.wr t
  | .cond _ a b, t => a.wr t || b.wr t
  | .block _ a, t => a.wr t
  | .loop a, t => a.wr t
  | .exit _, _ => false
  | .ret, _ => false
  | .rangeF .., _ => false

theorem setD_get {fr : Fr} {d : Option Nat} {v : Value} {t : Nat} (h : dstIs d t = false) : (setD fr d v).get t = fr.get t := by
  unfold setD
  cases d with
  | none => rfl
  | some d => exact T.get_set_ne _ _ (by intro e; subst e; simp [dstIs] at h)

/-- consequence: and the slots that are not written stay -/
theorem opsW.mono : ∀ (l : List GO) {fr : Fr} {h : Heap} {Q Q' : Fr → Heap → Prop}, opsW E l fr h Q → (∀ fr' h', (∀ t, wrO l t = false → fr'.get t = fr.get t) → Q fr' h' → Q' fr' h') → opsW E l fr h Q'
  | [], fr, h, Q, Q', w, k => k fr h (fun _ _ => rfl) w
  | x :: os, fr, h, Q, Q', w, k => by
    have st : ∀ v h', opsW E os (setD fr x.d v) h' Q → opsW E os (setD fr x.d v) h' Q' := fun v h' w => opsW.mono os w fun fr' h'' hk q => k fr' h'' (fun t ht => by
      simp only [wrO, List.any_cons, Bool.or_eq_false_iff] at ht
      rw [hk t ht.2, setD_get ht.1]) q
    exact gdK.mono w (fun w => opW.mono w fun v h' => st v h') (st _ _)
theorem planW.mono : ∀ (l : List (GO × List GO)) {fr : Fr} {h : Heap} {Q Q' : Fr → Heap → Prop}, planW E l fr h Q → (∀ fr' h', (∀ t, wrO (l.map (·.1)) t = false → fr'.get t = fr.get t) → Q fr' h' → Q' fr' h') → planW E l fr h Q'
  | [], fr, h, Q, Q', w, k => k fr h (fun _ _ => rfl) w
  | (x, ag) :: os, fr, h, Q, Q', w, k => by
    have st : ∀ v h', planW E os (setD fr x.d v) h' Q → planW E os (setD fr x.d v) h' Q' := fun v h' w => planW.mono os w fun fr' h'' hk q => k fr' h'' (fun t ht => by
      simp only [wrO, List.map_cons, List.any_cons, Bool.or_eq_false_iff] at ht
      rw [hk t ht.2, setD_get ht.1]) q
    exact gdK.mono w (fun w => opW.mono w fun v h' hh => ⟨hh.1, hh.2.1, st v h' hh.2.2⟩) (fun hh => ⟨hh.1, st _ _ hh.2⟩)

theorem endLoopA_fr {h : Heap} {l : Nat} {fr fr' : Fr} {ex : Ex} {h' : Heap} (e : endLoopA h l fr = some (ex, fr', h')) : fr' = fr := by
  unfold endLoopA at e
  split at e <;> first | (cases e; done) | (simp only [Option.some.injEq, Prod.mk.injEq] at e; exact e.2.1.symm)
theorem rangeFunc_fr {call : CallT} {nt : Nat} {rd : Option Nat} {g : Operand} {ps : Array Nat} {a b : Code} {fr fr' : Fr} {h h' : Heap} {ex : Ex} (e : code E call nt rd (.rangeFunc g ps a b) fr h = some (ex, fr', h')) : fr' = fr := by
  simp only [code] at e
  cases hin : inRound h rd with
  | false => rw [hin] at e; cases e
  | true =>
    rw [hin] at e
    simp only [cond_true] at e
    split at e
    · split at e
      · cases e
      · split at e
        · exact endLoopA_fr e
        · cases e
    · cases e

theorem GC.wp_mono {nt : Nat} {rd : Option Nat} : ∀ (g : GC) {fr : Fr} {h : Heap} {Q Q' : Ex → Fr → Heap → Prop}, g.wp E nt rd fr h Q → (∀ ex fr' h', (∀ t, g.wr t = false → fr'.get t = fr.get t) → Q ex fr' h' → Q' ex fr' h') → g.wp E nt rd fr h Q'
  | .skip, fr, h, Q, Q', w, k => k _ _ _ (fun _ _ => rfl) w
  | .exit _, fr, h, Q, Q', w, k => k _ _ _ (fun _ _ => rfl) w
  | .ret, fr, h, Q, Q', w, k => k _ _ _ (fun _ _ => rfl) w
  | .ops l, fr, h, Q, Q', w, k => opsW.mono l w fun fr' h' => k _ fr' h'
  | .plan l, fr, h, Q, Q', w, k => planW.mono l w fun fr' h' => k _ fr' h'
  | .seq a b, fr, h, Q, Q', w, k => by
    refine GC.wp_mono a w fun ex fr' h' hk q => ?_
    cases ex with
    | normal => exact GC.wp_mono b q fun ex2 fr2 h2 hk2 q2 => k _ _ _ (fun t ht => by
        simp only [GC.wr, Bool.or_eq_false_iff] at ht
        rw [hk2 t ht.2, hk t ht.1]) q2
    | exit id => exact k _ _ _ (fun t ht => hk t (by simp only [GC.wr, Bool.or_eq_false_iff] at ht; exact ht.1)) q
    | ret => exact k _ _ _ (fun t ht => hk t (by simp only [GC.wr, Bool.or_eq_false_iff] at ht; exact ht.1)) q
  | .cond c a b, fr, h, Q, Q', w, k => by
    simp only [GC.wp, condK] at w ⊢
    split at w
    · exact ⟨fun e => GC.wp_mono a (w.1 e) fun ex fr' h' hk q => k _ _ _ (fun t ht => hk t (by simp only [GC.wr, Bool.or_eq_false_iff] at ht; exact ht.1)) q,
        fun e => GC.wp_mono b (w.2 e) fun ex fr' h' hk q => k _ _ _ (fun t ht => hk t (by simp only [GC.wr, Bool.or_eq_false_iff] at ht; exact ht.2)) q⟩
    · exact w
  | .block id a, fr, h, Q, Q', w, k => by
    refine GC.wp_mono a w fun ex fr' h' hk q => ?_
    cases ex with
    | normal => exact k _ _ _ hk q
    | exit j => exact k _ _ _ hk q
    | ret => exact k _ _ _ hk q
  | .loop a, fr, h, Q, Q', w, k => by
    obtain ⟨n, hn, w⟩ := w
    refine ⟨n, hn, ?_⟩
    have key : ∀ n fr1 h1, (∀ t, a.wr t = false → fr1.get t = fr.get t) → loopN (a.wp E nt rd) Q n fr1 h1 → loopN (a.wp E nt rd) Q' n fr1 h1 := by
      intro n
      induction n with
      | zero => intro _ _ _ w; exact w
      | succ n ih =>
        intro fr1 h1 hk1 w
        refine GC.wp_mono a w fun ex fr' h' hk q => ?_
        have hk2 : ∀ t, a.wr t = false → fr'.get t = fr.get t := fun t ht => by rw [hk t ht, hk1 t ht]
        cases ex with
        | normal => exact ih _ _ hk2 q
        | exit j => exact k _ _ _ hk2 q
        | ret => exact k _ _ _ hk2 q
    exact key n fr h (fun _ _ => rfl) w
  | .rangeF g ps a b, fr, h, Q, Q', w, k => by
    obtain ⟨d, ex, fr', h', e, q⟩ := w
    refine ⟨d, ex, fr', h', e, k _ _ _ (fun t _ => ?_) q⟩
    rw [rangeFunc_fr e]

/-- a loop, by what holds at its head -/
theorem cw_loop {nt : Nat} {rd : Option Nat} {a : GC} {fr0 : Fr} {h0 : Heap} {Q : Ex → Fr → Heap → Prop} (I : Fr → Heap → Prop) (m : Fr → Heap → Nat)
    (h1 : I fr0 h0) (hm : m fr0 h0 < 1000000)
    (hs : ∀ fr h, I fr h → (∀ t, a.wr t = false → fr.get t = fr0.get t) → a.wp E nt rd fr h (loopK (fun fr' h' => I fr' h' ∧ m fr' h' < m fr h) Q)) :
    (GC.loop a).wp E nt rd fr0 h0 Q := by
  refine ⟨m fr0 h0 + 1, by omega, ?_⟩
  have key : ∀ n fr h, m fr h < n → I fr h → (∀ t, a.wr t = false → fr.get t = fr0.get t) → loopN (a.wp E nt rd) Q n fr h := by
    intro n
    induction n with
    | zero => intro fr h hlt; omega
    | succ n ih =>
      intro fr h hlt hi hk
      refine GC.wp_mono a (hs fr h hi hk) fun ex fr' h' hk' q => ?_
      cases ex with
      | normal => exact ih fr' h' (by have := q.2; omega) q.1 fun t ht => by rw [hk' t ht, hk t ht]
      | exit j => exact q
      | ret => exact q
  exact key _ _ _ (by omega) h1 fun _ _ => rfl

def resK (E : Env) (rs : List ResultVar) (K : Value → Heap → Prop) (ex : Ex) (fr : Fr) (h : Heap) : Prop :=
  match ex with
  | .exit _ => False
  | _ => match mapOpt (resOf E fr h) rs with
    | some vs => K (resVal vs) h
    | none => False

/-- a function's call -/
theorem Ret.of_body {f : FuncId} {fn : Func} {c : Code} {g : GC} {nt : Nat} {rs : List ResultVar} {args : List Value} {h : Heap} {K : Value → Heap → Prop}
    (hx : E.ext f args h = none) (hf : E.funs.get f = some fn) (hb : fn.body = some c) (hg : clean E (max fn.ntmps args.length) c = some g) (hnt : max fn.ntmps args.length = nt) (hrs : fn.results.toList = rs)
    (w : g.wp E nt none (setAll args 0 .leaf) h (resK E rs K)) : Ret E (.func f) args h K := by
  subst hnt hrs
  obtain ⟨d, ex, fr', h', e, q⟩ := GC.wp_sound c g hg w
  unfold resK at q
  split at q
  · exact q.elim
  · rename_i hnx
    split at q
    · rename_i vs hvs
      refine ⟨d + 1, resVal vs, h', ?_, q⟩
      rw [callF]
      simp only [hx, hf, hb, e]
      have last : (match mapOpt (resOf E fr' h') fn.results.toList with | some [v] => some (v, h') | some vs => some (.tuple vs.toArray, h') | none => none) = some (resVal vs, h') := by
        rw [hvs]
        unfold resVal
        split <;> simp_all
      cases ex with
      | normal => exact last
      | ret => exact last
      | exit id => exact absurd rfl (hnx id)
    · exact q.elim
end
end Go.Ev
