/- THE EVALUATOR, part 'Ins': a deterministic reading of the program's code over an abstract heap, and that the model does what it says. Conditions: none beyond each theorem's own. -/
import Derived.Test.YtfneaaapgpgdeaaDoorZDrawn2
set_option linter.unusedSimpArgs false
set_option linter.unusedVariables false
namespace Go.Ev

theorem T.setF_setF {α : Type} (x y : α) : ∀ (n i : Nat) (t : T α), T.setF n (T.setF n t i x) i y = T.setF n t i y
  | 0, _, _ => rfl
  | n + 1, i, .leaf => by
    rw [T.setF_leaf, T.setF_leaf]
    by_cases h0 : i = 0
    · simp [h0, T.setF_node]
    · by_cases h1 : i % 2 = 1
      · simp [h0, h1, T.setF_node, T.setF_setF x y n]
      · simp [h0, h1, T.setF_node, T.setF_setF x y n]
  | n + 1, i, .node l v r => by
    rw [T.setF_node, T.setF_node]
    by_cases h0 : i = 0
    · simp [h0, T.setF_node]
    · by_cases h1 : i % 2 = 1
      · simp [h0, h1, T.setF_node, T.setF_setF x y n]
      · simp [h0, h1, T.setF_node, T.setF_setF x y n]
theorem T.set_set {α : Type} (t : T α) (i : Nat) (x y : α) : (t.set i x).set i y = t.set i y := T.setF_setF x y _ i t

theorem sins_cons {c : Nat} {k v : Value} (e : Nat × Value × Value) (es : List (Nat × Value × Value)) :
    sins c k v (e :: es) = if e.1 < c then (sins c k v es).map (e :: ·) else if c = e.1 then none else some ((c, k, v) :: e :: es) := by
  simp only [sins, blt_eq', beq_dec]
  by_cases h1 : e.1 < c
  · simp [h1]
  · by_cases h2 : c = e.1
    · simp [h1, h2]
    · simp [h1, h2]

theorem sins_comm {c1 c2 : Nat} {k1 v1 k2 v2 : Value} : ∀ {es e1 e2 : List (Nat × Value × Value)}, sins c1 k1 v1 es = some e1 → sins c2 k2 v2 e1 = some e2 →
    ∃ e3, sins c2 k2 v2 es = some e3 ∧ sins c1 k1 v1 e3 = some e2
  | [], e1, e2, h1, h2 => by
    simp only [sins, Option.some.injEq] at h1
    subst h1
    rw [sins_cons] at h2
    refine ⟨[(c2, k2, v2)], rfl, ?_⟩
    rw [sins_cons]
    simp only [sins, Option.map_some] at h2 ⊢
    by_cases a : c1 < c2
    · rw [if_pos a] at h2; cases h2
      rw [if_neg (by omega), if_neg (by omega)]
    · rw [if_neg a] at h2
      by_cases b : c2 = c1
      · rw [if_pos b] at h2; cases h2
      · rw [if_neg b] at h2; cases h2
        rw [if_pos (by omega)]
  | e :: es, e1, e2, h1, h2 => by
    rw [sins_cons] at h1
    by_cases a : e.1 < c1
    · rw [if_pos a] at h1
      simp only [Option.map_eq_some_iff] at h1
      obtain ⟨q, hq, rfl⟩ := h1
      rw [sins_cons] at h2
      by_cases b : e.1 < c2
      · rw [if_pos b] at h2
        simp only [Option.map_eq_some_iff] at h2
        obtain ⟨q2, hq2, rfl⟩ := h2
        obtain ⟨e3, g1, g2⟩ := sins_comm hq hq2
        exact ⟨e :: e3, by rw [sins_cons, if_pos b, g1]; rfl, by rw [sins_cons, if_pos a, g2]; rfl⟩
      · rw [if_neg b] at h2
        by_cases d : c2 = e.1
        · rw [if_pos d] at h2; cases h2
        · rw [if_neg d] at h2; cases h2
          refine ⟨(c2, k2, v2) :: e :: es, by rw [sins_cons, if_neg b, if_neg d], ?_⟩
          rw [sins_cons, if_pos (by simp only; omega), sins_cons, if_pos a, hq]; rfl
    · rw [if_neg a] at h1
      by_cases b : c1 = e.1
      · rw [if_pos b] at h1; cases h1
      · rw [if_neg b] at h1; cases h1
        rw [sins_cons] at h2
        by_cases d : c1 < c2
        · rw [if_pos (by simpa using d)] at h2
          simp only [Option.map_eq_some_iff] at h2
          obtain ⟨q, hq, rfl⟩ := h2
          refine ⟨q, hq, ?_⟩
          rw [sins_cons] at hq
          by_cases f : e.1 < c2
          · rw [if_pos f] at hq
            simp only [Option.map_eq_some_iff] at hq
            obtain ⟨q2, hq2, rfl⟩ := hq
            rw [sins_cons, if_neg a, if_neg b]
          · rw [if_neg f] at hq
            by_cases g : c2 = e.1
            · rw [if_pos g] at hq; cases hq
            · rw [if_neg g] at hq; cases hq
              rw [sins_cons, if_neg (by simp only; omega), if_neg (by simp only; omega)]
        · rw [if_neg (by simpa using d)] at h2
          by_cases f : c2 = c1
          · rw [if_pos (by simpa using f)] at h2; cases h2
          · rw [if_neg (by simpa using f)] at h2; cases h2
            refine ⟨(c2, k2, v2) :: e :: es, by rw [sins_cons, if_neg (by omega), if_neg (by omega)], ?_⟩
            rw [sins_cons, if_pos (by simp only; omega), sins_cons, if_neg a, if_neg b]; rfl

theorem akeyEq_symm {d : TypeDesc} {x y : Value} {b : Bool} (h : akeyEq d x y = some b) : akeyEq d y x = some b := by
  unfold akeyEq at h
  split at h
  · rename_i k a k' b'
    by_cases hk : k = k'
    · subst hk
      simp only [decide_true, cond_true, Option.some.injEq] at h
      simp only [akeyEq, decide_true, cond_true, Option.some.injEq]
      rw [← h]; exact Bool.beq_comm
    · simp [hk] at h
  · cases h; simp only [akeyEq, eqStr, Option.some.injEq]; exact Bool.beq_comm
  · cases h; simp only [akeyEq, Option.some.injEq]; exact Bool.beq_comm
  · cases h

theorem sadd_intro {d : TypeDesc} {k v : Value} {es r : List (Nat × Value × Value)} {c : Nat} (hk : kcode k = some c) (hs : sins c k v es = some r) (ha : ∀ x ∈ es, akeyEq d k x.2.1 = some false) : sadd d k v es = some r := by
  have : es.all (fun x => isFls (akeyEq d k x.2.1)) = true := List.all_eq_true.2 fun x hx => isFls_eq.2 (ha x hx)
  simp only [sadd, hk, this, cond_true, hs]
theorem sadd_comm {d : TypeDesc} {k1 v1 k2 v2 : Value} {es e1 e2 : List (Nat × Value × Value)} (h1 : sadd d k1 v1 es = some e1) (h2 : sadd d k2 v2 e1 = some e2) :
    ∃ e3, sadd d k2 v2 es = some e3 ∧ sadd d k1 v1 e3 = some e2 := by
  obtain ⟨c1, a1, b1, f1⟩ := sadd_spec h1
  obtain ⟨c2, a2, b2, f2⟩ := sadd_spec h2
  obtain ⟨e3, g1, g2⟩ := sins_comm b1 b2
  refine ⟨e3, sadd_intro a2 g1 fun x hx => f2 x ((sins_mem b1 x).2 (.inr hx)), sadd_intro a1 g2 fun x hx => ?_⟩
  rcases (sins_mem g1 x).1 hx with rfl | hx
  · exact akeyEq_symm (f2 _ ((sins_mem b1 _).2 (.inl rfl)))
  · exact f1 x hx

section
variable {P : Program} {E : Env} {F : Fence} {n : Nat} {call : Fn → List Value → Heap → Option (Value × Heap)} {nt : Nat} {l : List Oper}

/-- an entry of the map r -/
def InsAt (E : Env) (l : List Oper) (fr : Fr) (t r : Nat) (x : Item) : Prop :=
  (∀ i ∈ x.again, loadIt l i = true) ∧ ∃ o m k v, l[x.i]? = some o ∧ o.op = .insert t m k v ∧ o.guard = none ∧ o.dst = none ∧ ev E fr m = some (.map (some r))

theorem ins_act {fr : Fr} {t r : Nat} {x : Item} (h : InsAt E l fr t r x) : ∃ o, l[x.i]? = some o ∧ isAct E o = true ∧ o.dst = none := by
  obtain ⟨_, o, m, k, v, ho, hop, _, hd, _⟩ := h
  exact ⟨o, ho, by simp [isAct, kindOf, hop], hd⟩

def dOf (E : Env) (t : Nat) : TypeDesc := match und E t with | some (.map kt _) => (und E kt).getD .invalid | _ => .invalid
def setS (H : Heap) (r : Nat) (es : List (Nat × Value × Value)) : Heap := { H with b := H.b.set r (.smap es) }
theorem getSmap_get {H : Heap} {r : Nat} {es : List (Nat × Value × Value)} (h : getSmap H (.map (some r)) = some es) : r < H.n ∧ H.b.get r = some (.smap es) := by
  simp only [getSmap] at h
  cases hb : Nat.blt r H.n with
  | false => rw [hb] at h; cases h
  | true =>
    rw [hb, cond_true] at h
    refine ⟨by simpa [Nat.blt_eq] using hb, ?_⟩
    split at h
    · rename_i es0 he; cases h; exact he
    · cases h
theorem getSmap_setS {H : Heap} {r : Nat} {es : List (Nat × Value × Value)} (h : r < H.n) : getSmap (setS H r es) (.map (some r)) = some es := by
  have : Nat.blt r H.n = true := by rw [Nat.blt_eq]; exact h
  simp only [getSmap, setS, this, cond_true, T.get_set_same]
theorem setS_setS (H : Heap) (r : Nat) (a b : List (Nat × Value × Value)) : setS (setS H r a) r b = setS H r b := by
  simp only [setS, T.set_set]

theorem cellsAt_setS {H : Heap} {r : Nat} {es es0 : List (Nat × Value × Value)} (h : H.b.get r = some (.smap es0)) (a : Addr) (n : Nat) : cellsAt (setS H r es) a n = cellsAt H a n := by
  unfold cellsAt setS
  simp only [T.get_set]
  by_cases hr : r = a.block
  · rw [if_pos hr, ← hr, h]
  · rw [if_neg hr]
theorem loadAt_setS {H : Heap} {r : Nat} {es es0 : List (Nat × Value × Value)} (h : H.b.get r = some (.smap es0)) (t : TypeId) (x : Value) : loadAt E t x (setS H r es) = loadAt E t x H := by
  unfold loadAt
  simp only [cellsAt_setS h]
theorem again_setS {fr : Fr} {H : Heap} {r : Nat} {es es0 : List (Nat × Value × Value)} (h : H.b.get r = some (.smap es0)) : ∀ (ag : List Nat), (∀ i ∈ ag, loadIt l i = true) → againOk E l fr (setS H r es) ag = againOk E l fr H ag
  | [], _ => rfl
  | i :: ag, hag => by
    have ih := again_setS (fr := fr) (es := es) h ag fun j hj => hag j (List.mem_cons_of_mem _ hj)
    have h1 := hag i List.mem_cons_self
    simp only [againOk, ih]
    unfold loadIt at h1
    cases ho : nth l i with
    | none => rfl
    | some o =>
      rw [ho] at h1
      simp only at h1
      unfold isLoad at h1
      split at h1
      · rename_i t a hop
        simp only [readOp, hop, loadAt_setS h]
      · cases h1

/-- what one entry does -/
theorem ins_step {fr : Fr} {t r : Nat} {x : Item} (h : InsAt E l fr t r x) {o : Oper} (ho : l[x.i]? = some o) :
    ∃ D : Option (Value × Value), ∀ {H : Heap} {es : List (Nat × Value × Value)}, getSmap H (.map (some r)) = some es →
      step E call nt l fr o H = D.bind fun p => (sadd (dOf E t) p.1 p.2 es).map fun es1 => (fr, setS H r es1) := by
  obtain ⟨_, o', m, k, v, ho', hop, hg, hd, hm⟩ := h
  rw [ho] at ho'; cases ho'
  have key : ∀ H, step E call nt l fr o H = match ev E fr k, ev E fr v with
      | some kk, some vv => (amapUpdate E t (.map (some r)) kk vv H).map fun h => (fr, h)
      | _, _ => none := by
    intro H
    simp only [step, wantedA, hg, opBy, kindOf, hop, actOp, hm]
    cases ev E fr k with
    | none => rfl
    | some kk =>
      cases ev E fr v with
      | none => rfl
      | some vv =>
        simp only
        cases amapUpdate E t (.map (some r)) kk vv H with
        | none => rfl
        | some h => simp only [Option.map_some, put, hd]
  cases hk : ev E fr k with
  | none => exact ⟨none, fun {H es} hs => by rw [key, hk]; rfl⟩
  | some kk =>
    cases hv : ev E fr v with
    | none => exact ⟨none, fun {H es} hs => by rw [key, hk, hv]; rfl⟩
    | some vv =>
      cases hu : und E t with
      | none => exact ⟨none, fun {H es} hs => by rw [key, hk, hv]; simp only [amapUpdate, hu]; rfl⟩
      | some d0 =>
        by_cases hmap : ∃ kt et, d0 = .map kt et
        · obtain ⟨kt, et, rfl⟩ := hmap
          cases hkt : und E kt with
          | none => exact ⟨none, fun {H es} hs => by rw [key, hk, hv]; simp only [amapUpdate, hu, hkt]; rfl⟩
          | some d =>
            cases hc : (keyOk d && acheck E 20 kt kk) with
            | false =>
              refine ⟨none, fun {H es} hs => ?_⟩
              obtain ⟨g1, g2⟩ := getSmap_get hs
              have hgm : getMap H (.map (some r)) = none := by simp only [getMap, g2]; cases Nat.blt r H.n <;> rfl
              rw [key, hk, hv]; simp only [amapUpdate, hu, hkt, hgm, hc, cond_false]; rfl
            | true =>
              refine ⟨some (kk, vv), fun {H es} hs => ?_⟩
              obtain ⟨g1, g2⟩ := getSmap_get hs
              have hgm : getMap H (.map (some r)) = none := by simp only [getMap, g2]; cases Nat.blt r H.n <;> rfl
              rw [key, hk, hv]
              have hdO : dOf E t = d := by simp only [dOf, hu, hkt, Option.getD_some]
              simp only [amapUpdate, hu, hkt, hgm, hc, cond_true, hs, hdO, Option.bind_some, Option.map_map]
              rfl
        · refine ⟨none, fun {H es} hs => ?_⟩
          rw [key, hk, hv]
          have : amapUpdate E t (.map (some r)) kk vv H = none := by
            unfold amapUpdate
            rw [hu]
            split
            · rename_i kt et r' e1 e2
              exact absurd ⟨_, _, by cases e1; rfl⟩ hmap
            · rfl
          simp only [this]; rfl

theorem ins_cons {fr : Fr} {t r : Nat} {x : Item} (h : InsAt E l fr t r x) {xs : List Item} {H : Heap} {es : List (Nat × Value × Value)} (hs : getSmap H (.map (some r)) = some es) {R : Fr × Heap}
    {o : Oper} (ho : l[x.i]? = some o) {D : Option (Value × Value)}
    (hD : ∀ {H : Heap} {es : List (Nat × Value × Value)}, getSmap H (.map (some r)) = some es → step E call nt l fr o H = D.bind fun p => (sadd (dOf E t) p.1 p.2 es).map fun es1 => (fr, setS H r es1)) :
    stepsPlan E call nt l (x :: xs) fr H = some R ↔ ∃ p es1, D = some p ∧ sadd (dOf E t) p.1 p.2 es = some es1 ∧ againOk E l fr H x.again = true ∧ stepsPlan E call nt l xs fr (setS H r es1) = some R := by
  have hag := fun es1 => again_setS (E := E) (l := l) (fr := fr) (es := es1) (getSmap_get hs).2 x.again h.1
  simp only [stepsPlan, nth_eq, ho, hD hs]
  cases D with
  | none => simp
  | some p =>
    simp only [Option.bind_some, Option.some.injEq]
    cases hsa : sadd (dOf E t) p.1 p.2 es with
    | none => simp [hsa]
    | some es1 =>
      have hn : Nat.ble H.n (setS H r es1).n = true := by rw [Nat.ble_eq]; exact Nat.le_refl _
      simp only [Option.map_some, hn, hag, Bool.true_and]
      constructor
      · intro h
        cases ha : againOk E l fr H x.again with
        | false => rw [ha] at h; cases h
        | true => rw [ha] at h; exact ⟨p, es1, rfl, hsa, rfl, h⟩
      · rintro ⟨p', es', rfl, hsa', ha, h⟩
        rw [hsa] at hsa'; cases hsa'
        rw [ha]; exact h

theorem ins_swap {fr : Fr} {t r : Nat} {z x : Item} (hz : InsAt E l fr t r z) (hx : InsAt E l fr t r x) {B : List Item} {H : Heap} {es : List (Nat × Value × Value)} (hs : getSmap H (.map (some r)) = some es) {R : Fr × Heap}
    (e : stepsPlan E call nt l (z :: x :: B) fr H = some R) : stepsPlan E call nt l (x :: z :: B) fr H = some R := by
  obtain ⟨oz, hoz, -, -⟩ := ins_act hz
  obtain ⟨ox, hox, -, -⟩ := ins_act hx
  obtain ⟨Dz, hDz⟩ := ins_step (call := call) (nt := nt) hz hoz
  obtain ⟨Dx, hDx⟩ := ins_step (call := call) (nt := nt) hx hox
  obtain ⟨hlt, _⟩ := getSmap_get hs
  obtain ⟨p, es1, h1, h2, a1, h3⟩ := (ins_cons hz hs hoz hDz).1 e
  obtain ⟨q, es2, h4, h5, a2, h6⟩ := (ins_cons hx (getSmap_setS hlt) hox hDx).1 h3
  obtain ⟨es3, g1, g2⟩ := sadd_comm h2 h5
  have hgs := (getSmap_get hs).2
  rw [again_setS hgs _ hx.1] at a2
  refine (ins_cons hx hs hox hDx).2 ⟨q, es3, h4, g1, a2, (ins_cons hz (getSmap_setS hlt) hoz hDz).2 ⟨p, es2, h1, g2, by rw [again_setS hgs _ hz.1]; exact a1, ?_⟩⟩
  rw [setS_setS] at h6 ⊢
  exact h6

/-- the frame stays, and the map is one without an order -/
theorem ins_steps {fr : Fr} {t r : Nat} : ∀ {A B : List Item} {H : Heap} {R : Fr × Heap}, (∀ x ∈ A, InsAt E l fr t r x) → isSmap H r = true → stepsPlan E call nt l (A ++ B) fr H = some R →
    ∃ H', stepsPlan E call nt l A fr H = some (fr, H') ∧ isSmap H' r = true ∧ stepsPlan E call nt l B fr H' = some R
  | [], B, H, R, _, hs, e => ⟨H, rfl, hs, e⟩
  | x :: A, B, H, R, hA, hs, e => by
    have hx := hA x List.mem_cons_self
    unfold isSmap at hs
    split at hs
    · rename_i es hs0
      obtain ⟨o, ho, -, -⟩ := ins_act hx
      obtain ⟨D, hD⟩ := ins_step (call := call) (nt := nt) hx ho
      obtain ⟨hlt, _⟩ := getSmap_get hs0
      obtain ⟨p, es1, h1, h2, a1, h3⟩ := (ins_cons hx hs0 ho hD).1 e
      obtain ⟨H', g1, g2, g3⟩ := ins_steps (A := A) (B := B) (fun y hy => hA y (List.mem_cons_of_mem _ hy)) (by unfold isSmap; rw [getSmap_setS hlt]) h3
      exact ⟨H', (ins_cons hx hs0 ho hD).2 ⟨p, es1, h1, h2, a1, g1⟩, g2, g3⟩
    · cases hs

theorem ins_front {fr : Fr} {t r : Nat} {x : Item} (hx : InsAt E l fr t r x) : ∀ {A B : List Item} {H : Heap} {R : Fr × Heap}, (∀ y ∈ A, InsAt E l fr t r y) → isSmap H r = true → stepsPlan E call nt l (A ++ x :: B) fr H = some R →
    stepsPlan E call nt l (x :: (A ++ B)) fr H = some R
  | [], B, H, R, _, _, e => e
  | z :: A, B, H, R, hA, hs, e => by
    have hz := hA z List.mem_cons_self
    have hs2 := hs
    unfold isSmap at hs
    split at hs
    · rename_i es hs0
      obtain ⟨o, ho, -, -⟩ := ins_act hz
      obtain ⟨D, hD⟩ := ins_step (call := call) (nt := nt) hz ho
      obtain ⟨hlt, _⟩ := getSmap_get hs0
      obtain ⟨p, es1, h1, h2, a1, h3⟩ := (ins_cons hz hs0 ho hD).1 e
      have h4 := ins_front hx (A := A) (B := B) (fun y hy => hA y (List.mem_cons_of_mem _ hy)) (by unfold isSmap; rw [getSmap_setS hlt]) h3
      exact ins_swap hz hx hs0 ((ins_cons hz hs0 ho hD).2 ⟨p, es1, h1, h2, a1, h4⟩)
    · cases hs

theorem split_app {α : Type} {P Q pre suf : List α} {y : α} (e : P ++ Q = pre ++ y :: suf) : (∃ s, P = pre ++ y :: s) ∨ ∃ p, pre = P ++ p ∧ Q = p ++ y :: suf := by
  rcases List.append_eq_append_iff.1 e with ⟨c, h1, h2⟩ | ⟨c, h1, h2⟩
  · exact .inr ⟨c, h1, h2⟩
  · cases c with
    | nil => exact .inr ⟨[], by simpa using h1.symm, by simpa using h2.symm⟩
    | cons z c =>
      simp only [List.cons_append, List.cons.injEq] at h2
      obtain ⟨rfl, _⟩ := h2
      exact .inl ⟨c, h1⟩

theorem replan {bs : List Nat} {P A B : List Item} {x : Item} {o : Oper} (hp : PlanF E false l bs (P ++ (A ++ x :: B))) (ho : l[x.i]? = some o) (ha : isAct E o = true) (hd : o.dst = none)
    (hdep : ∀ e ∈ o.after, Region.binds .any e = true → ∃ y ∈ P, y.i = e.on) : PlanF E false l bs (P ++ (x :: (A ++ B))) where
  cov i hi := by
    obtain ⟨y, hy, e⟩ := hp.cov i hi
    refine ⟨y, ?_, e⟩
    simp only [List.mem_append, List.mem_cons] at hy ⊢
    rcases hy with h | h | h | h
    · exact .inl h
    · exact .inr (.inr (.inl h))
    · exact .inr (.inl h)
    · exact .inr (.inr (.inr h))
  at_ pre y suf e := by
    rcases split_app e with ⟨s, hs⟩ | ⟨p, hs, e'⟩
    · exact hp.at_ pre y (s ++ (A ++ x :: B)) (by rw [hs]; simp)
    · subst hs
      clear e
      have e := e'
      clear e'
      cases p with
      | nil =>
        simp only [List.nil_append, List.cons.injEq] at e
        obtain ⟨rfl, rfl⟩ := e
        obtain ⟨o', b, g1, g2, g3, g4, g5, g6⟩ := hp.at_ (P ++ A) x B (by simp)
        rw [ho] at g1; cases g1
        simp only [List.append_nil]
        refine ⟨o, b, ho, g2, fun z hz => g3 z (List.mem_append_left _ hz), hdep, fun h => (by cases h), fun _ z hz oz hoz hr => ?_⟩
        rcases g6 ha z (List.mem_append_left _ hz) oz hoz hr with g | ⟨g, f⟩
        · exact .inl g
        · refine .inr ⟨g, fun by_ hb t ht q hq => ?_⟩
          rcases f by_ hb t ht q hq with f | f
          · exact .inl f
          · exact .inr fun u hu => f u (List.mem_append_left _ hu)
      | cons z p =>
        simp only [List.cons_append, List.cons.injEq] at e
        obtain ⟨rfl, e⟩ := e
        have hxb := hp.at_ (P ++ A) x B (by simp)
        rcases split_app e with ⟨s, hs⟩ | ⟨p2, hs, e2⟩
        · obtain ⟨oy, b, g1, g2, g3, g4, g5, g6⟩ := hp.at_ (P ++ p) y (s ++ x :: B) (by rw [hs]; simp)
          refine ⟨oy, b, g1, g2, fun z hz => ?_, fun e he hb => ?_, fun h => (by cases h), fun hay z hz oz hoz hr => ?_⟩
          · simp only [List.mem_append, List.mem_cons] at hz
            rcases hz with h | rfl | h
            · exact g3 z (List.mem_append_left _ h)
            · obtain ⟨_, _, _, _, f, _⟩ := hxb
              exact fun ee => f y (by rw [hs]; simp) ee.symm
            · exact g3 z (List.mem_append_right _ h)
          · obtain ⟨u, hu, e⟩ := g4 e he hb
            refine ⟨u, ?_, e⟩
            simp only [List.mem_append, List.mem_cons] at hu ⊢
            rcases hu with h | h
            · exact .inl h
            · exact .inr (.inr h)
          · have hz2 : z ∈ P ++ p := by
              simp only [List.mem_append, List.mem_cons] at hz ⊢
              rcases hz with h | rfl | h
              · exact .inl h
              · rw [ho] at hoz; cases hoz; rw [isAR ha] at hr; cases hr
              · exact .inr h
            rcases g6 hay z hz2 oz hoz hr with g | ⟨g, f⟩
            · exact .inl g
            · refine .inr ⟨g, fun by_ hb t ht q hq => ?_⟩
              rcases f by_ hb t ht q hq with f | f
              · exact .inl f
              · refine .inr fun u hu => ?_
                simp only [List.mem_append, List.mem_cons] at hu
                rcases hu with h | rfl | h
                · exact f u (List.mem_append_left _ h)
                · intro ee
                  obtain ⟨oq, hoq, hqd⟩ := hq
                  rw [← ee, ho] at hoq; cases hoq
                  rw [hd] at hqd; cases hqd
                · exact f u (List.mem_append_right _ h)
        · subst hs
          subst e2
          obtain ⟨oy, b, g1, g2, g3, g4, g5, g6⟩ := hp.at_ (P ++ (A ++ x :: p2)) y suf (by simp)
          have hm : ∀ z, z ∈ P ++ (A ++ x :: p2) ↔ z ∈ P ++ x :: (A ++ p2) := by
            intro z
            simp only [List.mem_append, List.mem_cons]
            constructor
            · rintro (h | h | h | h)
              · exact .inl h
              · exact .inr (.inr (.inl h))
              · exact .inr (.inl h)
              · exact .inr (.inr (.inr h))
            · rintro (h | h | h | h)
              · exact .inl h
              · exact .inr (.inr (.inl h))
              · exact .inr (.inl h)
              · exact .inr (.inr (.inr h))
          refine ⟨oy, b, g1, g2, fun z hz => g3 z ((hm z).2 hz), fun e he hb => ?_, fun h => (by cases h), fun hay z hz oz hoz hr => ?_⟩
          · obtain ⟨u, hu, e⟩ := g4 e he hb
            exact ⟨u, (hm u).1 hu, e⟩
          · rcases g6 hay z ((hm z).2 hz) oz hoz hr with g | ⟨g, f⟩
            · exact .inl g
            · refine .inr ⟨g, fun by_ hb t ht q hq => ?_⟩
              rcases f by_ hb t ht q hq with f | f
              · exact .inl f
              · exact .inr fun u hu => f u ((hm u).2 hu)
  once := hp.once
  slots := hp.slots

end
section
variable {P : Program} {E : Env} {F : Fence} {n : Nat} {call : Fn → List Value → Heap → Option (Value × Heap)} {nt : Nat} {ops : Array Oper}
variable {fr0 frN fr1 : Fr} {ρ0 : Ren} {h0 hN h1 : Heap} {w0 : World} {B : Nat} {t r : Nat} {q z : List Item}

/-- a region whose acts are entries of one map, in whatever order -/
theorem drawn_simI (hE : EnvOK P E) (hF : FOK F) (hc : CallSound P E call) {Q : Exit → Act → World → Prop}
    (hk : ∀ a' w', After B P E ρ0 h0 w0 nt frN hN a' w' → Q .normal a' w') (hq : ∀ x ∈ q, ∀ o, ops.toList[x.i]? = some o → isAct E o = false) (hrq : stepsPlan E call nt ops.toList q fr0 h0 = some (fr1, h1)) (hs1 : isSmap h1 r = true) (hz : ∀ x ∈ z, ∀ o, ops.toList[x.i]? = some o → isAct E o = false) :
    ∀ (fuel : Nat) (listed : Array Bool) (I pre suf : List Item) (frT : Fr) (hT : Heap) (ρ : Ren) (frS : Fr) (a : Act) (w : World), (∀ x ∈ I, InsAt E ops.toList fr1 t r x) → (∀ x ∈ z, ∀ b, (beforeOf ops.toList [])[x.i]? = some b → ∀ y ∈ I, b.testBit y.i = true) → PlanF E false ops.toList (beforeOf ops.toList []) (q ++ (I ++ z)) →
      stepsPlan E call nt ops.toList (q ++ (I ++ z)) fr0 h0 = some (frN, hN) →
      listed.size = ops.size → listed.toList.count false = fuel → InvL P E call nt ops (q ++ (I ++ z)) fr0 frN ρ0 h0 w0 B listed pre suf frT hT ρ frS a w → wpAnyIn F n P .any ops Q fuel listed a w
  | 0, listed, I, pre, suf, frT, hT, ρ, frS, a, w, hI, hb, hp, hrun, hsz, hcn, inv => by
    have hnil : Region.ready .any ops listed = [] := by
      rw [List.eq_nil_iff_forall_not_mem]
      intro i hi
      obtain ⟨hf, o, ho, _⟩ := mem_ready.1 hi
      have hlt : i < listed.size := by rw [hsz]; exact (Array.getElem?_eq_some_iff.1 ho).1
      simp only [Array.getD_eq_getD_getElem?, Array.getElem?_eq_getElem hlt, Option.getD_some] at hf
      have : false ∈ listed.toList := by rw [← hf]; simp
      exact List.count_eq_zero.1 hcn this
    exact ⟨hnil, hk a w (finish hp hrun hsz hnil inv)⟩
  | fuel + 1, listed, I, pre, suf, frT, hT, ρ, frS, a, w, hI, hb, hp, hrun, hsz, hcn, inv => by
    refine ⟨fun hnil => hk a w (finish hp hrun hsz hnil inv), fun i hi => ?_⟩
    obtain ⟨hf, o, ho, hpre⟩ := mem_ready.1 hi
    have ho' : ops.toList[i]? = some o := by rw [Array.getElem?_toList]; exact ho
    have hlt : i < listed.size := by rw [hsz]; exact (Array.getElem?_eq_some_iff.1 ho).1
    have hs : ¬ listed.getD i false = true := by
      simp only [Array.getD_eq_getD_getElem?, Array.getElem?_eq_getElem hlt, Option.getD_some] at hf ⊢
      simp [hf]
    obtain ⟨pre', suf', frT', hT', inv', hhead⟩ := advance hp hrun suf pre frT hT inv
    obtain ⟨p1, x, s1, epl, hxi⟩ := hp.pos ho'
    subst hxi
    have hsz' : (listed.setIfInBounds x.i true).size = ops.size := by simp [hsz]
    have hcn' := count_set hlt hf hcn
    have hx : x ∈ pre' ++ suf' := by rw [← inv'.pl, epl]; simp
    rcases List.mem_append.1 hx with hx | hx
    · obtain ⟨q1, q2, eq⟩ := List.append_of_mem hx
      cases ha : isAct E o with
      | true => exact absurd (inv'.acts x hx o ho' ha) hs
      | false => exact quiet_more hE hF hp hrun hsz inv' eq ho hs ha hpre fun ρ' frS' a' w' inv2 => drawn_simI hE hF hc hk hq hrq hs1 hz fuel _ I pre' suf' frT' hT' ρ' frS' a' w' hI hb hp hrun hsz' hcn' inv2
    · rcases hhead with rfl | ⟨y, s, oy, rfl, hoy, hya⟩
      · cases hx
      · rcases List.mem_cons.1 hx with rfl | hx
        · rw [ho'] at hoy; cases hoy
          exact act_more hE hF hc hp hrun hsz inv' ho hs hpre fun frT2 hT2 ρ' frS' a' w' inv2 => drawn_simI hE hF hc hk hq hrq hs1 hz fuel _ I _ s frT2 hT2 ρ' frS' a' w' hI hb hp hrun hsz' hcn' inv2
        · rcases split_app inv'.pl with ⟨s9, hs2⟩ | ⟨p9, hpre', e9⟩
          · have := hq y (by rw [hs2]; simp) oy hoy
            rw [hya] at this; cases this
          obtain ⟨s0, eI⟩ : ∃ s0, I = p9 ++ y :: s0 := by
            rcases split_app e9 with h | ⟨p8, _, e8⟩
            · exact h
            · have := hz y (by rw [e8]; simp) oy hoy
              rw [hya] at this; cases this
          have es : s = s0 ++ z := by
            rw [eI] at e9
            have e7 : p9 ++ (y :: (s0 ++ z)) = p9 ++ y :: s := by rw [← e9]; simp
            have := List.append_cancel_left e7
            simp only [List.cons.injEq, true_and] at this
            exact this.symm
          subst es
          have hnx : x ∉ z := fun hxz => by
            obtain ⟨bx, hbx⟩ := beforeOf_length ops.toList ho'
            have h1 := hb x hxz bx hbx y (by rw [eI]; simp)
            exact inv'.out y (by simp) (bef inv'.closed y.i x.i o bx ho' hbx hpre h1)
          have hx : x ∈ s0 := by
            rcases List.mem_append.1 hx with h | h
            · exact h
            · exact absurd h hnx
          obtain ⟨u1, u2, rfl⟩ := List.append_of_mem hx
          subst hpre'
          subst eI
          have hx' : InsAt E ops.toList fr1 t r x := hI x (by simp)
          obtain ⟨ox, hox, hxa, hxd⟩ := ins_act hx'
          rw [ho'] at hox; cases hox
          have hat := inv'.at_
          obtain ⟨f1, H1, e1, e2⟩ := plan_append hat
          rw [hrq] at e1; cases e1
          obtain ⟨H', g1, g2, g3⟩ := ins_steps (call := call) (nt := nt) (A := p9) (B := []) (fun z hz => hI z (by simp [hz])) hs1 (by simpa using e2)
          simp only [stepsPlan, Option.some.injEq, Prod.mk.injEq] at g3
          obtain ⟨rfl, rfl⟩ := g3
          have hrest : stepsPlan E call nt ops.toList (y :: (u1 ++ x :: (u2 ++ z))) fr1 H' = some (frN, hN) := by
            have h0 := hrun
            have e6 : q ++ ((p9 ++ y :: (u1 ++ x :: u2)) ++ z) = (q ++ p9) ++ (y :: (u1 ++ x :: (u2 ++ z))) := by simp
            rw [e6] at h0
            obtain ⟨f, hh, a1, a2⟩ := plan_append h0
            rw [hat] at a1; cases a1; exact a2
          have hnew := ins_front hx' (A := y :: u1) (B := u2 ++ z) (fun z hz => hI z (by
            rcases List.mem_cons.1 hz with rfl | hz
            · simp
            · simp [hz])) g2 hrest
          have hp2 : PlanF E false ops.toList (beforeOf ops.toList []) ((q ++ p9) ++ (x :: ((y :: u1) ++ (u2 ++ z)))) := by
            refine replan (A := y :: u1) (B := u2 ++ z) (by simpa using hp) ho' hxa hxd fun e he hbd => ?_
            obtain ⟨o3, b3, g31, _, _, g34, _, _⟩ := hp.at_ (q ++ p9 ++ y :: u1) x (u2 ++ z) (by simp)
            rw [ho'] at g31; cases g31
            obtain ⟨z', hz', ez⟩ := g34 e he hbd
            rcases List.mem_append.1 hz' with hz' | hz'
            · exact ⟨z', hz', ez⟩
            · refine absurd (hpre e he hbd) ?_
              rw [← ez]
              refine inv'.out z' ?_
              rcases List.mem_cons.1 hz' with rfl | hz'
              · simp
              · simp [hz']
          have hrun2 : stepsPlan E call nt ops.toList ((q ++ p9) ++ (x :: ((y :: u1) ++ (u2 ++ z)))) fr0 h0 = some (frN, hN) := plan_join hat hnew
          have hm : ∀ v, v ∈ p9 ++ (x :: ((y :: u1) ++ u2)) → v ∈ p9 ++ y :: (u1 ++ x :: u2) := fun v hv => by
            simp only [List.mem_append, List.mem_cons] at hv ⊢
            rcases hv with h | h | (h | h) | h
            · exact .inl h
            · exact .inr (.inr (.inr (.inl h)))
            · exact .inr (.inl h)
            · exact .inr (.inr (.inl h))
            · exact .inr (.inr (.inr (.inr h)))
          have e5 : (q ++ p9) ++ (x :: ((y :: u1) ++ (u2 ++ z))) = q ++ ((p9 ++ (x :: ((y :: u1) ++ u2))) ++ z) := by simp
          rw [e5] at hp2 hrun2
          have inv2 : InvL P E call nt ops (q ++ ((p9 ++ (x :: ((y :: u1) ++ u2))) ++ z)) fr0 frN ρ0 h0 w0 B listed (q ++ p9) (x :: ((y :: u1) ++ (u2 ++ z))) fr1 H' ρ frS a w := {
            pl := by simp
            at_ := inv'.at_
            acts := inv'.acts
            out := fun v hv => inv'.out v (by
              simp only [List.mem_append, List.mem_cons] at hv ⊢
              rcases hv with h | (h | h) | h | h
              · exact .inr (.inl (.inr (.inl h)))
              · exact .inl h
              · exact .inr (.inl (.inl h))
              · exact .inr (.inl (.inr (.inr h)))
              · exact .inr (.inr h))
            closed := inv'.closed
            fr := inv'.fr
            st := inv'.st
            nt_ := inv'.nt_
            df := inv'.df
            slotsW := inv'.slotsW
            slotsN := inv'.slotsN
            pend := inv'.pend }
          exact act_more hE hF hc hp2 hrun2 hsz inv2 ho hs hpre fun frT2 hT2 ρ' frS' a' w' inv3 => drawn_simI hE hF hc hk hq hrq hs1 hz fuel _ _ _ _ frT2 hT2 ρ' frS' a' w' (fun v hv => hI v (hm v hv)) (fun v hv b hb' w' hw' => hb v hv b hb' w' (hm w' hw')) hp2 hrun2 hsz' hcn' inv3

theorem plannedI_spec {l : List Oper} {q A Z : List Item} (h : plannedI E l = some (q, A, Z)) :
    PlanF E false l (beforeOf l []) (q ++ (A ++ Z)) ∧ (∀ x ∈ q, ∀ o, l[x.i]? = some o → isAct E o = false) ∧ (∀ x ∈ A, (∀ i ∈ x.again, loadIt l i = true) ∧ ∃ o, l[x.i]? = some o ∧ isIns o = true) ∧
      (∀ x ∈ Z, ∀ o, l[x.i]? = some o → isAct E o = false) ∧ ∀ x ∈ Z, ∀ b, (beforeOf l [])[x.i]? = some b → ∀ y ∈ A, b.testBit y.i = true := by
  unfold plannedI at h
  simp only at h
  generalize ((itsOf l).filter fun x => !actIt E l x).filter (fun x => !behindAll (beforeOf l []) ((itsOf l).filter (actIt E l)) x) = q0 at h
  generalize ((itsOf l).filter fun x => !actIt E l x).filter (behindAll (beforeOf l []) ((itsOf l).filter (actIt E l))) = z0 at h
  generalize ((itsOf l).filter (actIt E l)).map (withLoads l (beforeOf l []) q0) = a0 at h
  cases hc : (planOk E false l (beforeOf l []) (q0 ++ (a0 ++ z0)) && a0.all (insIt l) && a0.all (fun x => x.again.all (loadIt l)) && q0.all (fun x => !actIt E l x) && z0.all (fun x => !actIt E l x && behindAll (beforeOf l []) a0 x)) with
  | false => rw [hc] at h; cases h
  | true =>
    rw [hc] at h
    simp only [cond_true, Option.some.injEq, Prod.mk.injEq] at h
    obtain ⟨rfl, rfl, rfl⟩ := h
    simp only [Bool.and_eq_true] at hc
    obtain ⟨⟨⟨⟨c1, c2⟩, c3⟩, c4⟩, c5⟩ := hc
    have quiet : ∀ x : Item, (!actIt E l x) = true → ∀ o, l[x.i]? = some o → isAct E o = false := fun x this o ho => by
      unfold actIt at this
      rw [nth_eq, ho] at this
      simpa using this
    refine ⟨planF c1, fun x hx => quiet x (List.all_eq_true.1 c4 x hx), fun x hx => ⟨fun i hi => List.all_eq_true.1 (List.all_eq_true.1 c3 x hx) i hi, ?_⟩, fun x hx => ?_, fun x hx b hb y hy => ?_⟩
    · have := List.all_eq_true.1 c2 x hx
      unfold insIt at this
      rw [nth_eq] at this
      cases ho : l[x.i]? with
      | none => rw [ho] at this; cases this
      | some o => rw [ho] at this; exact ⟨o, rfl, this⟩
    · have := List.all_eq_true.1 c5 x hx
      simp only [Bool.and_eq_true] at this
      exact quiet x this.1
    · have := List.all_eq_true.1 c5 x hx
      simp only [Bool.and_eq_true] at this
      have := this.2
      unfold behindAll at this
      rw [nth_eq, hb] at this
      exact List.all_eq_true.1 this y hy

theorem insAll_spec {l : List Oper} {q A Z : List Item} {fr : Fr} {h : Heap} (hp : plannedI E l = some (q, A, Z)) (hs : insAll E l fr h A = true) : ∃ t r, isSmap h r = true ∧ ∀ x ∈ A, InsAt E l fr t r x := by
  obtain ⟨_, _, hA, _⟩ := plannedI_spec hp
  unfold insAll at hs
  split at hs
  · cases hs
  · split at hs
    · rename_i t r _
      simp only [Bool.and_eq_true] at hs
      refine ⟨t, r, hs.1, fun x hx => ?_⟩
      obtain ⟨hag, o, ho, hi⟩ := hA x hx
      have := List.all_eq_true.1 hs.2 x hx
      rw [nth_eq, ho] at this
      simp only at this
      unfold insOne at this
      split at this
      · rename_i t' m k v hop
        simp only [Bool.and_eq_true] at this
        obtain ⟨ht, hm⟩ := this
        have ht := Nat.eq_of_beq_eq_true ht
        subst ht
        unfold isIns at hi
        split at hi
        · rename_i hop2 hg hd
          rw [hop] at hop2
          split at hm
          · rename_i r' hev
            have hr := Nat.eq_of_beq_eq_true hm
            subst hr
            exact ⟨hag, o, m, k, v, ho, hop, hg, hd, hev⟩
          · cases hm
        · cases hi
      · cases this
    · cases hs

theorem region_simI (hE : EnvOK P E) (hF : FOK F) (hc : CallSound P E call) {id : Nat} {ρ : Ren} {h h1 h' : Heap} {fr fr1 fr' : Fr} {a : Act} {w : World} {q A Z : List Item} (hpl : plannedI E ops.toList = some (q, A, Z))
    (hrq : stepsPlan E call nt ops.toList q fr h = some (fr1, h1)) (hall : insAll E ops.toList fr1 h1 A = true) (hrA : stepsPlan E call nt ops.toList (A ++ Z) fr1 h1 = some (fr', h'))
    (hf : FR E ρ fr a) (hr : HR P ρ h w) (hnt : a.tmps.size = nt) (hd : DR P B ρ w a.defers) {Q : Exit → Act → World → Prop} (hk : ∀ a' w', After B P E ρ h w nt fr' h' a' w' → Q .normal a' w') : (Code.region id ops true).wpIn F n P Q a w := by
  refine wpIn_region_any hE.mixed ?_
  obtain ⟨hp, hqq, _, hzz, hbb⟩ := plannedI_spec hpl
  obtain ⟨t, r, hs1, hI⟩ := insAll_spec hpl hall
  have hnone : ∀ i, ¬ (Array.replicate ops.size false).getD i false = true := by
    intro i
    simp only [Array.getD_eq_getD_getElem?, Array.getElem?_replicate]
    split <;> simp
  refine drawn_simI (ρ0 := ρ) (w0 := w) hE hF hc hk hqq hrq hs1 hzz ops.size (Array.replicate ops.size false) A [] _ fr h ρ fr a _ hI hbb hp (plan_join hrq hrA) (by simp) (by simp) {
    pl := rfl
    at_ := rfl
    acts := by simp
    out := fun y _ => hnone _
    closed := fun i o hi => absurd hi (hnone i)
    fr := hf
    st := Stp.draw hr _
    nt_ := hnt
    df := hd.step (Stp.draw hr _)
    slotsW := fun i t hi => absurd hi (hnone i)
    slotsN := fun t _ => rfl
    pend := by intro pre1 x m e; simp at e }
end
end Go.Ev
