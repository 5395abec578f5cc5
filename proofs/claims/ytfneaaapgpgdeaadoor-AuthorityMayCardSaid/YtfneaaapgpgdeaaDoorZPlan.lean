/- THE EVALUATOR, part 'Plan': a deterministic reading of the program's code over an abstract heap, and that the model does what it says. Conditions: none beyond each theorem's own. -/
import Derived.Test.YtfneaaapgpgdeaaDoorZStep
set_option linter.unusedSimpArgs false
set_option linter.unusedVariables false
namespace Go.Ev
section
variable {E : Env}

def rowOf (acc : List Nat) (o : Oper) : Nat := o.after.toList.foldl (fun s e => cond (Region.binds .any e) (s ||| 2 ^ e.on ||| (nth acc e.on).getD 0) s) 0

theorem foldl_bit (acc : List Nat) (j : Nat) : ∀ (es : List Edge) (s : Nat), (es.foldl (fun s e => cond (Region.binds .any e) (s ||| 2 ^ e.on ||| (nth acc e.on).getD 0) s) s).testBit j = true →
    s.testBit j = true ∨ ∃ e ∈ es, Region.binds .any e = true ∧ (j = e.on ∨ ∃ b : Nat, acc[e.on]? = some b ∧ b.testBit j = true)
  | [], s, h => .inl h
  | e :: es, s, h => by
    simp only [List.foldl_cons] at h
    rcases foldl_bit acc j es _ h with h | ⟨e', he, hb, hh⟩
    · cases hb : Region.binds .any e with
      | false => rw [hb] at h; exact .inl h
      | true =>
        rw [hb] at h
        simp only [cond_true, Nat.testBit_or, Bool.or_eq_true] at h
        rcases h with (h | h) | h
        · exact .inl h
        · rw [Nat.testBit_two_pow] at h
          exact .inr ⟨e, List.mem_cons_self, hb, .inl (by simpa using (of_decide_eq_true h).symm)⟩
        · rw [nth_eq] at h
          cases hx : acc[e.on]? with
          | none => rw [hx] at h; simp at h
          | some b => rw [hx] at h; exact .inr ⟨e, List.mem_cons_self, hb, .inr ⟨b, hx, h⟩⟩
    · exact .inr ⟨e', List.mem_cons_of_mem _ he, hb, hh⟩

theorem rowOf_bit {acc : List Nat} {o : Oper} {j : Nat} (h : (rowOf acc o).testBit j = true) :
    ∃ e ∈ o.after.toList, Region.binds .any e = true ∧ (j = e.on ∨ ∃ b, acc[e.on]? = some b ∧ b.testBit j = true) := by
  rcases foldl_bit acc j _ _ h with h | h
  · simp at h
  · exact h

theorem beforeOf_prefix : ∀ (os : List Oper) (acc : List Nat), ∃ r, beforeOf os acc = acc ++ r
  | [], acc => ⟨[], by simp [beforeOf]⟩
  | o :: os, acc => by
    obtain ⟨r, h⟩ := beforeOf_prefix os (acc ++ [rowOf acc o])
    exact ⟨[rowOf acc o] ++ r, by rw [beforeOf, ← rowOf, h, List.append_assoc]⟩

theorem beforeOf_get : ∀ (os : List Oper) (acc : List Nat) (i : Nat), (beforeOf os acc)[i]? = if i < acc.length then acc[i]? else (os[i - acc.length]?).map (rowOf ((beforeOf os acc).take i))
  | [], acc, i => by
    simp only [beforeOf]
    split
    · rfl
    · rename_i h; simp; omega
  | o :: os, acc, i => by
    have hb : beforeOf (o :: os) acc = beforeOf os (acc ++ [rowOf acc o]) := by rw [beforeOf, ← rowOf]
    rw [hb, beforeOf_get os]
    by_cases h1 : i < acc.length
    · rw [if_pos (by simp; omega), if_pos h1, List.getElem?_append_left h1]
    · rw [if_neg h1]
      by_cases h2 : i = acc.length
      · subst h2
        rw [if_pos (by simp)]
        obtain ⟨r, hr⟩ := beforeOf_prefix os (acc ++ [rowOf acc o])
        rw [hr]
        simp
      · rw [if_neg (by simp; omega)]
        have : i - acc.length = (i - (acc ++ [rowOf acc o]).length) + 1 := by simp; omega
        rw [this]
        simp

def Closed (l : List Oper) (S : Nat → Prop) : Prop := ∀ i o, S i → l[i]? = some o → ∀ e ∈ o.after, Region.binds .any e = true → S e.on

theorem bef {l : List Oper} {S : Nat → Prop} (hS : Closed l S) (j : Nat) : ∀ (i : Nat) (o : Oper) (b : Nat), l[i]? = some o → (beforeOf l [])[i]? = some b →
    (∀ e ∈ o.after, Region.binds .any e = true → S e.on) → b.testBit j = true → S j := by
  intro i
  induction i using Nat.strongRecOn with
  | _ i ih =>
    intro o b ho hb hpre hj
    rw [beforeOf_get] at hb
    simp only [List.length_nil, Nat.not_lt_zero, if_false, Nat.sub_zero, ho, Option.map_some, Option.some.injEq] at hb
    subst hb
    obtain ⟨e, he, hbd, hh⟩ := rowOf_bit hj
    have he : e ∈ o.after := by simpa using he
    rcases hh with rfl | ⟨b', hb', hj'⟩
    · exact hpre e he hbd
    · have hlt : e.on < i := by
        have := (List.getElem?_eq_some_iff.1 hb').1
        simp at this; omega
      rw [List.getElem?_take_of_lt hlt] at hb'
      have hb2 := hb'
      rw [beforeOf_get] at hb2
      simp only [List.length_nil, Nat.not_lt_zero, if_false, Nat.sub_zero, Option.map_eq_some_iff] at hb2
      obtain ⟨o', ho', _⟩ := hb2
      exact ih e.on hlt o' b' ho' hb' (hS e.on o' (hpre e he hbd) ho') hj'

def wr (l : List Oper) (i t : Nat) : Prop := ∃ o, l[i]? = some o ∧ o.dst = some t

theorem writes_iff {o : Oper} {t : Nat} : writes o t = true ↔ o.dst = some t := by
  unfold writes
  cases o.dst with
  | none => simp
  | some d => simp [beq_eq']

theorem once_of : ∀ {l : List Oper}, onceOk l = true → ∀ i j t, wr l i t → wr l j t → i = j
  | [], _, i, j, t, ⟨o, h, _⟩, _ => by simp at h
  | o :: os, h, i, j, t, ⟨x, hx, hxd⟩, ⟨y, hy, hyd⟩ => by
    simp only [onceOk, Bool.and_eq_true] at h
    obtain ⟨h1, h2⟩ := h
    have key : ∀ (z : Oper) (k : Nat), o.dst = some t → os[k]? = some z → z.dst = some t → False := by
      intro z k ho hz hzd
      rw [ho] at h1
      simp only [List.all_eq_true] at h1
      have := h1 z (List.mem_of_getElem? hz)
      rw [writes_iff.2 hzd] at this
      cases this
    cases i with
    | zero => cases j with
      | zero => rfl
      | succ j => simp at hx hy; subst hx; exact (key y j hxd hy hyd).elim
    | succ i => cases j with
      | zero => simp at hx hy; subst hy; exact (key x i hyd hx hxd).elim
      | succ j =>
        simp at hx hy
        exact congrArg (· + 1) (once_of h2 i j t ⟨x, hx, hxd⟩ ⟨y, hy, hyd⟩)

/-- what the plan's check says -/
structure PlanF (E : Env) (mm : Bool) (l : List Oper) (bs : List Nat) (pl : List Item) : Prop where
  cov : ∀ i, i < l.length → ∃ x ∈ pl, x.i = i
  at_ : ∀ pre x suf, pl = pre ++ x :: suf → ∃ o b, l[x.i]? = some o ∧ bs[x.i]? = some b ∧ (∀ y ∈ pre, y.i ≠ x.i) ∧
    (∀ e ∈ o.after, Region.binds .any e = true → ∃ y ∈ pre, y.i = e.on) ∧
    (mm = true → ∀ y ∈ pre, ∀ oy, l[y.i]? = some oy → isAct E oy = true → b.testBit y.i = true) ∧
    (isAct E o = true → ∀ y ∈ pre, ∀ oy, l[y.i]? = some oy → isRead E oy = true → b.testBit y.i = true ∨
      (y.i ∈ x.again ∧ ∀ by_, bs[y.i]? = some by_ → ∀ t ∈ looks l oy, ∀ q, wr l q t → by_.testBit q = true ∨ ∀ z ∈ pre, z.i ≠ q))
  once : ∀ i j t, wr l i t → wr l j t → i = j
  slots : ∀ i o b t, l[i]? = some o → bs[i]? = some b → t ∈ looks l o → ∀ q, wr l q t → i = q ∨ b.testBit q = true ∨ ∃ bq, bs[q]? = some bq ∧ bq.testBit i = true

theorem isAR {o : Oper} (h : isAct E o = true) : isRead E o = false := by
  unfold isAct at h; unfold isRead
  cases hk : kindOf E o.op <;> rw [hk] at h <;> first | rfl | cases h

theorem walk_at {mm : Bool} {l : List Oper} {bs : List Nat} {x : Item} {suf : List Item} : ∀ (pre : List Item) (done acts : Nat) (rds : List Nat), walkOk E mm l bs (pre ++ x :: suf) done acts rds = true →
    ∃ o b DONE, l[x.i]? = some o ∧ bs[x.i]? = some b ∧ (∀ j, Nat.testBit DONE j = true ↔ (done.testBit j = true ∨ ∃ y ∈ pre, y.i = j)) ∧ DONE.testBit x.i = false ∧
    (∀ e ∈ o.after, Region.binds .any e = true → DONE.testBit e.on = true) ∧
    (∀ j, acts.testBit j = true → b.testBit j = true) ∧ (mm = true → ∀ y ∈ pre, ∀ oy, l[y.i]? = some oy → isAct E oy = true → b.testBit y.i = true) ∧
    (isAct E o = true → (∀ r, (r ∈ rds ∨ ∃ y ∈ pre, y.i = r ∧ ∃ oy, l[y.i]? = some oy ∧ isRead E oy = true) → b.testBit r = true ∨ (r ∈ x.again ∧ againFine l bs DONE r = true)))
  | [], done, acts, rds, h => by
    simp only [List.nil_append, walkOk] at h
    rw [nth_eq, nth_eq] at h
    split at h
    · rename_i o b ho hb
      simp only [Bool.and_eq_true, Bool.not_eq_true'] at h
      obtain ⟨⟨⟨h1, h2⟩, h3⟩, h4⟩ := h
      have h3 := Nat.eq_of_beq_eq_true h3
      refine ⟨o, b, done, ho, hb, fun j => by simp, h1, ?_, ?_, by simp, ?_⟩
      · intro e he hbd
        have := List.all_eq_true.1 h2 e (by simpa using he)
        simpa [hbd] using this
      · intro j hj
        have := congrArg (fun n => Nat.testBit n j) h3
        simp only [Nat.testBit_and, hj, Bool.true_and] at this
        exact this
      · intro ha r hr
        simp only [ha, cond_true, Bool.and_eq_true] at h4
        obtain ⟨⟨h5, h6⟩, _⟩ := h4
        rcases hr with hr | ⟨y, hy, _⟩
        · have := List.all_eq_true.1 h5 r hr
          simp only [Bool.or_eq_true, List.contains_iff_mem] at this
          rcases this with this | this
          · exact .inl this
          · have h7 := List.all_eq_true.1 h6 r this
            simp only [Bool.and_eq_true] at h7
            exact .inr ⟨this, h7.2⟩
        · cases hy
    · cases h
  | y :: pre, done, acts, rds, h => by
    simp only [List.cons_append, walkOk] at h
    rw [nth_eq, nth_eq] at h
    split at h
    · rename_i oy by_ hoy hby
      simp only [Bool.and_eq_true] at h
      obtain ⟨_, h⟩ := h
      cases ha : isAct E oy with
      | true =>
        simp only [ha, cond_true, Bool.and_eq_true] at h
        obtain ⟨_, h⟩ := h
        obtain ⟨o, b, DONE, h1, h2, h3, h4, h5, h6, h7, h8⟩ := walk_at pre _ _ _ h
        refine ⟨o, b, DONE, h1, h2, fun j => ?_, h4, h5, fun j hj => h6 j ?_, fun hmm z hz oz hoz haz => ?_, fun hao r hr => h8 hao r ?_⟩
        · rw [h3, Nat.testBit_or, Nat.testBit_two_pow]
          simp only [Bool.or_eq_true, decide_eq_true_eq, List.mem_cons]
          constructor
          · rintro ((h | h) | ⟨z, hz, e⟩)
            · exact .inl h
            · exact .inr ⟨y, .inl rfl, h⟩
            · exact .inr ⟨z, .inr hz, e⟩
          · rintro (h | ⟨z, rfl | hz, e⟩)
            · exact .inl (.inl h)
            · exact .inl (.inr e)
            · exact .inr ⟨z, hz, e⟩
        · cases mm
          · exact hj
          · rw [cond_true, Nat.testBit_or, hj, Bool.true_or]
        · rcases List.mem_cons.1 hz with rfl | hz
          · exact h6 _ (by rw [hmm, cond_true, Nat.testBit_or, Nat.testBit_two_pow]; simp)
          · exact h7 hmm z hz oz hoz haz
        · rcases hr with hr | ⟨z, hz, e, oz, hoz, hrz⟩
          · exact .inl hr
          · rcases List.mem_cons.1 hz with rfl | hz
            · rw [hoy] at hoz; cases hoz; rw [isAR ha] at hrz; cases hrz
            · exact .inr ⟨z, hz, e, oz, hoz, hrz⟩
      | false =>
        simp only [ha, cond_false] at h
        obtain ⟨o, b, DONE, h1, h2, h3, h4, h5, h6, h7, h8⟩ := walk_at pre _ _ _ h
        refine ⟨o, b, DONE, h1, h2, fun j => ?_, h4, h5, h6, fun hmm z hz oz hoz haz => ?_, fun hao r hr => h8 hao r ?_⟩
        · rw [h3, Nat.testBit_or, Nat.testBit_two_pow]
          simp only [Bool.or_eq_true, decide_eq_true_eq, List.mem_cons]
          constructor
          · rintro ((h | h) | ⟨z, hz, e⟩)
            · exact .inl h
            · exact .inr ⟨y, .inl rfl, h⟩
            · exact .inr ⟨z, .inr hz, e⟩
          · rintro (h | ⟨z, rfl | hz, e⟩)
            · exact .inl (.inl h)
            · exact .inl (.inr e)
            · exact .inr ⟨z, hz, e⟩
        · rcases List.mem_cons.1 hz with rfl | hz
          · rw [hoy] at hoz; cases hoz; rw [ha] at haz; cases haz
          · exact h7 hmm z hz oz hoz haz
        · rcases hr with hr | ⟨z, hz, e, oz, hoz, hrz⟩
          · left
            cases isRead E oy <;> simp [hr]
          · rcases List.mem_cons.1 hz with rfl | hz
            · rw [hoy] at hoz; cases hoz
              left; simp [hrz, e]
            · exact .inr ⟨z, hz, e, oz, hoz, hrz⟩
    · cases h

theorem walk_end {mm : Bool} {l : List Oper} {bs : List Nat} : ∀ (pl : List Item) (done acts : Nat) (rds : List Nat), walkOk E mm l bs pl done acts rds = true → ∀ i, i < l.length → done.testBit i = true ∨ ∃ x ∈ pl, x.i = i
  | [], done, acts, rds, h, i, hi => by
    simp only [walkOk, List.all_eq_true] at h
    exact .inl (h i (List.mem_range.2 hi))
  | y :: pl, done, acts, rds, h, i, hi => by
    simp only [walkOk] at h
    rw [nth_eq, nth_eq] at h
    split at h
    · simp only [Bool.and_eq_true] at h
      obtain ⟨_, h⟩ := h
      have key : ∀ acts rds, walkOk E mm l bs pl (done ||| 2 ^ y.i) acts rds = true → done.testBit i = true ∨ ∃ x ∈ y :: pl, x.i = i := by
        intro acts rds h
        rcases walk_end pl _ _ _ h i hi with h | ⟨x, hx, e⟩
        · rw [Nat.testBit_or, Nat.testBit_two_pow] at h
          simp only [Bool.or_eq_true, decide_eq_true_eq] at h
          rcases h with h | h
          · exact .inl h
          · exact .inr ⟨y, List.mem_cons_self, h⟩
        · exact .inr ⟨x, List.mem_cons_of_mem _ hx, e⟩
      rename_i oy _ _ _ _
      cases ha : isAct E oy with
      | true => simp only [ha, cond_true, Bool.and_eq_true] at h; exact key _ _ h.2
      | false => simp only [ha, cond_false] at h; exact key _ _ h
    · cases h

theorem zip_get {α β : Type} {l : List α} {r : List β} {i : Nat} {x : α} {y : β} (hx : l[i]? = some x) (hy : r[i]? = some y) : (((x, y), i) : (α × β) × Nat) ∈ (l.zip r).zipIdx := by
  rw [List.mem_iff_getElem?]
  exact ⟨i, by simp [List.getElem?_zipIdx, List.getElem?_zip_eq_some, hx, hy]⟩

theorem beforeOf_length (l : List Oper) {i : Nat} {o : Oper} (h : l[i]? = some o) : ∃ b, (beforeOf l [])[i]? = some b := by
  rw [beforeOf_get]
  simp [h]

theorem planF {mm : Bool} {l : List Oper} {pl : List Item} (h : planOk E mm l (beforeOf l []) pl = true) : PlanF E mm l (beforeOf l []) pl := by
  simp only [planOk, Bool.and_eq_true] at h
  obtain ⟨⟨h1, h2⟩, h3⟩ := h
  refine ⟨fun i hi => ?_, ?_, once_of h2, ?_⟩
  · rcases walk_end pl _ _ _ h3 i hi with h | h
    · simp at h
    · exact h
  · rintro pre x suf rfl
    obtain ⟨o, b, DONE, g1, g2, g3, g4, g5, g6, g7, g8⟩ := walk_at pre _ _ _ h3
    have g3' : ∀ j, DONE.testBit j = true ↔ ∃ y ∈ pre, y.i = j := fun j => by rw [g3]; simp
    refine ⟨o, b, g1, g2, fun y hy e => ?_, fun e he hb => (g3' _).1 (g5 e he hb), g7, fun ha y hy oy hoy hr => ?_⟩
    · have := (g3' x.i).2 ⟨y, hy, e⟩
      rw [g4] at this; cases this
    · rcases g8 ha y.i (.inr ⟨y, hy, rfl, oy, hoy, hr⟩) with g | ⟨ga, gb⟩
      · exact .inl g
      · refine .inr ⟨ga, fun by_ hby t ht q hq => ?_⟩
        unfold againFine at gb
        rw [nth_eq, nth_eq, hoy, hby] at gb
        simp only [List.all_eq_true] at gb
        obtain ⟨oq, hoq, hqd⟩ := hq
        have hm : (oq, q) ∈ l.zipIdx := by rw [List.mem_iff_getElem?]; exact ⟨q, by simp [List.getElem?_zipIdx, hoq]⟩
        have := gb t ht (oq, q) hm
        simp only [writes_iff.2 hqd, Bool.not_true, Bool.false_or, Bool.or_eq_true, Bool.not_eq_true'] at this
        rcases this with g | g
        · exact .inl g
        · exact .inr fun z hz e => by have := (g3' q).2 ⟨z, hz, e⟩; rw [g] at this; cases this
  · intro i o b t ho hb ht q hq
    obtain ⟨oq, hoq, hqd⟩ := hq
    obtain ⟨bq, hbq⟩ := beforeOf_length l hoq
    unfold slotsOk at h1
    simp only [List.all_eq_true] at h1
    have := h1 _ (zip_get ho hb) t ht _ (zip_get hoq hbq)
    simp only [writes_iff.2 hqd, Bool.not_true, Bool.false_or, Bool.or_eq_true] at this
    rcases this with (g | g) | g
    · exact .inl (Nat.eq_of_beq_eq_true g)
    · exact .inr (.inl g)
    · exact .inr (.inr ⟨bq, hbq, g⟩)
end
end Go.Ev
