/- THE EVALUATOR, part 'Drawn': a deterministic reading of the program's code over an abstract heap, and that the model does what it says. Conditions: none beyond each theorem's own. -/
import Derived.Test.YtfneaaapgpgdeaaDoorZRun
set_option linter.unusedSimpArgs false
set_option linter.unusedVariables false
namespace Go.Ev
section
variable {mm : Bool} {P : Program} {E : Env} {call : Fn → List Value → Heap → Option (Value × Heap)} {nt : Nat} {l : List Oper}

/-- a walk that came to the plan's part 'pre': S is what it has run -/
structure Inv (P : Program) (E : Env) (call : Fn → List Value → Heap → Option (Value × Heap)) (nt : Nat) (l : List Oper) (pl : List Item) (fr0 frN : Fr) (ρ0 : Ren) (h0 : Heap) (w0 : World)
    (B : Nat) (S : Nat → Prop) (pre suf : List Item) (frT : Fr) (hT : Heap) (ρ : Ren) (frS : Fr) (a : Act) (w : World) : Prop where
  pl : pl = pre ++ suf
  at_ : stepsPlan E call nt l pre fr0 h0 = some (frT, hT)
  acts : ∀ y ∈ pre, ∀ o, l[y.i]? = some o → isAct E o = true → S y.i
  out : ∀ y ∈ suf, ¬ S y.i
  closed : Closed l S
  fr : FR E ρ frS a
  st : Stp P ρ0 h0 w0 ρ hT w
  nt_ : a.tmps.size = nt
  df : DR P B ρ w a.defers
  slotsW : ∀ i t, S i → wr l i t → frS.get t = frN.get t
  slotsN : ∀ t, (∀ i, S i → ¬ wr l i t) → frS.get t = fr0.get t
  pend : ∀ pre1 x m, pre = pre1 ++ x :: m → ¬ S x.i → ∀ o fr1 h1 k mk, l[x.i]? = some o → kindOf E o.op = .alloc → stepsPlan E call nt l pre1 fr0 h0 = some (fr1, h1) → wantedA l fr1 o = some true →
    allocOp E fr1 o = some (k, mk) → ρ h1.n = none ∧ hT.b.get h1.n = some k ∧ h0.n ≤ h1.n ∧ h1.n < hT.n

theorem Stp.grow {ρ : Ren} {h : Heap} {w : World} (hr : HR P ρ h w) (k : Blk) : Stp P ρ h w ρ (newBlk h k) w where
  le := Ren.le_refl _
  hr := hr.grow k
  n := by simp [newBlk]
  new i x e e0 := by rw [e] at e0; cases e0
  keep i hi _ := get_newBlk hi
  os := rfl
  tape := rfl
  output := rfl
  size := Nat.le_refl _
  frame _ _ _ := rfl
  img i b c e _ := ⟨i, c, e, .inl rfl⟩
  stays i x e := by
    have := (hr.dom i x.1 x.2 e).1
    intro _; rw [get_newBlk this]

theorem Stp.bind {ρ0 ρ : Ren} {h0 h : Heap} {w0 w : World} (hs : Stp P ρ0 h0 w0 ρ h w) {i c : Nat} {k : Blk} {o : Obj} (hi : i < h.n) (h0i : h0.n ≤ i) (hn : ρ i = none) (hk : h.b.get i = some k) (hb : BR P ρ c k o) :
    Stp P ρ0 h0 w0 (ρ.upd i (w.heap.size, c)) h { w with heap := w.heap.push o } where
  le := Ren.le_trans hs.le (Ren.le_upd _ hn)
  hr := hs.hr.bind hi hn hk hb rfl
  n := hs.n
  new j x e e0 := by
    by_cases hj : j = i
    · omega
    · rw [Ren.upd_ne ρ _ hj] at e; exact hs.new j x e e0
  keep := hs.keep
  os := hs.os
  tape := hs.tape
  output := hs.output
  size := by have := hs.size; simp; omega
  frame b hb hno := by
    show (w.heap.push o)[b]? = _
    rw [Array.getElem?_push, if_neg (by have := hs.size; omega)]
    exact hs.frame b hb hno
  img j b d e hlt := by
    by_cases hj : j = i
    · subst hj; rw [Ren.upd_same] at e; cases e; have := hs.size; omega
    · rw [Ren.upd_ne ρ _ hj] at e; exact hs.img j b d e hlt
  stays := hs.stays

/-- the slots behind one operation more -/
theorem settle {fr0 frN : Fr} {S : Nat → Prop} {frS frS' : Fr} {i : Nat} {o : Oper} {v : Value} (ho : l[i]? = some o) (hW : ∀ i t, S i → wr l i t → frS.get t = frN.get t)
    (hN' : ∀ t, (∀ i, S i → ¬ wr l i t) → frS.get t = fr0.get t) (hput : put nt frS o v = some frS') (hc : ∀ d, o.dst = some d → frN.get d = some v) :
    (∀ j t, (S j ∨ j = i) → wr l j t → frS'.get t = frN.get t) ∧ (∀ t, (∀ j, (S j ∨ j = i) → ¬ wr l j t) → frS'.get t = fr0.get t) := by
  constructor
  · intro j t hj hw
    rw [put_get hput]
    by_cases hd : o.dst = some t
    · rw [if_pos hd, hc t hd]
    · rw [if_neg hd]
      rcases hj with hj | rfl
      · exact hW j t hj hw
      · obtain ⟨o', ho', hd'⟩ := hw
        rw [ho] at ho'; cases ho'; exact absurd hd' hd
  · intro t hno
    rw [put_get hput, if_neg fun hd => hno i (.inr rfl) ⟨o, ho, hd⟩]
    exact hN' t fun j hj => hno j (.inl hj)

section
variable {pl : List Item} {fr0 frN : Fr} {ρ0 : Ren} {h0 hN : Heap} {w0 : World}

theorem advance {B : Nat} (hp : PlanF E mm l (beforeOf l []) pl) (hrun : stepsPlan E call nt l pl fr0 h0 = some (frN, hN)) {S : Nat → Prop} {ρ : Ren} {frS : Fr} {a : Act} {w : World} : ∀ (suf pre : List Item) (frT : Fr) (hT : Heap), Inv P E call nt l pl fr0 frN ρ0 h0 w0 B S pre suf frT hT ρ frS a w →
    ∃ pre' suf' frT' hT', Inv P E call nt l pl fr0 frN ρ0 h0 w0 B S pre' suf' frT' hT' ρ frS a w ∧ (suf' = [] ∨ ∃ x s o, suf' = x :: s ∧ l[x.i]? = some o ∧ isAct E o = true)
  | [], pre, frT, hT, inv => ⟨pre, [], frT, hT, inv, .inl rfl⟩
  | x :: s, pre, frT, hT, inv => by
    obtain ⟨o, b, ho, hb, _⟩ := hp.at_ pre x s inv.pl
    cases ha : isAct E o with
    | true => exact ⟨pre, x :: s, frT, hT, inv, .inr ⟨x, s, o, rfl, ho, ha⟩⟩
    | false =>
      have hrest : stepsPlan E call nt l (x :: s) frT hT = some (frN, hN) := by
        have := hrun
        rw [inv.pl] at this
        obtain ⟨f, hh, e1, e2⟩ := plan_append this
        rw [inv.at_] at e1; cases e1; exact e2
      obtain ⟨o', fr1, h1, ho', hst, hn, hag, hrest⟩ := plan_cons hrest
      rw [ho] at ho'; cases ho'
      have hx1 : stepsPlan E call nt l [x] frT hT = some (fr1, h1) := by
        simp only [stepsPlan, nth_eq, ho, hst, ble_eq, hn, hag, decide_true, Bool.and_self, cond_true]
      have hq := quiet_step hst ha
      refine advance hp hrun s (pre ++ [x]) fr1 h1 {
        pl := by rw [inv.pl]; simp
        at_ := plan_join inv.at_ hx1
        acts := fun y hy oy hoy hay => ?_
        out := fun y hy => inv.out y (List.mem_cons_of_mem _ hy)
        closed := inv.closed
        fr := inv.fr
        st := ?_
        nt_ := inv.nt_
        df := inv.df
        slotsW := inv.slotsW
        slotsN := inv.slotsN
        pend := ?_ }
      · rcases List.mem_append.1 hy with hy | hy
        · exact inv.acts y hy oy hoy hay
        · simp only [List.mem_singleton] at hy; subst hy
          rw [ho] at hoy; cases hoy; rw [ha] at hay; cases hay
      · rcases hq with rfl | ⟨k, mk, _, _, _, rfl⟩
        · exact inv.st
        · exact inv.st.trans (Stp.grow inv.st.hr k)
      · intro pre1 y m e hSy oy fry hy k mk hoy hky haty hwy hal
        rcases List.eq_nil_or_concat m with rfl | ⟨m', z, rfl⟩
        · have := List.append_inj' e rfl
          obtain ⟨rfl, e2⟩ := this
          cases e2
          rw [inv.at_] at haty; cases haty
          rw [ho] at hoy; cases hoy
          rcases hq with h1e | ⟨k', mk', _, _, hal', rfl⟩
          · -- it makes a block
            exfalso
            obtain ⟨v, _, ⟨hw, _⟩ | ⟨hw, hop⟩⟩ := step_val hst
            · rw [hwy] at hw; cases hw
            · unfold opBy at hop
              rw [hky] at hop
              simp only [hal, Option.map_some, Option.some.injEq, Prod.mk.injEq] at hop
              have := congrArg Heap.n hop.2
              rw [h1e] at this
              simp [newBlk] at this
          · rw [hal] at hal'; cases hal'
            exact ⟨inv.st.hr.fresh, by simp [newBlk, T.get_set], inv.st.n, by simp [newBlk]⟩
        · have e3 : pre ++ [x] = (pre1 ++ y :: m') ++ [z] := by rw [e]; simp
          obtain ⟨e4, _⟩ := List.append_inj' e3 rfl
          obtain ⟨g1, g2, g3, g4⟩ := inv.pend pre1 y m' e4 hSy oy fry hy k mk hoy hky haty hwy hal
          rcases hq with rfl | ⟨k', mk', _, _, _, rfl⟩
          · exact ⟨g1, g2, g3, g4⟩
          · exact ⟨g1, by rw [get_newBlk g4]; exact g2, g3, by simp [newBlk]; omega⟩

theorem final_val (hp : PlanF E mm l (beforeOf l []) pl) (hrun : stepsPlan E call nt l pl fr0 h0 = some (frN, hN)) {pre suf : List Item} {x : Item} {o : Oper} {fr1 : Fr} {h1 : Heap} (e : pl = pre ++ x :: suf) (ho : l[x.i]? = some o) (hat : stepsPlan E call nt l pre fr0 h0 = some (fr1, h1)) :
    ∃ frx hx v, step E call nt l fr1 o h1 = some (frx, hx) ∧ stepsPlan E call nt l [x] fr1 h1 = some (frx, hx) ∧ stepsPlan E call nt l suf frx hx = some (frN, hN) ∧ h1.n ≤ hx.n ∧ put nt fr1 o v = some frx ∧ (∀ d, o.dst = some d → frx.get d = some v) ∧ (∀ d, o.dst = some d → frN.get d = some v) ∧
      ((wantedA l fr1 o = some false ∧ v = undef ∧ hx = h1) ∨ (wantedA l fr1 o = some true ∧ opBy E call fr1 o h1 = some (v, hx))) := by
  have hrest : stepsPlan E call nt l (x :: suf) fr1 h1 = some (frN, hN) := by
    have := hrun
    rw [e] at this
    obtain ⟨f, hh, e1, e2⟩ := plan_append this
    rw [hat] at e1; cases e1; exact e2
  obtain ⟨o', frx, hx, ho', hst, hn, hag, hrest⟩ := plan_cons hrest
  rw [ho] at ho'; cases ho'
  have hx1 : stepsPlan E call nt l [x] fr1 h1 = some (frx, hx) := by
    simp only [stepsPlan, nth_eq, ho, hst, ble_eq, hn, hag, decide_true, Bool.and_self, cond_true]
  obtain ⟨v, hput, hcase⟩ := step_val hst
  have hd : ∀ d, o.dst = some d → frx.get d = some v := fun d hd => by rw [put_get hput, if_pos hd]
  refine ⟨frx, hx, v, hst, hx1, hrest, hn, hput, hd, fun d hdd => ?_, hcase⟩
  rw [plan_get hrest fun y hy hw => ?_, hd d hdd]
  have := hp.once _ _ _ hw ⟨o, ho, hdd⟩
  exact hp.nodup (A := pre ++ [x]) (B := suf) (by rw [e]; simp) (z := x) (by simp) hy this.symm
end
end
end Go.Ev
