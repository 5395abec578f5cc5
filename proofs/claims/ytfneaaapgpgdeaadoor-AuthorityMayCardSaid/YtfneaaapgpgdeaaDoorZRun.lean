/- THE EVALUATOR, part 'Run': a deterministic reading of the program's code over an abstract heap, and that the model does what it says. Conditions: none beyond each theorem's own. -/
import Derived.Test.YtfneaaapgpgdeaaDoorZCong
set_option linter.unusedSimpArgs false
set_option linter.unusedVariables false
namespace Go.Ev
section
variable {mm : Bool} {P : Program} {E : Env} {call : Fn → List Value → Heap → Option (Value × Heap)} {nt : Nat} {l : List Oper}

theorem plan_cons {x : Item} {xs : List Item} {fr : Fr} {h : Heap} {r : Fr × Heap} (e : stepsPlan E call nt l (x :: xs) fr h = some r) :
    ∃ o fr1 h1, l[x.i]? = some o ∧ step E call nt l fr o h = some (fr1, h1) ∧ h.n ≤ h1.n ∧ againOk E l fr1 h1 x.again = true ∧ stepsPlan E call nt l xs fr1 h1 = some r := by
  simp only [stepsPlan] at e
  rw [nth_eq] at e
  split at e
  · cases e
  · rename_i o ho
    split at e
    · rename_i fr1 h1 hst
      cases hc : (Nat.ble h.n h1.n && againOk E l fr1 h1 x.again) with
      | false => rw [hc] at e; cases e
      | true =>
        rw [hc] at e
        simp only [Bool.and_eq_true, ble_eq, decide_eq_true_eq] at hc
        exact ⟨o, fr1, h1, ho, hst, hc.1, hc.2, e⟩
    · cases e

theorem plan_append : ∀ {xs ys : List Item} {fr : Fr} {h : Heap} {r : Fr × Heap}, stepsPlan E call nt l (xs ++ ys) fr h = some r →
    ∃ fr1 h1, stepsPlan E call nt l xs fr h = some (fr1, h1) ∧ stepsPlan E call nt l ys fr1 h1 = some r
  | [], ys, fr, h, r, e => ⟨fr, h, rfl, e⟩
  | x :: xs, ys, fr, h, r, e => by
    rw [List.cons_append] at e
    obtain ⟨o, fr1, h1, ho, hst, hn, hag, e⟩ := plan_cons e
    obtain ⟨fr2, h2, e1, e2⟩ := plan_append e
    refine ⟨fr2, h2, ?_, e2⟩
    simp only [stepsPlan, nth_eq, ho, hst, ble_eq, hn, hag, decide_true, Bool.and_self, cond_true, e1]

theorem plan_join : ∀ {xs ys : List Item} {fr fr1 : Fr} {h h1 : Heap} {r : Fr × Heap}, stepsPlan E call nt l xs fr h = some (fr1, h1) → stepsPlan E call nt l ys fr1 h1 = some r →
    stepsPlan E call nt l (xs ++ ys) fr h = some r
  | [], ys, fr, fr1, h, h1, r, e1, e2 => by simp only [stepsPlan, Option.some.injEq, Prod.mk.injEq] at e1; obtain ⟨rfl, rfl⟩ := e1; exact e2
  | x :: xs, ys, fr, fr1, h, h1, r, e1, e2 => by
    obtain ⟨o, fr2, h2, ho, hst, hn, hag, e⟩ := plan_cons e1
    rw [List.cons_append]
    simp only [stepsPlan, nth_eq, ho, hst, ble_eq, hn, hag, decide_true, Bool.and_self, cond_true]
    exact plan_join e e2

theorem plan_n : ∀ {xs : List Item} {fr fr1 : Fr} {h h1 : Heap}, stepsPlan E call nt l xs fr h = some (fr1, h1) → h.n ≤ h1.n
  | [], fr, fr1, h, h1, e => by simp only [stepsPlan, Option.some.injEq, Prod.mk.injEq] at e; rw [e.2]; exact Nat.le_refl _
  | x :: xs, fr, fr1, h, h1, e => by
    obtain ⟨o, fr2, h2, ho, hst, hn, hag, e⟩ := plan_cons e
    exact Nat.le_trans hn (plan_n e)

theorem put_get {fr fr1 : Fr} {o : Oper} {v : Value} (e : put nt fr o v = some fr1) (t : Nat) : fr1.get t = if o.dst = some t then some v else fr.get t := by
  unfold put at e
  split at e
  · rename_i d hd
    cases hb : Nat.blt d nt with
    | false => rw [hb] at e; cases e
    | true =>
      rw [hb] at e; cases e
      rw [T.get_set, hd]
      simp
  · rename_i hd; cases e; simp [hd]
theorem put_some {fr fr1 : Fr} {o : Oper} {v : Value} (e : put nt fr o v = some fr1) (fr' : Fr) : ∃ fr2, put nt fr' o v = some fr2 := by
  unfold put at e ⊢
  split at e
  · rename_i d hd
    cases hb : Nat.blt d nt with
    | false => rw [hb] at e; cases e
    | true => exact ⟨_, rfl⟩
  · exact ⟨_, rfl⟩

theorem step_val {fr fr1 : Fr} {h h1 : Heap} {o : Oper} (e : step E call nt l fr o h = some (fr1, h1)) :
    ∃ v, put nt fr o v = some fr1 ∧ ((wantedA l fr o = some false ∧ v = undef ∧ h1 = h) ∨ (wantedA l fr o = some true ∧ opBy E call fr o h = some (v, h1))) := by
  unfold step at e
  split at e
  · cases e
  · rename_i hw
    simp only [Option.map_eq_some_iff, Prod.mk.injEq] at e
    obtain ⟨f, e, rfl, rfl⟩ := e
    exact ⟨undef, e, .inl ⟨hw, rfl, rfl⟩⟩
  · rename_i hw
    split at e
    · rename_i p hp
      simp only [Option.map_eq_some_iff, Prod.mk.injEq] at e
      obtain ⟨f, e, rfl, rfl⟩ := e
      exact ⟨p.1, e, .inr ⟨hw, hp⟩⟩
    · cases e

theorem plan_get {t : Nat} : ∀ {xs : List Item} {fr fr1 : Fr} {h h1 : Heap}, stepsPlan E call nt l xs fr h = some (fr1, h1) → (∀ y ∈ xs, ¬ wr l y.i t) → fr1.get t = fr.get t
  | [], fr, fr1, h, h1, e, _ => by simp only [stepsPlan, Option.some.injEq, Prod.mk.injEq] at e; rw [e.1]
  | x :: xs, fr, fr1, h, h1, e, hno => by
    obtain ⟨o, fr2, h2, ho, hst, hn, hag, e⟩ := plan_cons e
    rw [plan_get e fun y hy => hno y (List.mem_cons_of_mem _ hy)]
    obtain ⟨v, hp, _⟩ := step_val hst
    rw [put_get hp, if_neg fun hd => hno x List.mem_cons_self ⟨o, ho, hd⟩]

/-- a step that is no act: the heap is as it was, or has one block more -/
theorem quiet_step {fr fr1 : Fr} {h h1 : Heap} {o : Oper} (e : step E call nt l fr o h = some (fr1, h1)) (ha : isAct E o = false) :
    h1 = h ∨ ∃ k mk, kindOf E o.op = .alloc ∧ wantedA l fr o = some true ∧ allocOp E fr o = some (k, mk) ∧ h1 = newBlk h k := by
  obtain ⟨v, _, ⟨_, _, rfl⟩ | ⟨hw, hop⟩⟩ := step_val e
  · exact .inl rfl
  · unfold opBy at hop
    unfold isAct at ha
    split at hop
    · simp only [Option.map_eq_some_iff, Prod.mk.injEq] at hop
      obtain ⟨_, _, _, rfl⟩ := hop; exact .inl rfl
    · simp only [Option.map_eq_some_iff, Prod.mk.injEq] at hop
      obtain ⟨_, _, _, rfl⟩ := hop; exact .inl rfl
    · rename_i hk
      simp only [Option.map_eq_some_iff, Prod.mk.injEq] at hop
      obtain ⟨⟨k, mk⟩, hal, _, rfl⟩ := hop
      exact .inr ⟨k, mk, hk, hw, hal, rfl⟩
    · rename_i hk; rw [hk] at ha; cases ha

theorem again_mem {fr : Fr} {h : Heap} {i : Nat} {o : Oper} : ∀ {ag : List Nat}, againOk E l fr h ag = true → i ∈ ag → l[i]? = some o → wantedA l fr o = some true →
    ∃ v v', readOp E fr o h = some v ∧ o.dst.bind fr.get = some v' ∧ v = v'
  | [], _, hi, _, _ => by cases hi
  | j :: ag, e, hi, ho, hw => by
    simp only [againOk, Bool.and_eq_true] at e
    rcases List.mem_cons.1 hi with rfl | hi
    · have e := e.1
      rw [nth_eq, ho] at e
      simp only [hw] at e
      split at e
      · rename_i v v' h1 h2; exact ⟨v, v', h1, h2, sameV_eq _ _ _ e⟩
      · cases e
    · exact again_mem e.2 hi ho hw

theorem kind_act {o : Oper} (h : isAct E o = true) : kindOf E o.op = .act := by
  unfold isAct at h; split at h <;> first | assumption | cases h
theorem kind_read {o : Oper} : isRead E o = true ↔ kindOf E o.op = .read := by
  unfold isRead; cases kindOf E o.op <;> simp

section
variable {pl : List Item}
theorem PlanF.nodup (hp : PlanF E mm l (beforeOf l []) pl) {A B : List Item} {z y : Item} (e : pl = A ++ B) (hz : z ∈ A) (hy : y ∈ B) : z.i ≠ y.i := by
  obtain ⟨s1, s2, rfl⟩ := List.append_of_mem hy
  obtain ⟨o, b, _, _, h, _⟩ := hp.at_ (A ++ s1) y s2 (by rw [e, List.append_assoc])
  exact h z (List.mem_append_left _ hz)
theorem PlanF.predIn (hp : PlanF E mm l (beforeOf l []) pl) {pre suf : List Item} {x : Item} {b q : Nat} (e : pl = pre ++ x :: suf) (hb : (beforeOf l [])[x.i]? = some b) (hq : b.testBit q = true) : ∃ y ∈ pre, y.i = q := by
  obtain ⟨o, b', ho, hb', _, hpre, _⟩ := hp.at_ pre x suf e
  refine bef (l := l) (S := fun j => ∃ y ∈ pre, y.i = j) ?_ q x.i o b ho hb hpre hq
  rintro i oi ⟨y, hy, rfl⟩ hoi ed hed hbd
  obtain ⟨p1, p2, rfl⟩ := List.append_of_mem hy
  obtain ⟨o2, b2, ho2, hb2, _, hpre2, _⟩ := hp.at_ p1 y (p2 ++ x :: suf) (by rw [e, List.append_assoc]; rfl)
  rw [hoi] at ho2; cases ho2
  obtain ⟨z, hz, e⟩ := hpre2 ed hed hbd
  exact ⟨z, List.mem_append_left _ hz, e⟩
theorem PlanF.pos (hp : PlanF E mm l (beforeOf l []) pl) {i : Nat} {o : Oper} (ho : l[i]? = some o) : ∃ pre x suf, pl = pre ++ x :: suf ∧ x.i = i := by
  obtain ⟨x, hx, e⟩ := hp.cov i (List.getElem?_eq_some_iff.1 ho).1
  obtain ⟨p, s, e2⟩ := List.append_of_mem hx
  exact ⟨p, x, s, e2, e⟩

theorem stay (hp : PlanF E mm l (beforeOf l []) pl) {S : Nat → Prop} (hS : Closed l S) {pre1 : List Item} {x : Item} {o : Oper} (ho : l[x.i]? = some o) (hr : isRead E o = true) (hs : ¬ S x.i)
    {fr1 : Fr} {h1 : Heap} {v : Value} (hw : wantedA l fr1 o = some true) (hpv : ∀ frx hx, stepsPlan E call nt l [x] fr1 h1 = some (frx, hx) → ∀ d, o.dst = some d → frx.get d = some v) :
    ∀ (mid m1 rest : List Item) (frp frm : Fr) (hq hm : Heap), pl = pre1 ++ (x :: m1) ++ mid ++ rest → (∀ y ∈ mid, ∀ oy, l[y.i]? = some oy → isAct E oy = true → S y.i) →
      stepsPlan E call nt l (x :: m1) fr1 h1 = some (frp, hq) → readOp E fr1 o hq = some v → stepsPlan E call nt l mid frp hq = some (frm, hm) → readOp E fr1 o hm = some v
  | [], m1, rest, frp, frm, hq, hm, e, hacts, hat, hrd, hmid => by
    simp only [stepsPlan, Option.some.injEq, Prod.mk.injEq] at hmid; rw [← hmid.2]; exact hrd
  | y :: mid, m1, rest, frp, frm, hq, hm, e, hacts, hat, hrd, hmid => by
    obtain ⟨oy, fry, hy, hoy, hst, hn, hag, hmid⟩ := plan_cons hmid
    have hat' : stepsPlan E call nt l (x :: (m1 ++ [y])) fr1 h1 = some (fry, hy) := by
      have : stepsPlan E call nt l [y] frp hq = some (fry, hy) := by
        simp only [stepsPlan, nth_eq, hoy, hst, ble_eq, hn, hag, decide_true, Bool.and_self, cond_true]
      exact plan_join hat this
    refine stay (pre1 := pre1) hp hS ho hr hs hw hpv mid (m1 ++ [y]) rest fry frm hy hm (by rw [e]; simp) (fun z hz => hacts z (List.mem_cons_of_mem _ hz)) hat' ?_ hmid
    cases ha : isAct E oy with
    | false =>
      rcases quiet_step hst ha with rfl | ⟨k, mk, _, _, _, rfl⟩
      · exact hrd
      · exact readOp_mono k hrd
    | true =>
      have hSy := hacts y List.mem_cons_self oy hoy ha
      have epre : pl = (pre1 ++ x :: m1) ++ y :: (mid ++ rest) := by rw [e]; simp
      have ex : pl = pre1 ++ x :: (m1 ++ y :: (mid ++ rest)) := by rw [e]; simp
      obtain ⟨oy', by_, hoy', hby, _, hprey, _, hrr⟩ := hp.at_ _ y _ epre
      rw [hoy] at hoy'; cases hoy'
      have hnb : ¬ by_.testBit x.i = true := fun hb => hs (bef hS x.i y.i oy by_ hoy hby (hS y.i oy hSy hoy) hb)
      have hxm : x ∈ pre1 ++ x :: m1 := by simp
      rcases hrr ha x hxm o ho hr with hb | ⟨hmem, hfine⟩
      · exact absurd hb hnb
      · obtain ⟨_, bx, hox', hbx, hndx, _⟩ := hp.at_ _ x _ ex
        -- the frames
        have hag2 : ∀ t ∈ looks l o, fry.get t = fr1.get t := by
          intro t ht
          refine plan_get hat' fun z hz hw => ?_
          have hzx : z ∈ x :: m1 ∨ z = y := by
            rcases List.mem_cons.1 hz with rfl | hz
            · exact .inl List.mem_cons_self
            · rcases List.mem_append.1 hz with hz | hz
              · exact .inl (List.mem_cons_of_mem _ hz)
              · exact .inr (by simpa using hz)
          rcases hfine bx hbx t ht z.i hw with hb | hb
          · obtain ⟨u, hu, hue⟩ := hp.predIn ex hbx hb
            have : z ∈ x :: (m1 ++ y :: (mid ++ rest)) := by
              rcases hzx with hz | rfl
              · rcases List.mem_cons.1 hz with rfl | hz
                · exact List.mem_cons_self
                · simp [hz]
              · simp
            exact hp.nodup ex hu this hue
          · rcases hzx with hz | rfl
            · exact hb z (List.mem_append_right _ hz) rfl
            · rcases hp.slots x.i o bx t ho hbx ht z.i hw with h2 | h2 | ⟨bq, hbq, h2⟩
              · exact hb x hxm h2
              · obtain ⟨u, hu, hue⟩ := hp.predIn ex hbx h2
                exact hb u (List.mem_append_left _ hu) hue
              · rw [hby] at hbq; cases hbq; exact hnb h2
        have hwy : wantedA l fry o = some true := by rw [wanted_congr hag2]; exact hw
        obtain ⟨v1, v2, hv1, hv2, rfl⟩ := again_mem hag hmem ho hwy
        have hd : v1 = v := by
          cases hdst : o.dst with
          | none => rw [hdst] at hv2; cases hv2
          | some d =>
            rw [hdst] at hv2
            simp only [Option.bind_some] at hv2
            have : stepsPlan E call nt l ([x] ++ (m1 ++ [y])) fr1 h1 = some (fry, hy) := hat'
            obtain ⟨frx, hx, e1, e2⟩ := plan_append this
            rw [plan_get e2 fun z hz hw => ?_, hpv frx hx e1 d hdst] at hv2
            · exact (Option.some.inj hv2).symm
            · have := hp.once _ _ _ hw ⟨o, ho, hdst⟩
              have hz2 : z ∈ m1 ++ y :: (mid ++ rest) := by
                rcases List.mem_append.1 hz with hz | hz
                · simp [hz]
                · simp at hz; simp [hz]
              exact hp.nodup (A := pre1 ++ [x]) (B := m1 ++ y :: (mid ++ rest)) (by rw [ex]; simp) (z := x) (by simp) hz2 this.symm
        subst hd
        rw [← readOp_congr (looks_operands hag2)]
        exact hv1
variable {fr0 frN : Fr} {h0 hN : Heap}

theorem agree (hp : PlanF E mm l (beforeOf l []) pl) (hrun : stepsPlan E call nt l pl fr0 h0 = some (frN, hN)) {S : Nat → Prop} (hS : Closed l S) {pre1 suf1 : List Item} {x : Item} {o : Oper} (e : pl = pre1 ++ x :: suf1) (ho : l[x.i]? = some o) (hs : ¬ S x.i)
    (hpre : ∀ e ∈ o.after, Region.binds .any e = true → S e.on) {fr1 : Fr} {h1 : Heap} (hat : stepsPlan E call nt l pre1 fr0 h0 = some (fr1, h1)) {frS : Fr}
    (hW : ∀ i t, S i → wr l i t → frS.get t = frN.get t) (hN' : ∀ t, (∀ i, S i → ¬ wr l i t) → frS.get t = fr0.get t) :
    ∀ t ∈ looks l o, frS.get t = fr1.get t := by
  intro t ht
  obtain ⟨o', b, ho', hb, hnd, _⟩ := hp.at_ pre1 x suf1 e
  rw [ho] at ho'; cases ho'
  have hrest : stepsPlan E call nt l (x :: suf1) fr1 h1 = some (frN, hN) := by
    rw [e] at hrun
    obtain ⟨f, hh, e1, e2⟩ := plan_append hrun
    rw [hat] at e1; cases e1; exact e2
  by_cases hq : ∃ q, wr l q t
  · obtain ⟨q, hq⟩ := hq
    rcases hp.slots x.i o b t ho hb ht q hq with rfl | hbq | ⟨bq, hbq, hbit⟩
    · rw [hN' t fun i hi hw => hs (hp.once _ _ _ hw hq ▸ hi)]
      rw [plan_get hat fun y hy hw => hnd y hy (hp.once _ _ _ hw hq)]
    · have hSq : S q := bef hS q x.i o b ho hb hpre hbq
      rw [hW q t hSq hq]
      obtain ⟨z, hz, hzq⟩ := hp.predIn e hb hbq
      exact plan_get hrest fun y hy hw => hp.nodup e hz hy (hzq.trans (hp.once _ _ _ hq hw))
    · obtain ⟨oq, hoq, _⟩ := id hq
      have hSq : ¬ S q := fun hSq => hs (bef hS x.i q oq bq hoq hbq (hS q oq hSq hoq) hbit)
      rw [hN' t fun i hi hw => hSq (hp.once _ _ _ hw hq ▸ hi)]
      rw [plan_get hat fun y hy hw => ?_]
      have := hp.once _ _ _ hw hq
      subst this
      obtain ⟨p1, p2, rfl⟩ := List.append_of_mem hy
      obtain ⟨z, hz, hzq⟩ := hp.predIn (pre := p1) (suf := p2 ++ x :: suf1) (by rw [e, List.append_assoc]; rfl) hbq hbit
      exact hnd z (List.mem_append_left _ hz) hzq
  · rw [hN' t fun i _ hw => hq ⟨i, hw⟩]
    rw [plan_get hat fun y _ hw => hq ⟨_, hw⟩]

end
end
end Go.Ev
