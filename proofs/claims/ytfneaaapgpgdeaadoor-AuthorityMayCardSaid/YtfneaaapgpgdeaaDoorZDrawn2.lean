/- THE EVALUATOR, part 'Drawn2': a deterministic reading of the program's code over an abstract heap, and that the model does what it says. Conditions: none beyond each theorem's own. -/
import Derived.Test.YtfneaaapgpgdeaaDoorZDrawn
set_option linter.unusedSimpArgs false
set_option linter.unusedVariables false
namespace Go.Ev
section
variable {mm : Bool} {P : Program} {E : Env} {F : Fence} {n : Nat} {call : Fn → List Value → Heap → Option (Value × Heap)} {nt : Nat} {ops : Array Oper}
variable {pl : List Item} {fr0 frN : Fr} {ρ0 : Ren} {h0 hN : Heap} {w0 : World} {B : Nat}

abbrev InvL (P : Program) (E : Env) (call : Fn → List Value → Heap → Option (Value × Heap)) (nt : Nat) (ops : Array Oper) (pl : List Item) (fr0 frN : Fr) (ρ0 : Ren) (h0 : Heap) (w0 : World) (B : Nat) (listed : Array Bool) :=
  Inv P E call nt ops.toList pl fr0 frN ρ0 h0 w0 B (fun i => listed.getD i false = true)

theorem DR.push {ρ : Ren} {w : World} {ds : List Deferred} (hd : DR P B ρ w ds) (i c : Nat) (o : Obj) : DR P B (ρ.upd i (w.heap.size, c)) { w with heap := w.heap.push o } ds := by
  refine ⟨hd.nd, fun d hm => ?_⟩
  rcases hd.each d hm with ⟨D, e, hB, hD, hi⟩ | hh
  · have hlt := (Array.getElem?_eq_some_iff.1 hD).1
    refine .inl ⟨D, e, hB, ?_, fun j c' hh => ?_⟩
    · show (w.heap.push o)[D]? = _
      rw [Array.getElem?_push, if_neg (by omega)]; exact hD
    · by_cases hj : j = i
      · subst hj; rw [Ren.upd_same] at hh; cases hh; omega
      · rw [Ren.upd_ne ρ _ hj] at hh; exact hi j c' hh
  · exact .inr hh

theorem getD_listed {listed : Array Bool} {i j : Nat} (hi : i < listed.size) : ((listed.setIfInBounds i true).getD j false = true) ↔ (listed.getD j false = true ∨ j = i) := by
  simp only [Array.getD_eq_getD_getElem?, Array.getElem?_setIfInBounds]
  by_cases h : i = j
  · subst h; simp [hi]
  · simp [h, Ne.symm h]

theorem count_set {listed : Array Bool} {i n : Nat} (hi : i < listed.size) (hf : listed.getD i true = false) (hc : listed.toList.count false = n + 1) : (listed.setIfInBounds i true).toList.count false = n := by
  have hg : listed.toList[i]'(by simpa using hi) = false := by
    simp only [Array.getD_eq_getD_getElem?, Array.getElem?_eq_getElem hi, Option.getD_some] at hf
    simpa using hf
  rw [Array.toList_setIfInBounds, List.count_set (by simpa using hi), hg]
  simp [hc]

theorem ready_nil_all (hp : PlanF E mm ops.toList (beforeOf ops.toList []) pl) {listed : Array Bool} (hsz : listed.size = ops.size) (h : Region.ready .any ops listed = []) :
    ∀ (suf pre : List Item), pl = pre ++ suf → (∀ y ∈ pre, listed.getD y.i false = true) → ∀ y ∈ pl, listed.getD y.i false = true
  | [], pre, e, hh, y, hy => by rw [e, List.append_nil] at hy; exact hh y hy
  | x :: s, pre, e, hh, y, hy => by
    obtain ⟨o, b, ho, _, _, hpre, _⟩ := hp.at_ pre x s e
    refine ready_nil_all hp hsz h s (pre ++ [x]) (by rw [e]; simp) (fun z hz => ?_) y hy
    rcases List.mem_append.1 hz with hz | hz
    · exact hh z hz
    · simp only [List.mem_singleton] at hz; subst hz
      rw [Array.getElem?_toList] at ho
      have hlt : z.i < listed.size := by rw [hsz]; exact (Array.getElem?_eq_some_iff.1 ho).1
      by_cases hf : listed.getD z.i true = false
      · have : z.i ∈ Region.ready .any ops listed := mem_ready.2 ⟨hf, o, ho, fun ed hed hbd => by
          obtain ⟨u, hu, hue⟩ := hpre ed hed hbd
          rw [← hue]; exact hh u hu⟩
        rw [h] at this; cases this
      · simp only [Array.getD_eq_getD_getElem?, Array.getElem?_eq_getElem hlt, Option.getD_some, Bool.not_eq_false] at hf ⊢
        exact hf

theorem finish (hp : PlanF E mm ops.toList (beforeOf ops.toList []) pl) (hrun : stepsPlan E call nt ops.toList pl fr0 h0 = some (frN, hN)) {listed : Array Bool} (hsz : listed.size = ops.size) (h : Region.ready .any ops listed = [])
    {pre suf : List Item} {frT : Fr} {hT : Heap} {ρ : Ren} {frS : Fr} {a : Act} {w : World} (inv : InvL P E call nt ops pl fr0 frN ρ0 h0 w0 B listed pre suf frT hT ρ frS a w) :
    After B P E ρ0 h0 w0 nt frN hN a w := by
  have hall := ready_nil_all hp hsz h pl [] rfl (by simp)
  have hsuf : suf = [] := by
    cases hs : suf with
    | nil => rfl
    | cons x s =>
      have := inv.out x (by rw [hs]; exact List.mem_cons_self)
      exact absurd (hall x (by rw [inv.pl, hs]; simp)) this
  subst hsuf
  have hpl : pl = pre := by rw [inv.pl]; simp
  have hat := inv.at_
  rw [← hpl, hrun] at hat
  cases hat
  refine ⟨ρ, ⟨inv.fr.glob, fun t => ?_⟩, inv.st, inv.nt_, inv.df⟩
  have : frS.get t = frN.get t := by
    by_cases hq : ∃ q, wr ops.toList q t
    · obtain ⟨q, hq⟩ := hq
      obtain ⟨oq, hoq, _⟩ := id hq
      obtain ⟨x, hx, rfl⟩ := hp.cov q (List.getElem?_eq_some_iff.1 hoq).1
      exact inv.slotsW _ t (hall x hx) hq
    · rw [inv.slotsN t fun i _ hw => hq ⟨i, hw⟩, plan_get hrun fun y _ hw => hq ⟨_, hw⟩]
  rw [← this]
  exact inv.fr.tmp t

theorem alloc_lt {l : List Oper} {pre2 m3 : List Item} {y : Item} {oy : Oper} {fr0 fr2 fr3 : Fr} {h0 h2 h3 : Heap} {k : Blk} {mk : Nat → Value} (hoy : l[y.i]? = some oy) (hky : kindOf E oy.op = .alloc)
    (hat : stepsPlan E call nt l pre2 fr0 h0 = some (fr2, h2)) (hw : wantedA l fr2 oy = some true) (hal : allocOp E fr2 oy = some (k, mk)) (hat3 : stepsPlan E call nt l (pre2 ++ y :: m3) fr0 h0 = some (fr3, h3)) : h2.n < h3.n := by
  obtain ⟨f, hh, e1, e2⟩ := plan_append hat3
  rw [hat] at e1; cases e1
  obtain ⟨o, frx, hx, ho, hst, hn, hag, e2⟩ := plan_cons e2
  rw [hoy] at ho; cases ho
  have := plan_n e2
  obtain ⟨v, _, ⟨hw', _⟩ | ⟨_, hop⟩⟩ := step_val hst
  · rw [hw] at hw'; cases hw'
  · unfold opBy at hop
    rw [hky] at hop
    simp only [hal, Option.map_some, Option.some.injEq, Prod.mk.injEq] at hop
    have h4 := congrArg Heap.n hop.2
    simp [newBlk] at h4
    omega

/-- an operation more, that is no act -/
theorem quiet_more (hE : EnvOK P E) (hF : FOK F) (hp : PlanF E mm ops.toList (beforeOf ops.toList []) pl) (hrun : stepsPlan E call nt ops.toList pl fr0 h0 = some (frN, hN)) {listed : Array Bool} (hsz : listed.size = ops.size)
    {pre suf : List Item} {frT : Fr} {hT : Heap} {ρ : Ren} {frS : Fr} {a : Act} {w : World} (inv : InvL P E call nt ops pl fr0 frN ρ0 h0 w0 B listed pre suf frT hT ρ frS a w)
    {pre1 m : List Item} {x : Item} {o : Oper} (epre : pre = pre1 ++ x :: m) (ho : ops[x.i]? = some o) (hs : ¬ listed.getD x.i false = true) (ha : isAct E o = false) (hpre : ∀ e ∈ o.after, Region.binds .any e = true → listed.getD e.on false = true)
    {Q : Exit → Act → World → Prop} {K : Act → World → Prop} (k : ∀ ρ' frS' a' w', InvL P E call nt ops pl fr0 frN ρ0 h0 w0 B (listed.setIfInBounds x.i true) pre suf frT hT ρ' frS' a' w' → K a' w') : wpOpIn F n P ops Q x.i K a w := by
  have hlt : x.i < listed.size := by rw [hsz]; exact (Array.getElem?_eq_some_iff.1 ho).1
  have ho' : ops.toList[x.i]? = some o := by rw [Array.getElem?_toList]; exact ho
  have epl : pl = pre1 ++ x :: (m ++ suf) := by rw [inv.pl, epre]; simp
  obtain ⟨fr1, h1, hat1, hat2⟩ : ∃ fr1 h1, stepsPlan E call nt ops.toList pre1 fr0 h0 = some (fr1, h1) ∧ stepsPlan E call nt ops.toList (x :: m) fr1 h1 = some (frT, hT) := by
    have := inv.at_; rw [epre] at this; exact plan_append this
  obtain ⟨frx, hx, v, hst, hx1, hrest, hn, hput, hdx, hdN, hcase⟩ := final_val hp hrun epl ho' hat1
  have hag := agree hp hrun inv.closed epl ho' hs hpre hat1 inv.slotsW inv.slotsN
  obtain ⟨frS', hputS⟩ := put_some hput frS
  obtain ⟨hW', hN'⟩ := settle (fr0 := fr0) ho' inv.slotsW inv.slotsN hputS hdN
  have hcl : Closed ops.toList (fun i => (listed.setIfInBounds x.i true).getD i false = true) := by
    intro i oi hi hoi ed hed hbd
    rw [getD_listed hlt] at hi ⊢
    rcases hi with hi | rfl
    · exact .inl (inv.closed i oi hi hoi ed hed hbd)
    · rw [ho'] at hoi; cases hoi; exact .inl (hpre ed hed hbd)
  -- what is the same whatever it does
  have mk : ∀ (ρ' : Ren) (w' : World) (v' : Value), VR ρ' v v' → ρ.le ρ' → Stp P ρ0 h0 w0 ρ' hT w' → (∀ i, ρ' i ≠ ρ i → i = h1.n ∧ kindOf E o.op = .alloc ∧ ∃ k mk, wantedA ops.toList fr1 o = some true ∧ allocOp E fr1 o = some (k, mk)) → DR P B ρ' w' a.defers →
      InvL P E call nt ops pl fr0 frN ρ0 h0 w0 B (listed.setIfInBounds x.i true) pre suf frT hT ρ' frS' (a.put o.dst v') w' := by
    intro ρ' w' v' r hle hst' hdiff hdr
    exact {
      pl := inv.pl
      at_ := inv.at_
      acts := fun y hy oy hoy hay => (getD_listed hlt).2 (.inl (inv.acts y hy oy hoy hay))
      out := fun y hy hh => by
        rcases (getD_listed hlt).1 hh with hh | hh
        · exact inv.out y hy hh
        · exact hp.nodup (A := pre) (B := suf) inv.pl (z := x) (by rw [epre]; simp) hy hh.symm
      closed := hcl
      fr := FR.put (inv.fr.mono hle) inv.nt_ r hputS
      st := hst'
      nt_ := by rw [put_size]; exact inv.nt_
      df := by rw [put_defers]; exact hdr
      slotsW := fun j t hj => hW' j t ((getD_listed hlt).1 hj)
      slotsN := fun t hno => hN' t fun j hj => hno j ((getD_listed hlt).2 hj)
      pend := by
        intro pre2 y m2 e2 hSy oy fry hy kk mkk hoy hky haty hwy hal
        have hSy1 : ¬ listed.getD y.i false = true := fun hh => hSy ((getD_listed hlt).2 (.inl hh))
        have hyx : y.i ≠ x.i := fun hh => hSy ((getD_listed hlt).2 (.inr hh))
        obtain ⟨g1, g2, g3, g4⟩ := inv.pend pre2 y m2 e2 hSy1 oy fry hy kk mkk hoy hky haty hwy hal
        refine ⟨?_, g2, g3, g4⟩
        cases hd : decide (ρ' hy.n = ρ hy.n) with
        | true => rw [of_decide_eq_true hd]; exact g1
        | false =>
          exfalso
          obtain ⟨hid, hk, k2, mk2, hw2, hal2⟩ := hdiff _ (of_decide_eq_false hd)
          rw [epre] at e2
          rcases List.append_eq_append_iff.1 e2 with ⟨c, hc1, hc2⟩ | ⟨c, hc1, hc2⟩
          · cases c with
            | nil => simp only [List.nil_append, List.cons.injEq] at hc2; exact hyx (by rw [hc2.1])
            | cons z c =>
              simp only [List.cons_append, List.cons.injEq] at hc2
              rw [hc1, ← hc2.1] at haty
              have := alloc_lt ho' hk hat1 hw2 hal2 haty
              omega
          · cases c with
            | nil => simp only [List.nil_append, List.cons.injEq] at hc2; exact hyx (by rw [hc2.1])
            | cons z c =>
              simp only [List.cons_append, List.cons.injEq] at hc2
              rw [hc1, ← hc2.1] at hat1
              have := alloc_lt hoy hky haty hwy hal hat1
              omega }
  have hwS : wantedA ops.toList frS o = wantedA ops.toList fr1 o := wanted_congr hag
  have hop := looks_operands (E := E) hag
  unfold wpOpIn
  simp only [ho]
  rcases hcase with ⟨hw, rfl, rfl⟩ | ⟨hw, hopv⟩
  · rw [wanted_sim inv.fr (hwS.trans hw), if_neg (by simp)]
    exact ⟨fun f _ => hF.fn f, k _ _ _ _ (mk ρ w undef (VR.undef ρ) (Ren.le_refl _) inv.st (fun i h => absurd rfl h) inv.df)⟩
  · rw [wanted_sim inv.fr (hwS.trans hw), if_pos rfl]
    have hnd := opBy_defer hopv
    unfold opBy at hopv
    unfold isAct at ha
    split at hopv
    · simp only [Option.map_eq_some_iff, Prod.mk.injEq] at hopv
      obtain ⟨u, e, rfl, rfl⟩ := hopv
      rw [← valOp_congr hop] at e
      rcases val_sim hE inv.fr e w with ⟨v', n', hr, r⟩ | ⟨c, hoc, hq⟩
      · exact wp_of_ok hF hnd hr rfl (k _ _ _ _ (mk ρ _ v' r (Ren.le_refl _) (inv.st.trans (Stp.draw inv.st.hr n')) (fun i h => absurd rfl h) (inv.df.step (Stp.draw inv.st.hr n'))))
      · exact qcall_wp hE hF hoc inv.fr inv.st.hr hq fun v' w' r hs' => k _ _ _ _ (mk ρ _ v' r (Ren.le_refl _) (inv.st.trans hs') (fun i h => absurd rfl h) (inv.df.step hs'))
    · rename_i hk
      simp only [Option.map_eq_some_iff, Prod.mk.injEq] at hopv
      obtain ⟨u, e, rfl, rfl⟩ := hopv
      have hstay := stay (pre1 := pre1) hp inv.closed ho' (kind_read.2 hk) hs hw (fun frx2 hx2 e2 d hd => by rw [hx1] at e2; cases e2; exact hdx d hd)
        m [] suf frx frT h1 hT (by rw [epl]; simp) (fun y hy oy hoy hay => inv.acts y (by rw [epre]; simp [hy]) oy hoy hay) (by simpa using hx1) e
        (by
          obtain ⟨f, hh, e1, e2⟩ := plan_append (xs := [x]) (ys := m) (by simpa using hat2)
          rw [hx1] at e1; cases e1; exact e2)
      rw [← readOp_congr hop] at hstay
      obtain ⟨v', hr, r⟩ := read_sim hE inv.fr inv.st.hr hstay
      exact wp_of_ok hF hnd hr rfl (k _ _ _ _ (mk ρ w v' r (Ren.le_refl _) inv.st (fun i h => absurd rfl h) inv.df))
    · rename_i hk
      simp only [Option.map_eq_some_iff, Prod.mk.injEq] at hopv
      obtain ⟨⟨kb, mkb⟩, e, rfl, rfl⟩ := hopv
      obtain ⟨g1, g2, g3, g4⟩ := inv.pend pre1 x m epre hs o fr1 h1 kb mkb ho' hk hat1 hw e
      rw [← allocOp_congr hop] at e
      obtain ⟨obj, mk', hr, hb, hd, hv⟩ := alloc_sim hE inv.fr e
      refine wp_of_ok hF hnd (hr w) rfl (k _ _ _ _ (mk (ρ.upd h1.n (w.heap.size, 0)) _ _ (hv _ _ _ (Ren.upd_same _ _ _)) (Ren.le_upd _ g1) (Stp.bind inv.st g4 g3 g1 g2 hb) (fun i hi => ?_) (inv.df.push _ _ _)))
      by_cases hin : i = h1.n
      · rw [allocOp_congr hop] at e
        exact ⟨hin, hk, kb, mkb, hw, e⟩
      · exact absurd (Ren.upd_ne ρ _ hin) hi
    · rename_i hk; rw [hk] at ha; cases ha

/-- the act whose turn it is -/
theorem act_more (hE : EnvOK P E) (hF : FOK F) (hc : CallSound P E call) (hp : PlanF E mm ops.toList (beforeOf ops.toList []) pl) (hrun : stepsPlan E call nt ops.toList pl fr0 h0 = some (frN, hN)) {listed : Array Bool} (hsz : listed.size = ops.size)
    {pre s : List Item} {frT : Fr} {hT : Heap} {ρ : Ren} {frS : Fr} {a : Act} {w : World} {x : Item} (inv : InvL P E call nt ops pl fr0 frN ρ0 h0 w0 B listed pre (x :: s) frT hT ρ frS a w)
    {o : Oper} (ho : ops[x.i]? = some o) (hs : ¬ listed.getD x.i false = true) (hpre : ∀ e ∈ o.after, Region.binds .any e = true → listed.getD e.on false = true)
    {Q : Exit → Act → World → Prop} {K : Act → World → Prop} (k : ∀ frT' hT' ρ' frS' a' w', InvL P E call nt ops pl fr0 frN ρ0 h0 w0 B (listed.setIfInBounds x.i true) (pre ++ [x]) s frT' hT' ρ' frS' a' w' → K a' w') : wpOpIn F n P ops Q x.i K a w := by
  have hlt : x.i < listed.size := by rw [hsz]; exact (Array.getElem?_eq_some_iff.1 ho).1
  have ho' : ops.toList[x.i]? = some o := by rw [Array.getElem?_toList]; exact ho
  obtain ⟨frx, hx, v, hst, hx1, hrest, hn, hput, hdx, hdN, hcase⟩ := final_val hp hrun inv.pl ho' inv.at_
  have hag := agree hp hrun inv.closed inv.pl ho' hs hpre inv.at_ inv.slotsW inv.slotsN
  obtain ⟨frS', hputS⟩ := put_some hput frS
  obtain ⟨hW', hN'⟩ := settle (fr0 := fr0) ho' inv.slotsW inv.slotsN hputS hdN
  have mk : ∀ (ρ' : Ren) (w' : World) (v' : Value), VR ρ' v v' → Stp P ρ hT w ρ' hx w' → InvL P E call nt ops pl fr0 frN ρ0 h0 w0 B (listed.setIfInBounds x.i true) (pre ++ [x]) s frx hx ρ' frS' (a.put o.dst v') w' := by
    intro ρ' w' v' r hst'
    exact {
      pl := by rw [inv.pl]; simp
      at_ := plan_join inv.at_ hx1
      acts := fun y hy oy hoy hay => (getD_listed hlt).2 (by
        rcases List.mem_append.1 hy with hy | hy
        · exact .inl (inv.acts y hy oy hoy hay)
        · exact .inr (by simp only [List.mem_singleton] at hy; rw [hy]))
      out := fun y hy hh => by
        rcases (getD_listed hlt).1 hh with hh | hh
        · exact inv.out y (List.mem_cons_of_mem _ hy) hh
        · exact hp.nodup (A := pre ++ [x]) (B := s) (by rw [inv.pl]; simp) (z := x) (by simp) hy hh.symm
      closed := by
        intro i oi hi hoi ed hed hbd
        rw [getD_listed hlt] at hi ⊢
        rcases hi with hi | rfl
        · exact .inl (inv.closed i oi hi hoi ed hed hbd)
        · rw [ho'] at hoi; cases hoi; exact .inl (hpre ed hed hbd)
      fr := FR.put (inv.fr.mono hst'.le) inv.nt_ r hputS
      st := inv.st.trans hst'
      nt_ := by rw [put_size]; exact inv.nt_
      df := by rw [put_defers]; exact inv.df.step hst'
      slotsW := fun j t hj => hW' j t ((getD_listed hlt).1 hj)
      slotsN := fun t hno => hN' t fun j hj => hno j ((getD_listed hlt).2 hj)
      pend := by
        intro pre2 y m2 e2 hSy oy fry hy kk mkk hoy hky haty hwy hal
        have hSy1 : ¬ listed.getD y.i false = true := fun hh => hSy ((getD_listed hlt).2 (.inl hh))
        rcases List.eq_nil_or_concat m2 with rfl | ⟨m', z, rfl⟩
        · obtain ⟨_, e3⟩ := List.append_inj' e2 rfl
          cases e3
          exact absurd ((getD_listed hlt).2 (.inr rfl)) hSy
        · have e3 : pre ++ [x] = (pre2 ++ y :: m') ++ [z] := by rw [e2]; simp
          obtain ⟨e4, _⟩ := List.append_inj' e3 rfl
          obtain ⟨g1, g2, g3, g4⟩ := inv.pend pre2 y m' e4 hSy1 oy fry hy kk mkk hoy hky haty hwy hal
          refine ⟨?_, by rw [hst'.keep _ g4 g1]; exact g2, g3, Nat.lt_of_lt_of_le g4 hst'.n⟩
          cases hh : ρ' hy.n with
          | none => rfl
          | some q => have := hst'.new _ q hh g1; omega }
  have hwS : wantedA ops.toList frS o = wantedA ops.toList frT o := wanted_congr hag
  unfold wpOpIn
  simp only [ho]
  rcases hcase with ⟨hw, rfl, rfl⟩ | ⟨hw, hopv⟩
  · rw [wanted_sim inv.fr (hwS.trans hw), if_neg (by simp)]
    exact ⟨fun f _ => hF.fn f, k _ _ _ _ _ _ (mk ρ w undef (VR.undef ρ) (Stp.refl inv.st.hr))⟩
  · rw [wanted_sim inv.fr (hwS.trans hw), if_pos rfl]
    rw [← opBy_congr (looks_operands (E := E) hag)] at hopv
    exact op_sim hE hF hc inv.fr inv.st.hr hopv fun v' ρ' w' r hs' => k _ _ _ _ _ _ (mk ρ' w' v' r hs')

theorem drawn_sim (hE : EnvOK P E) (hF : FOK F) (hc : CallSound P E call) (hp : PlanF E true ops.toList (beforeOf ops.toList []) pl) (hrun : stepsPlan E call nt ops.toList pl fr0 h0 = some (frN, hN)) {Q : Exit → Act → World → Prop}
    (hk : ∀ a' w', After B P E ρ0 h0 w0 nt frN hN a' w' → Q .normal a' w') : ∀ (fuel : Nat) (listed : Array Bool) (pre suf : List Item) (frT : Fr) (hT : Heap) (ρ : Ren) (frS : Fr) (a : Act) (w : World),
      listed.size = ops.size → listed.toList.count false = fuel → InvL P E call nt ops pl fr0 frN ρ0 h0 w0 B listed pre suf frT hT ρ frS a w → wpAnyIn F n P .any ops Q fuel listed a w
  | 0, listed, pre, suf, frT, hT, ρ, frS, a, w, hsz, hcn, inv => by
    have hnil : Region.ready .any ops listed = [] := by
      rw [List.eq_nil_iff_forall_not_mem]
      intro i hi
      obtain ⟨hf, o, ho, _⟩ := mem_ready.1 hi
      have hlt : i < listed.size := by rw [hsz]; exact (Array.getElem?_eq_some_iff.1 ho).1
      simp only [Array.getD_eq_getD_getElem?, Array.getElem?_eq_getElem hlt, Option.getD_some] at hf
      have : false ∈ listed.toList := by rw [← hf]; simp
      exact List.count_eq_zero.1 hcn this
    exact ⟨hnil, hk a w (finish hp hrun hsz hnil inv)⟩
  | fuel + 1, listed, pre, suf, frT, hT, ρ, frS, a, w, hsz, hcn, inv => by
    refine ⟨fun hnil => hk a w (finish hp hrun hsz hnil inv), fun i hi => ?_⟩
    obtain ⟨hf, o, ho, hpre⟩ := mem_ready.1 hi
    have ho' : ops.toList[i]? = some o := by rw [Array.getElem?_toList]; exact ho
    have hlt : i < listed.size := by rw [hsz]; exact (Array.getElem?_eq_some_iff.1 ho).1
    have hs : ¬ listed.getD i false = true := by
      simp only [Array.getD_eq_getD_getElem?, Array.getElem?_eq_getElem hlt, Option.getD_some] at hf ⊢
      simp [hf]
    obtain ⟨pre', suf', frT', hT', inv', hhead⟩ := advance hp hrun suf pre frT hT inv
    obtain ⟨p1, x, s1, epl, hxi⟩ := hp.pos ho'
    subst hxi
    have hsz' : (listed.setIfInBounds x.i true).size = ops.size := by simp [hsz]
    have hcn' := count_set hlt hf hcn
    have hx : x ∈ pre' ++ suf' := by rw [← inv'.pl, epl]; simp
    rcases List.mem_append.1 hx with hx | hx
    · obtain ⟨q1, q2, eq⟩ := List.append_of_mem hx
      cases ha : isAct E o with
      | true => exact absurd (inv'.acts x hx o ho' ha) hs
      | false => exact quiet_more hE hF hp hrun hsz inv' eq ho hs ha hpre fun ρ' frS' a' w' inv2 => drawn_sim hE hF hc hp hrun hk fuel _ pre' suf' frT' hT' ρ' frS' a' w' hsz' hcn' inv2
    · rcases hhead with rfl | ⟨y, s, oy, rfl, hoy, hya⟩
      · cases hx
      · rcases List.mem_cons.1 hx with rfl | hx
        · rw [ho'] at hoy; cases hoy
          exact act_more hE hF hc hp hrun hsz inv' ho hs hpre fun frT2 hT2 ρ' frS' a' w' inv2 => drawn_sim hE hF hc hp hrun hk fuel _ _ s frT2 hT2 ρ' frS' a' w' hsz' hcn' inv2
        · exfalso
          obtain ⟨u1, u2, rfl⟩ := List.append_of_mem hx
          obtain ⟨ox, bx, hox, hbx, _, _, hacts, _⟩ := hp.at_ (pre' ++ y :: u1) x u2 (by rw [inv'.pl]; simp)
          have hbit := hacts rfl y (by simp) oy hoy hya
          rw [ho'] at hox; cases hox
          have := bef inv'.closed y.i x.i o bx ho' hbx hpre hbit
          exact inv'.out y List.mem_cons_self this

theorem region_sim (hE : EnvOK P E) (hF : FOK F) (hc : CallSound P E call) {id : Nat} {ρ : Ren} {h h' : Heap} {fr fr' : Fr} {a : Act} {w : World} {pl : List Item} (hpl : planned E ops.toList = some pl) (hrun : stepsPlan E call nt ops.toList pl fr h = some (fr', h'))
    (hf : FR E ρ fr a) (hr : HR P ρ h w) (hnt : a.tmps.size = nt) (hd : DR P B ρ w a.defers) {Q : Exit → Act → World → Prop} (hk : ∀ a' w', After B P E ρ h w nt fr' h' a' w' → Q .normal a' w') : (Code.region id ops true).wpIn F n P Q a w := by
  refine wpIn_region_any hE.mixed ?_
  unfold planned at hpl
  simp only at hpl
  cases hok : planOk E true ops.toList (beforeOf ops.toList []) (planOf E ops.toList (beforeOf ops.toList [])) with
  | false => rw [hok] at hpl; cases hpl
  | true =>
    rw [hok] at hpl
    simp only [cond_true, Option.some.injEq] at hpl
    subst hpl
    have hp := planF hok
    have hnone : ∀ i, ¬ (Array.replicate ops.size false).getD i false = true := by
      intro i
      simp only [Array.getD_eq_getD_getElem?, Array.getElem?_replicate]
      split <;> simp
    refine drawn_sim (ρ0 := ρ) (w0 := w) hE hF hc hp hrun hk ops.size (Array.replicate ops.size false) [] _ fr h ρ fr a _ (by simp) (by simp) {
      pl := rfl
      at_ := rfl
      acts := by simp
      out := fun y _ => hnone _
      closed := fun i o hi => absurd hi (hnone i)
      fr := hf
      st := Stp.draw hr _
      nt_ := hnt
      df := hd.step (Stp.draw hr _)
      slotsW := fun i t hi => absurd hi (hnone i)
      slotsN := fun t _ => rfl
      pend := by intro pre1 x m e; simp at e }
end
end Go.Ev
