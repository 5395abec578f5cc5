/- THE EVALUATOR, part 'Act4': a deterministic reading of the program's code over an abstract heap, and that the model does what it says. Conditions: none beyond each theorem's own. -/
import Derived.Test.YtfneaaapgpgdeaaDoorZAct3
set_option linter.unusedSimpArgs false
set_option linter.unusedVariables false
namespace Go.Ev
section
variable {P : Program} {E : Env} {ρ : Ren} {h : Heap} {w : World}

theorem nextslicecap_le {need cap : Nat} (hc : cap < need) (hn : need ≤ 100000) : Builtin.nextslicecap need cap ≤ 1000000 := by
  unfold Builtin.nextslicecap
  split
  · omega
  · split
    · omega
    · simp only [Builtin.growBy]
      repeat' split
      all_goals omega

theorem acopy_sim (hE : EnvOK P E) (hr : HR P ρ h w) {ty : TypeId} {ts : Array TypeId} {xs : Array Value} {args : List Value} {v : Value} {h' : Heap} (e : acopy E ts.toList args h = some (v, h')) (hx : VRL ρ args xs.toList) :
    ∃ v' w', (Builtin.copy_ ts ty xs).run P w = .ok v' w' ∧ VR ρ v v' ∧ Stp P ρ h w ρ h' w' := by
  unfold acopy at e
  split at e
  · rename_i t ts0 base dl dc x xs0 hts
    have ht : ts[0]? = some t := by
      have : ts.toList[0]? = some t := by rw [hts]; rfl
      simpa using this
    split at e
    · rename_i elem hu
      have hu := hE.und hu (by simp)
      split at e
      · rename_i sz m hs hm
        obtain ⟨d', hd0, rd⟩ := hx.get 0 _ rfl
        obtain ⟨x', hx0, rx⟩ := hx.get 1 _ rfl
        have hd0 : xs[0]? = some d' := by simpa using hd0
        have hx0 : xs[1]? = some x' := by simpa using hx0
        split at e
        · rename_i l hl
          obtain ⟨l', hrun0, rl, hlen⟩ := firstCells_sim hr hl rx (fun a c hh => by subst hh; simp [lenOf] at hm; omega)
          have hrun := hrun0 w rfl
          have hlo := lenOf_sim (P := P) hm rx w
          split at e
          · rename_i a
            cases hall : l.all Ev.oneCell with
            | false => simp [hall] at e
            | true =>
              simp only [hall, cond_true, Option.map_eq_some_iff, Prod.mk.injEq] at e
              obtain ⟨h1, hw, rfl, rfl⟩ := e
              rcases base_sim rd with ⟨b, d, c', hb, hsp, rfl⟩ | ⟨h0, _, a', c', rfl⟩
              · obtain ⟨bl, off, sp⟩ := a
                simp only at hsp; subst hsp
                obtain ⟨w', hst, hstp⟩ := writeCells_sim hr hb hw rl hall
                refine ⟨goInt ((min m dl : Nat) : Int), w', ?_, .int _ _, hstp⟩
                have hmin : Nat.min m dl = min m dl := rfl
                simp only [Builtin.copy_, ht, hd0, hx0, Sem.run_bind, run_underlying hu, Result.andThen_ok, hlo, hE.run_size hs, hmin, hrun, hst, Sem.run_pure]
              · subst h0
                have hl0 : l = [] := by
                  have : l.length = 0 := by rw [hlen]; simp
                  exact List.length_eq_zero_iff.1 this
                subst hl0
                cases rl
                have : h1 = h := by
                  unfold writeCells at hw
                  split at hw
                  · cases hw
                  · cases hw; rfl
                subst this
                refine ⟨goInt ((min m 0 : Nat) : Int), w, ?_, .int _ _, Stp.refl hr⟩
                have hmin : Nat.min m 0 = min m 0 := rfl
                simp only [Builtin.copy_, ht, hd0, hx0, Sem.run_bind, run_underlying hu, Result.andThen_ok, hlo, hE.run_size hs, hmin, hrun, Sem.run_pure, storeCells]
          · cases e
            cases rd
            refine ⟨goInt ((min m dl : Nat) : Int), w, ?_, .int _ _, Stp.refl hr⟩
            have hmin : Nat.min m dl = min m dl := rfl
            simp only [Builtin.copy_, ht, hd0, hx0, Sem.run_bind, run_underlying hu, Result.andThen_ok, hlo, hE.run_size hs, hmin, hrun, Sem.run_pure]
        · cases e
      · cases e
    · cases e
  · cases e

theorem aclear_sim (hE : EnvOK P E) (hr : HR P ρ h w) {ty : TypeId} {ts : Array TypeId} {xs : Array Value} {args : List Value} {v : Value} {h' : Heap} (e : aclear E ts.toList args h = some (v, h')) (hx : VRL ρ args xs.toList) :
    ∃ v' w', (Builtin.clear_ ts ty xs).run P w = .ok v' w' ∧ VR ρ v v' ∧ Stp P ρ h w ρ h' w' := by
  unfold aclear at e
  split at e
  · rename_i t ts0 base n c xs0 hts
    have ht : ts[0]? = some t := by
      have : ts.toList[0]? = some t := by rw [hts]; rfl
      simpa using this
    obtain ⟨d', hd0, rd⟩ := hx.get 0 _ rfl
    have hd0 : xs[0]? = some d' := by simpa using hd0
    split at e
    · rename_i elem hu
      have hu := hE.und hu (by simp)
      split at e
      · simp only [Option.some.injEq, Prod.mk.injEq] at e
        obtain ⟨rfl, rfl⟩ := e
        cases rd
        refine ⟨.tuple #[], w, ?_, .tuple _ _ .nil, Stp.refl hr⟩
        simp only [Builtin.clear_, ht, hd0, Sem.run_bind, run_underlying hu, Result.andThen_ok, Sem.run_pure]
      · rename_i a z hz
        cases hck : (!Nat.beq z.cells.toList.length 0 && (rep n z.cells.toList).all Ev.oneCell) with
        | false => rw [hck] at e; cases e
        | true =>
          rw [hck] at e
          simp only [Bool.and_eq_true, Bool.not_eq_true'] at hck
          obtain ⟨hz0, hall⟩ := hck
          simp only [cond_true, Option.map_eq_some_iff, Prod.mk.injEq] at e
          obtain ⟨h1, hw, rfl, rfl⟩ := e
          have hzs : 0 < z.cells.size := by
            have : z.cells.toList.length ≠ 0 := fun e => by rw [e] at hz0; cases hz0
            simpa using Nat.pos_of_ne_zero this
          have hzr := hE.run_zero hz
          rcases base_sim rd with ⟨b, d, c', hb, hsp, rfl⟩ | ⟨h0, _, a', c', rfl⟩
          · obtain ⟨bl, off, sp⟩ := a
            simp only at hsp; subst hsp
            cases n with
            | zero =>
              have : h1 = h := by
                unfold writeCells at hw
                simp only [rep] at hw
                exact (Option.some.inj hw).symm
              subst this
              refine ⟨.tuple #[], w, ?_, .tuple _ _ .nil, Stp.refl hr⟩
              simp only [Builtin.clear_, ht, hd0, Sem.run_bind, run_underlying hu, Result.andThen_ok, Sem.run_pure]
            | succ n =>
              have rr : ∀ m, VRL ρ (rep m z.cells.toList) (rep m z.cells.toList) := by
                intro m
                induction m with
                | zero => exact .nil
                | succ m ih => exact ((VR.const ρ (hE.zero hz).2).cells).append ih
              obtain ⟨w', hst, hstp⟩ := writeCells_sim hr hb hw (rr (n + 1)) hall
              refine ⟨.tuple #[], w', ?_, .tuple _ _ .nil, hstp⟩
              have hzc : (Builtin.zeroCells z.cells (n + 1)).toList = rep (n + 1) z.cells.toList := rep_zero z.cells (n + 1) hzs
              simp only [Builtin.clear_, ht, hd0, Sem.run_bind, run_underlying hu, Result.andThen_ok, hzr, hzc, hst, Sem.run_pure]
          · subst h0
            have : h1 = h := by
              unfold writeCells at hw
              split at hw
              · cases hw
              · simp only [rep] at hw
                exact (Option.some.inj hw).symm
            subst this
            refine ⟨.tuple #[], w, ?_, .tuple _ _ .nil, Stp.refl hr⟩
            simp only [Builtin.clear_, ht, hd0, Sem.run_bind, run_underlying hu, Result.andThen_ok, Sem.run_pure]
      · cases e
    · cases e
  · cases e

/-- what is appended: the cells of a row or a text, or noughts -/
inductive App (P : Program) (w : World) (elem : TypeId) (sz : Nat) (xt : TypeId) (x' : Value) (n : Nat) (new : List Value) : Prop
  | seq (dx : TypeDesc) (hux : P.underlying xt = some dx) (hsq : isSeq dx = true) (hlo : (Builtin.lenOf x').run P w = .ok n w)
      (hnew : ∀ w2 : World, w2.heap = w.heap → (Builtin.firstCells sz n x').run P w2 = .ok new.toArray w2)
  | made (k k' : IntKind) (l : Int) (info : TypeInfo) (z : Value) (hux : P.underlying xt = some (.int k)) (hx : x' = .int k' l) (h0 : 0 ≤ l) (hl : l ≤ 100000) (hn : n = l.toNat)
      (hi : P.info? elem = some info) (hz : info.zero = some z) (hb : info.bytes ≤ 10000) (hzs : z.cells.size = sz) (hz0 : sz ≠ 0) (hnew : new = rep n z.cells.toList)

/-- what append comes to where it fits -/
theorem run_append_fits {ty : TypeId} {ts : Array TypeId} {xs : Array Value} {st xt elem : TypeId} {base : Option Addr} {sl sc n sz : Nat} {x' : Value} {new : List Value} {w' : World}
    (ht : ts[0]? = some st) (hxt : ts[1]? = some xt) (h0 : xs[0]? = some (.slice base sl sc)) (h1 : xs[1]? = some x') (hu : P.underlying st = some (.slice elem))
    (hs : ∀ w : World, (sizeOf elem).run P w = .ok sz w) (happ : App P w elem sz xt x' n new) (hfit : sl + n ≤ sc)
    (hst : (match base with | some a => storeCells (a.add (sl * sz)) new | none => pure () : Sem Unit).run P w = .ok () w') :
    (Builtin.append_ ts ty xs).run P w = .ok (.slice base (sl + n) sc) w' := by
  cases happ with
  | seq dx hux hsq hlo hnew =>
    have hnew := hnew w rfl
    cases dx <;> simp only [isSeq, Bool.false_eq_true] at hsq
    all_goals
      simp only [Builtin.append_, ht, hxt, h0, h1, Sem.run_bind, run_underlying hu, run_underlying hux, Result.andThen_ok, hs, Sem.run_pure, Bool.false_eq_true, if_false, hlo, Bool.not_false, if_true, hfit, hnew]
      cases base with
      | none => simp at hst; simp [hst]
      | some a => simp only at hst; simp [hst]
  | made k k' l info z hux hx hl0 hl hn hi hz hb hzs hz0 hnew =>
    subst hx hn
    have hw : IntKind.wrap .i64 l = l := by rw [IntKind.wrap_i64]; omega
    have hti : ∀ w : World, (typeInfo elem).run P w = .ok info w := fun w => Go.run_typeInfo w hi
    have hzr : ∀ w : World, (zeroValue elem).run P w = .ok z w := fun w => by simp [zeroValue, Go.run_typeInfo w hi, hz]
    have hlb : ¬ l * (info.bytes : Int) > 2 ^ 48 := by
      have : l * (info.bytes : Int) ≤ 100000 * 10000 := Int.mul_le_mul hl (by omega) (by omega) (by omega)
      omega
    have hzc : Builtin.zeroCells z.cells l.toNat = new.toArray := by
      apply Array.ext'
      rw [hnew, ← rep_zero z.cells l.toNat (by omega)]
      rfl
    simp only [Builtin.append_, ht, hxt, h0, h1, Sem.run_bind, run_underlying hu, run_underlying hux, Result.andThen_ok, hs, Sem.run_pure, Bool.not_true, Bool.false_eq_true, if_false, if_true, asInt, asIntOf, hw,
      Sem.run_ite, hti, hlb, show ¬ l < 0 by omega, hfit, hzr, hzc]
    by_cases hn0 : l.toNat * sz = 0
    · have : new = [] := by
        have : l.toNat = 0 := by rcases Nat.mul_eq_zero.1 hn0 with h | h <;> omega
        rw [hnew, this]; rfl
      subst this
      simp only [hn0, if_true, Sem.run_pure, Result.andThen_ok]
      cases base with
      | none => simp at hst; simp [hst]
      | some a => simp only at hst; simp [hst]
    · simp only [hn0, if_false, Sem.run_pure, Result.andThen_ok]
      cases base with
      | none => simp at hst; simp [hst]
      | some a => simp only at hst; simp [hst]

/-- what it comes to where it does not -/
theorem run_append_grows {ty : TypeId} {ts : Array TypeId} {xs : Array Value} {st xt elem : TypeId} {base : Option Addr} {sl sc n sz : Nat} {x' : Value} {old new : List Value} {info : TypeInfo} {z : Value}
    (ht : ts[0]? = some st) (hxt : ts[1]? = some xt) (h0 : xs[0]? = some (.slice base sl sc)) (h1 : xs[1]? = some x') (hu : P.underlying st = some (.slice elem))
    (hi : P.info? elem = some info) (hsz : info.size = sz) (hz : info.zero = some z) (hzs : z.cells.size = sz) (hby : info.bytes ≤ 10000) (hneed : sl + n ≤ 100000)
    (hfit : ¬ sl + n ≤ sc)
    (hold : ∀ w2 : World, w2.heap = w.heap → (Builtin.firstCells sz sl (.slice base sl sc)).run P w2 = .ok old.toArray w2) (happ : App P w elem sz xt x' n new) (hn0 : n * sz ≠ 0)
    (hol : old.length = sl * sz) (hnl : new.length = n * sz) :
    ∃ (cap : Nat) (d : Nat) (cells : Array Value), sl + n ≤ cap ∧ cells.size = cap * sz ∧ (∀ (i : Nat) (v : Value), (old ++ new)[i]? = some v → cells[i]? = some v) ∧
      (Builtin.append_ ts ty xs).run P w = .ok (.slice (some ⟨w.heap.size, 0, none⟩) (sl + n) cap) { w with drawn := d, heap := w.heap.push (.cells cells elem (0, 0)) } := by
  have hcap := nextslicecap_le (need := sl + n) (cap := sc) (by omega) hneed
  have hlim : ¬ Builtin.nextslicecap (sl + n) sc * info.bytes > 2 ^ 48 := by
    have : Builtin.nextslicecap (sl + n) sc * info.bytes ≤ 1000000 * 10000 := Nat.mul_le_mul hcap hby
    omega
  have hsr : ∀ w : World, (sizeOf elem).run P w = .ok sz w := fun w => by simp [sizeOf, Go.run_typeInfo w hi, hsz]
  have hzr : ∀ w : World, (zeroValue elem).run P w = .ok z w := fun w => by simp [zeroValue, Go.run_typeInfo w hi, hz]
  have hforced : (Question.appendCap (sl + n) sc elem).forced = false := rfl
  let cap := (Question.appendCap (sl + n) sc elem).cut (w.tape w.drawn (Question.appendCap (sl + n) sc elem))
  have hge : sl + n ≤ cap := by simp only [cap, Question.cut]; omega
  refine ⟨cap, w.drawn + 1, old.toArray ++ new.toArray ++ Builtin.zeroCells z.cells (cap - (sl + n)), hge, ?_, ?_, ?_⟩
  · simp only [Array.size_append, List.size_toArray, hol, hnl, size_zeroCells, hzs, ← Nat.add_mul]
    congr 1; omega
  · intro i v hv
    have := (List.getElem?_eq_some_iff.1 hv).1
    rw [Array.getElem?_append_left (by simpa using this)]
    rw [← List.getElem?_toArray] at hv
    simpa using hv
  · have hneg : ¬ (((sl + n : Nat) : Int) > IntKind.i64.max ∧ (False ∨ info.bytes = 0)) := by
      intro hh
      have := hh.1
      rw [IntKind.max_i64] at this
      omega
    have hti : ∀ w : World, (typeInfo elem).run P w = .ok info w := fun w => Go.run_typeInfo w hi
    have ho := hold { w with drawn := w.drawn + 1 } rfl
    have hrun : (choose (.appendCap (sl + n) sc elem)).run P w = .ok cap { w with drawn := w.drawn + 1 } := by
      rw [run_choose, hforced]; rfl
    cases happ with
    | seq dx hux hsq hlo hnew =>
      have hn := hnew { w with drawn := w.drawn + 1 } rfl
      cases dx <;> simp only [isSeq, Bool.false_eq_true] at hsq
      all_goals
        simp only [Builtin.append_, ht, hxt, h0, h1, Sem.run_bind, run_underlying hu, run_underlying hux, Result.andThen_ok, hsr, Sem.run_pure, Bool.false_eq_true, if_false, hlo, Bool.not_false, if_true, hfit, hti,
          Sem.run_ite, hneg, hlim, hrun, run_askRoom, ho, hn, hzr, newRow, run_newObj]
    | made k k' l info' z' hux hx hl0 hl hn hi' hz' hb hzs' hz0 hnew =>
      cases hi.symm.trans hi'
      cases hz.symm.trans hz'
      subst hx hn
      have hw : IntKind.wrap .i64 l = l := by rw [IntKind.wrap_i64]; omega
      have hlb : ¬ l * (info.bytes : Int) > 2 ^ 48 := by
        have : l * (info.bytes : Int) ≤ 100000 * 10000 := Int.mul_le_mul hl (by omega) (by omega) (by omega)
        omega
      have hzc : Builtin.zeroCells z.cells l.toNat = new.toArray := by
        apply Array.ext'
        rw [hnew, ← rep_zero z.cells l.toNat (by omega)]
        rfl
      have hneg' : ¬ (((sl + l.toNat : Nat) : Int) > IntKind.i64.max) := by rw [IntKind.max_i64]; omega
      simp only [Builtin.append_, ht, hxt, h0, h1, Sem.run_bind, run_underlying hu, run_underlying hux, Result.andThen_ok, hsr, Sem.run_pure, Bool.not_true, Bool.false_eq_true, if_false, if_true, asInt, asIntOf, hw,
        Sem.run_ite, hti, hlb, show ¬ l < 0 by omega, hfit, hneg', false_and, hlim, hrun, run_askRoom, ho, hn0, hzr, hzc, newRow, run_newObj]
end
end Go.Ev
