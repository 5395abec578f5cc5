/- THE EVALUATOR, second part, acts, regions, code. Conditions, each theorem's own. -/
import Derived.Test.YtdjnedamphifcaaZA
import Derived.Calls
import Derived.Scope
import Derived.LoopN
import Derived.OrdersIn
import Derived.RangeFuncIn
import Derived.RangeFuncRecord
import Derived.RangeFuncCalls
import Derived.RangeFuncLeaves
import Derived.RangeFuncNested
set_option linter.unusedSimpArgs false
set_option linter.unusedVariables false
namespace Go.Ev
section
variable {P : Program} {E : Env} {ρ : Ren} {h : Heap} {w : World}

def nval : Next → Option Value
  | .value v => some v
  | .skip => some undef
  | _ => none

def ActOK (P : Program) (ρ : Ren) (h : Heap) (w : World) (s : Sem Next) (v : Value) (h' : Heap) : Prop :=
  ∃ n v' ρ' w', s.run P w = .ok n w' ∧ nval n = some v' ∧ VR ρ' v v' ∧ Stp P ρ h w ρ' h' w'

theorem over_get {cs xs r : List Value} {off : Nat} (hr : r = cs.take off ++ xs ++ cs.drop (off + xs.length)) (hl : off + xs.length ≤ cs.length) (i : Nat) :
    r[i]? = if i < off then cs[i]? else if i < off + xs.length then xs[i - off]? else cs[i]? := by
  subst hr
  have h1 : (cs.take off).length = off := by simp; omega
  rw [List.append_assoc, List.getElem?_append, h1]
  by_cases a : i < off
  · rw [if_pos a, if_pos a, List.getElem?_take_of_lt a]
  · rw [if_neg a, if_neg a, List.getElem?_append]
    by_cases b : i < off + xs.length
    · rw [if_pos (by omega), if_pos b]
    · rw [if_neg (by omega), if_neg b, List.getElem?_drop]
      congr 1; omega

theorem writeCells_sim (hr : HR P ρ h w) {i off b c : Nat} {xs xs' : List Value} {h' : Heap} (hi : ρ i = some (b, c)) (e : writeCells h ⟨i, off, none⟩ xs = some h') (hx : VRL ρ xs xs')
    (ho : xs.all Ev.oneCell = true) : ∃ w', (storeCells ⟨b, off, none⟩ xs').run P w = .ok () w' ∧ Stp P ρ h w ρ h' w' := by
  unfold writeCells at e
  simp only at e
  split at e
  · cases e; cases hx
    exact ⟨w, by simp [storeCells], Stp.refl hr⟩
  · rename_i hne
    obtain ⟨k, o, e1, e2, e3⟩ := hr.blk i b c hi
    rw [e1] at e
    cases e3 with
    | cells cs ys el exact hc hs =>
      simp only [Option.map_eq_some_iff] at e
      obtain ⟨cs', hov, rfl⟩ := e
      obtain ⟨h1, hcs'⟩ := over_eq _ _ _ _ hov
      have h1 : off + xs.length ≤ cs.length := by
        rcases h1 with h1 | h1
        · exact (hne h1).elim
        · exact h1
      have hlen := hx.length
      have hfit : cs.length ≤ ys.size := by
        by_cases hz : cs.length = 0
        · omega
        · obtain ⟨v', e', _⟩ := hc (cs.length - 1) _ (List.getElem?_eq_getElem (by omega))
          have := (Array.getElem?_eq_some_iff.1 e').1
          omega
      have hrun := run_storeCells_at (P := P) b off el xs' 0 ys w e2 (by omega) (hx.oneCell ho)
      simp only [Nat.add_zero] at hrun
      refine ⟨_, hrun, ?_⟩
      refine Stp.write hr hi e1 (by simp [soft]) (o' := .cells (ys.toList.take off ++ xs' ++ ys.toList.drop (off + xs'.length)).toArray el (0, 0)) ?_ ?_ (setRow_heap w b ys _ el (0, 0) e2) (fun j hj => setRow_other w b j _ hj) rfl rfl rfl
      · refine .cells _ _ _ _ (fun j v hv => ?_) ?_
        · rw [over_get hcs' h1] at hv
          have := over_get (cs := ys.toList) (xs := xs') (off := off) rfl (by simp; omega) j
          simp only [List.getElem?_toArray]
          rw [this]
          by_cases a1 : j < off
          · rw [if_pos a1] at hv ⊢
            obtain ⟨v', e', r⟩ := hc j v hv
            exact ⟨v', by simpa using e', r⟩
          · rw [if_neg a1] at hv ⊢
            rw [hlen] at hv
            by_cases a2 : j < off + xs'.length
            · rw [if_pos a2] at hv ⊢
              exact hx.get _ _ hv
            · rw [if_neg a2] at hv ⊢
              obtain ⟨v', e', r⟩ := hc j v hv
              exact ⟨v', by simpa using e', r⟩
        · have : (ys.toList.take off ++ xs' ++ ys.toList.drop (off + xs'.length)).toArray.size = ys.size := by simp; omega
          rw [this]
          have : cs'.length = cs.length := by rw [hcs']; simp; omega
          rw [this]; exact hs
      · simp [World.setRow]
    | _ => simp at e

theorem storeAt_sim (hE : EnvOK P E) (hr : HR P ρ h w) {t : TypeId} {x x' v v' : Value} {h' : Heap} (e : storeAt E t x v h = some h') (hx : VR ρ x x') (hv : VR ρ v v') :
    ∃ w', (Instr.storeAt t x' v').run P w = .ok () w' ∧ Stp P ρ h w ρ h' w' := by
  unfold storeAt at e
  split at e
  · rename_i a n hs
    cases hx with
    | @ptr i b c off hi =>
      by_cases hc : v.cells.toList.length = n ∧ v.cells.toList.all Ev.oneCell = true
      · obtain ⟨c1, c2⟩ := hc
        simp only [beq_eq', c1, c2, decide_true, Bool.and_self, cond_true] at e
        obtain ⟨w', hrun, hst⟩ := writeCells_sim hr hi e hv.cells c2
        refine ⟨w', ?_, hst⟩
        have hsz : v'.cells.size = n := by rw [← Array.length_toList, ← hv.cells.length, c1]
        simp [Instr.storeAt, Instr.sureAddr, storeVar, hE.run_size hs, hsz, hrun]
      · exfalso
        have : (Nat.beq v.cells.toList.length n && v.cells.toList.all Ev.oneCell) = false := by
          rw [Bool.eq_false_iff]; intro hh
          rw [beq_eq'] at hh
          simp only [Bool.and_eq_true, decide_eq_true_eq] at hh
          exact hc hh
        simp only [this, cond_false] at e
        cases e
  · cases e

theorem run_setObj {b : Nat} {o o' : Obj} (hb : w.heap[b]? = some o) (hn : ∀ c e f, o ≠ .cells c e f) : (setObj b o').run P w = .ok () { w with heap := w.heap.setIfInBounds b o' } := by
  cases o <;> first | exact (hn _ _ _ rfl).elim | (simp only [setObj, Sem.run, hb])
theorem heap_set {b : Nat} {o o' : Obj} (hb : w.heap[b]? = some o) : ({ w with heap := w.heap.setIfInBounds b o' } : World).heap[b]? = some o' := by
  have := (Array.getElem?_eq_some_iff.1 hb).1
  simp [this]
theorem heap_set_ne {b j : Nat} {o' : Obj} (hj : j ≠ b) : ({ w with heap := w.heap.setIfInBounds b o' } : World).heap[j]? = w.heap[j]? := by
  simp [Ne.symm hj]

/-- an object that is no row is written -/
theorem obj_write (hr : HR P ρ h w) {i b c : Nat} {k k' : Blk} {o o' : Obj} (hi : ρ i = some (b, c)) (hk : h.b.get i = some k) (hd : ¬ soft (some k)) (hb : w.heap[b]? = some o) (hn : ∀ c e f, o ≠ .cells c e f)
    (hbr : BR P ρ c k' o') : (setObj b o').run P w = .ok () { w with heap := w.heap.setIfInBounds b o' } ∧ Stp P ρ h w ρ { h with b := h.b.set i k' } { w with heap := w.heap.setIfInBounds b o' } :=
  ⟨run_setObj hb hn, Stp.write hr hi hk hd hbr (by simp) (heap_set hb) (fun _ hj => heap_set_ne hj) rfl rfl rfl⟩

theorem MR.get {es : List (Value × Value × Nat)} {es' : List MapEntry} (hm : MR ρ es es') : ∀ (i : Nat) (x : Value × Value × Nat), es[i]? = some x → ∃ y, es'[i]? = some y ∧ VR ρ x.1 y.key ∧ VR ρ x.2.1 y.val ∧ x.2.2 = y.born := by
  induction hm with
  | nil => intro i x h; simp at h
  | cons h1 h2 t ih =>
    intro i x h
    cases i with
    | zero => simp at h; subst h; exact ⟨_, rfl, h1, h2, rfl⟩
    | succ i => simpa using ih i x (by simpa using h)
theorem MR.append {es fs : List (Value × Value × Nat)} {es' fs' : List MapEntry} (hm : MR ρ es es') (hf : MR ρ fs fs') : MR ρ (es ++ fs) (es' ++ fs') := by
  induction hm with
  | nil => exact hf
  | cons h1 h2 t ih => exact .cons h1 h2 ih
theorem MR.setVal {es : List (Value × Value × Nat)} {es' : List MapEntry} (hm : MR ρ es es') {v v' : Value} (hv : VR ρ v v') : ∀ (i : Nat) (k' : Value), (∀ x, es[i]? = some x → VR ρ x.1 k') → MR ρ (Ev.setVal es i v) (es'.modify i fun e => { e with key := k', val := v' }) := by
  induction hm with
  | nil => intro i k' _; simp only [Ev.setVal, List.modify_nil]; exact .nil
  | cons h1 h2 t ih =>
    intro i k' hk
    rw [Ev.setVal, cond_beq]
    cases i with
    | zero => simp only [if_true, List.modify_zero_cons]; exact .cons (hk _ rfl) hv t
    | succ i =>
      rw [if_neg (by omega)]
      simp only [Nat.add_sub_cancel, List.modify_succ_cons]
      exact .cons h1 h2 (ih i k' (fun x hx => hk x (by simpa using hx)))

theorem findKey_lt {kt : TypeId} {k : Value} {d : TypeDesc} : ∀ {es : List (Value × Value × Nat)} {i j : Nat} {v : Value}, afind E kt d k es i = some (some (j, v)) → ∃ x, es[j - i]? = some x ∧ i ≤ j ∧ x.2.1 = v ∧ cond (keyOk d) (akeyEq d k x.1) (aeq E 100 kt k x.1) = some true
  | [], i, j, v, h => by simp [afind] at h
  | (kk, u, n) :: es, i, j, v, h => by
    simp only [afind] at h
    split at h
    · rename_i he
      cases h
      exact ⟨(kk, u, n), by simp, Nat.le_refl _, rfl, he⟩
    · obtain ⟨x, e, hle, e2, e3⟩ := findKey_lt h
      refine ⟨x, ?_, by omega, e2, e3⟩
      rw [show j - i = (j - (i + 1)) + 1 by omega]
      simpa using e
    · cases h

theorem sameV_go {n : Nat} (key : ∀ (a b : Value), sameV n a b = true → a = b) : ∀ (l r : List Value), sameV.go n l r = true → l = r
  | [], [], _ => rfl
  | [], _ :: _, h => by simp [sameV.go] at h
  | _ :: _, [], h => by simp [sameV.go] at h
  | x :: l, y :: r, h => by
    simp only [sameV.go, Bool.and_eq_true] at h
    rw [key _ _ h.1, sameV_go key _ _ h.2]
theorem addr_eq {a b : Addr} (h : (Nat.beq a.block b.block && Nat.beq a.off b.off && a.spot.isNone && b.spot.isNone) = true) : a = b := by
  simp only [beq_eq', Bool.and_eq_true, decide_eq_true_eq, Option.isNone_iff_eq_none] at h
  obtain ⟨⟨⟨h1, h2⟩, h3⟩, h4⟩ := h
  cases a; cases b; simp_all
theorem sameV_eq : ∀ (n : Nat) (a b : Value), sameV n a b = true → a = b
  | 0, a, b, h => by
    unfold sameV at h
    split at h
    · simpa using h
    · simp only [Bool.and_eq_true, decide_eq_true_eq, beq_iff_eq] at h; rw [h.1, h.2]
    · simp only [Bool.and_eq_true, decide_eq_true_eq, beq_iff_eq] at h; rw [h.1, h.2]
    · rw [eqStr_true h]
    · rfl
    · rw [addr_eq h]
    · simp only [beq_eq', Bool.and_eq_true, decide_eq_true_eq] at h; rw [h.1, h.2]
    · simp only [Bool.and_eq_true, beq_eq', decide_eq_true_eq, Option.isNone_iff_eq_none] at h
      obtain ⟨⟨⟨⟨⟨h1, h2⟩, h3⟩, h4⟩, h5⟩, h6⟩ := h
      rename_i x _ _ y _ _
      cases x; cases y; simp_all
    · rfl
    · simp only [beq_eq', decide_eq_true_eq] at h; rw [h]
    · rfl
    · rfl
    · rename_i e; cases e
    · rename_i e; cases e
    · rename_i e; cases e
    · rename_i e; cases e
    · cases h
  | n + 1, a, b, h => by
    have ih := sameV_eq n
    have ihl := sameV_go ih
    unfold sameV at h
    split at h
    · simpa using h
    · simp only [Bool.and_eq_true, decide_eq_true_eq, beq_iff_eq] at h; rw [h.1, h.2]
    · simp only [Bool.and_eq_true, decide_eq_true_eq, beq_iff_eq] at h; rw [h.1, h.2]
    · rw [eqStr_true h]
    · rfl
    · rw [addr_eq h]
    · simp only [beq_eq', Bool.and_eq_true, decide_eq_true_eq] at h; rw [h.1, h.2]
    · simp only [Bool.and_eq_true, beq_eq', decide_eq_true_eq, Option.isNone_iff_eq_none] at h
      obtain ⟨⟨⟨⟨⟨h1, h2⟩, h3⟩, h4⟩, h5⟩, h6⟩ := h
      rename_i x _ _ y _ _
      cases x; cases y; simp_all
    · rfl
    · simp only [beq_eq', decide_eq_true_eq] at h; rw [h]
    · rfl
    · rfl
    · rename_i e; cases e
      simp only [Bool.and_eq_true, beq_eq', decide_eq_true_eq] at h
      obtain ⟨⟨h1, h2⟩, h3⟩ := h
      rw [h1, Array.toList_inj.1 (ihl _ _ h2), Array.toList_inj.1 (ihl _ _ h3)]
    · rename_i e; cases e
      simp only [Bool.and_eq_true, beq_eq', decide_eq_true_eq] at h
      rw [h.1, ih _ _ h.2]
    · rename_i e; cases e
      rw [Array.toList_inj.1 (ihl _ _ h)]
    · rename_i e; cases e
      rw [Array.toList_inj.1 (ihl _ _ h)]
    · cases h
end
end Go.Ev

namespace Go.Ev
section
variable {P : Program} {E : Env} {ρ : Ren} {h : Heap} {w : World}

theorem keyThatStays_sim (old new : Value) (w : World) : ∃ n : Nat, (Instr.keyThatStays old new).run P w = .ok new { w with drawn := n } ∨ (Instr.keyThatStays old new).run P w = .ok old { w with drawn := n } := by
  unfold Instr.keyThatStays
  split
  · exact ⟨w.drawn, .inl rfl⟩
  · have hf : (Question.extern "map.whichKeyStays" 2).forced = false := rfl
    simp only [Sem.run_bind, run_choose, hf, Bool.false_eq_true, if_false]
    refine ⟨w.drawn + 1, ?_⟩
    simp only [Result.andThen_ok, Sem.run_pure]
    split
    · exact .inl rfl
    · exact .inr rfl

theorem acheck_und {t : TypeId} {k : Value} {n : Nat} (hc : acheck E n t k = true) {d : TypeDesc} (hd : und E t = some d) : d ≠ .invalid := by
  intro hh; subst hh
  cases n with
  | zero => simp [acheck] at hc
  | succ n =>
    unfold acheck at hc
    rw [hd] at hc
    simp at hc

theorem hr_drawn (hr : HR P ρ h w) (n : Nat) : HR P ρ h { w with drawn := n } := hr.of_heap rfl

theorem amapUpdate_sim (hE : EnvOK P E) (hr : HR P ρ h w) {t : TypeId} {m m' k k' v v' : Value} {h' : Heap} (e : amapUpdate E t m k v h = some h') (hm : VR ρ m m') (hk : VR ρ k k') (hv : VR ρ v v') :
    ∃ w', (Instr.mapUpdate t m' k' v').run P w = .ok () w' ∧ Stp P ρ h w ρ h' w' := by
  unfold amapUpdate at e
  split at e
  · rename_i kt et r hu
    have hu := hE.und hu (by simp)
    split at e
    · rename_i d es c hd hg
      cases hc : acheck E 20 kt k with
      | false => simp [hc] at e
      | true =>
        simp only [hc, cond_true] at e
        have hd := hE.und hd (acheck_und hc hd)
        obtain ⟨i, b, c', es', hmi, rfl, hi, e1, e2, hmr⟩ := getMap_sim hr hg hm
        cases hmi
        have hck := fun w => acheck_sim hE 20 10000 (by decide) kt k k' hc hk false w
        split at e
        · rename_i j u ha
          obtain ⟨r', ef, rr⟩ := afind_sim hE hd hk ha hmr
          cases r' with
          | none => exact rr.elim
          | some p =>
            obtain ⟨j', u'⟩ := p
            obtain ⟨rfl, rv⟩ := rr
            rw [nth_eq] at e
            cases hj : es[j]? with
            | none => simp [hj] at e
            | some x =>
              simp only [hj] at e
              cases hs : sameV 50 x.1 k with
              | false => simp [hs] at e
              | true =>
                simp only [hs, cond_true] at e; cases e
                have hxk := sameV_eq _ _ _ hs
                obtain ⟨y, hy, ry, _⟩ := hmr.get j x hj
                have hy : es'[j]? = some y := by simpa using hy
                have fin : ∀ (key : Value) (n : Nat), VR ρ x.1 key → (Instr.keyThatStays y.key k').run P w = .ok key { w with drawn := n } →
                    ∃ w', (Instr.mapUpdate t (.map (some b)) k' v').run P w = .ok () w' ∧ Stp P ρ h w ρ { h with b := h.b.set r (.map (Ev.setVal es j v) c) } w' := by
                  intro key n rkey hkey
                  have hbr : BR P ρ c' (.map (Ev.setVal es j v) c) (.map (es'.modify j fun e => { e with key, val := v' }) c) := by
                    refine .map _ _ _ ?_
                    rw [Array.toList_modify]
                    exact hmr.setVal hv j key (fun z hz => by rw [hj] at hz; cases hz; exact rkey)
                  obtain ⟨o1, o2⟩ := obj_write (P := P) (hr_drawn hr n) hi e1 (by simp [soft]) (w := { w with drawn := n }) e2 (by simp) hbr
                  refine ⟨_, ?_, (Stp.draw hr n).trans o2⟩
                  simp only [Instr.mapUpdate, Sem.run_bind, run_underlying hu, Result.andThen_ok, run_getObj_map e2, hck, ef, hy, Option.map_some, Option.getD_some, hkey]
                  exact o1
                obtain ⟨n, hh | hh⟩ := keyThatStays_sim (P := P) y.key k' w
                · exact fin k' n (by rw [hxk]; exact hk) hh
                · exact fin y.key n ry hh
        · rename_i ha
          cases e
          obtain ⟨r', ef, rr⟩ := afind_sim hE hd hk ha hmr
          cases r' with
          | some p => exact rr.elim
          | none =>
            have hbr : BR P ρ c' (.map (es ++ [(k, v, c)]) (c + 1)) (.map (es'.push { key := k', val := v', born := c }) (c + 1)) := by
              refine .map _ _ _ ?_
              rw [Array.toList_push]
              exact hmr.append (.cons hk hv .nil)
            obtain ⟨o1, o2⟩ := obj_write (P := P) hr hi e1 (by simp [soft]) e2 (by simp) hbr
            refine ⟨_, ?_, o2⟩
            simp only [Instr.mapUpdate, Sem.run_bind, run_underlying hu, Result.andThen_ok, run_getObj_map e2, hck, ef]
            exact o1
        · cases e
    · cases e
  · cases e

theorem MR.setKey {es : List (Value × Value × Nat)} {es' : List MapEntry} (hm : MR ρ es es') : ∀ (i : Nat) (k' : Value), (∀ x, es[i]? = some x → VR ρ x.1 k') → MR ρ es (es'.modify i fun e => { e with key := k' }) := by
  induction hm with
  | nil => intro i k' _; simp only [List.modify_nil]; exact .nil
  | cons h1 h2 t ih =>
    intro i k' hk
    cases i with
    | zero => simp only [List.modify_zero_cons]; exact .cons (hk _ rfl) h2 t
    | succ i =>
      simp only [List.modify_succ_cons]
      exact .cons h1 h2 (ih i k' (fun x hx => hk x (by simpa using hx)))


theorem amapEntry_sim (hE : EnvOK P E) (hr : HR P ρ h w) {t : TypeId} {m m' k k' v : Value} {h' : Heap} (e : amapEntry E t m k h = some (v, h')) (hm : VR ρ m m') (hk : VR ρ k k') :
    ∃ v' w', (Instr.mapEntry t m' k').run P w = .ok v' w' ∧ VR ρ v v' ∧ Stp P ρ h w ρ h' w' := by
  unfold amapEntry at e
  split at e
  · rename_i kt et r hu
    have hu := hE.und hu (by simp)
    split at e
    · rename_i d es c hd hg
      cases hc : acheck E 20 kt k with
      | false => simp [hc] at e
      | true =>
        simp only [hc, cond_true] at e
        have hd := hE.und hd (acheck_und hc hd)
        obtain ⟨i, b, c', es', hmi, rfl, hi, e1, e2, hmr⟩ := getMap_sim hr hg hm
        cases hmi
        have hck := fun w => acheck_sim hE 20 10000 (by decide) kt k k' hc hk false w
        split at e
        · rename_i j u ha
          obtain ⟨r', ef, rr⟩ := afind_sim hE hd hk ha hmr
          cases r' with
          | none => exact rr.elim
          | some p =>
            obtain ⟨j', u'⟩ := p
            obtain ⟨rfl, rv⟩ := rr
            rw [nth_eq] at e
            cases hj : es[j]? with
            | none => simp [hj] at e
            | some x =>
              simp only [hj] at e
              cases hs : sameV 50 x.1 k with
              | false => simp [hs] at e
              | true =>
                simp only [hs, cond_true] at e; cases e
                have hxk := sameV_eq _ _ _ hs
                obtain ⟨y, hy, ry, _, rb⟩ := hmr.get j x hj
                have hy : es'[j]? = some y := by simpa using hy
                have fin : ∀ (key : Value) (n : Nat), VR ρ x.1 key → (Instr.keyThatStays y.key k').run P w = .ok key { w with drawn := n } →
                    ∃ v' w', (Instr.mapEntry t (.map (some b)) k').run P w = .ok v' w' ∧ VR ρ (.tuple #[u, .int .i64 x.2.2]) v' ∧ Stp P ρ h w ρ { h with b := h.b.set r (.map es c) } w' := by
                  intro key n rkey hkey
                  have hbr : BR P ρ c' (.map es c) (.map (es'.modify j fun e => { e with key }) c) := by
                    refine .map _ _ _ ?_
                    rw [Array.toList_modify]
                    exact hmr.setKey j key (fun z hz => by rw [hj] at hz; cases hz; exact rkey)
                  obtain ⟨o1, o2⟩ := obj_write (P := P) (hr_drawn hr n) hi e1 (by simp [soft]) (w := { w with drawn := n }) e2 (by simp) hbr
                  refine ⟨.tuple #[u', goInt y.born], _, ?_, .tuple _ _ (.cons rv (.cons (by rw [rb]; exact .int _ _) .nil)), (Stp.draw hr n).trans o2⟩
                  simp only [Instr.mapEntry, Sem.run_bind, run_underlying hu, Result.andThen_ok, run_getObj_map e2, hck, ef, hy, Option.map_some, Option.getD_some, hkey, o1, Sem.run_pure]
                obtain ⟨n, hh | hh⟩ := keyThatStays_sim (P := P) y.key k' w
                · exact fin k' n (by rw [hxk]; exact hk) hh
                · exact fin y.key n ry hh
        · rename_i ha
          simp only [Option.map_eq_some_iff, Prod.mk.injEq] at e
          obtain ⟨z, hz, rfl, rfl⟩ := e
          obtain ⟨r', ef, rr⟩ := afind_sim hE hd hk ha hmr
          cases r' with
          | some p => exact rr.elim
          | none =>
            have rz := VR.const ρ (hE.zero hz).2
            have hbr : BR P ρ c' (.map (es ++ [(k, z, c)]) (c + 1)) (.map (es'.push { key := k', val := z, born := c }) (c + 1)) := by
              refine .map _ _ _ ?_
              rw [Array.toList_push]
              exact hmr.append (.cons hk rz .nil)
            obtain ⟨o1, o2⟩ := obj_write (P := P) hr hi e1 (by simp [soft]) e2 (by simp) hbr
            refine ⟨.tuple #[z, goInt c], _, ?_, .tuple _ _ (.cons rz (.cons (.int _ _) .nil)), o2⟩
            simp only [Instr.mapEntry, Sem.run_bind, run_underlying hu, Result.andThen_ok, run_getObj_map e2, hck, ef, hE.run_zero hz, o1, Sem.run_pure]
        · cases e
    · cases e
  · cases e

theorem setBorn_sim {v v' : Value} (hv : VR ρ v v') (n : Int) : ∀ {es : List (Value × Value × Nat)} {es' : List MapEntry} {r : List (Value × Value × Nat)}, setBorn es n v = some r → MR ρ es es' →
    ∃ i, es'.findIdx? (fun e => (e.born : Int) == n) = some i ∧ MR ρ r (es'.modify i fun e => { e with val := v' })
  | [], es', r, h, hm => by simp [setBorn] at h
  | (k, u, b) :: es, es', r, h, hm => by
    cases hm with
    | cons h1 h2 t =>
      rw [setBorn] at h
      cases hb : ((b : Int) == n) with
      | true =>
        simp only [hb, cond_true] at h; cases h
        exact ⟨0, by simp [List.findIdx?_cons, hb], by simp only [List.modify_zero_cons]; exact .cons h1 hv t⟩
      | false =>
        simp only [hb, cond_false, Option.map_eq_some_iff] at h
        obtain ⟨q, hq, rfl⟩ := h
        obtain ⟨i, e, r⟩ := setBorn_sim hv n hq t
        exact ⟨i + 1, by simp [List.findIdx?_cons, hb, e], by simp only [List.modify_succ_cons]; exact .cons h1 h2 r⟩

theorem aentryStore_sim (hr : HR P ρ h w) {t : TypeId} {m m' s s' v v' : Value} {h' : Heap} (e : aentryStore m s v h = some h') (hm : VR ρ m m') (hs : VR ρ s s') (hv : VR ρ v v') :
    ∃ w', (Instr.entryStore t m' s' v').run P w = .ok () w' ∧ Stp P ρ h w ρ h' w' := by
  unfold aentryStore at e
  split at e
  · rename_i r k n es c hg
    simp only [Option.map_eq_some_iff] at e
    obtain ⟨q, hq, rfl⟩ := e
    obtain ⟨i, b, c', es', hmi, rfl, hi, e1, e2, hmr⟩ := getMap_sim hr hg hm
    cases hmi; cases hs
    obtain ⟨j, hj, hmr2⟩ := setBorn_sim hv n hq hmr
    have hj : es'.findIdx? (fun e => (e.born : Int) == n) = some j := by cases es'; simpa using hj
    have hbr : BR P ρ c' (.map q c) (.map (es'.modify j fun e => { e with val := v' }) c) := by
      refine .map _ _ _ ?_
      rw [Array.toList_modify]; exact hmr2
    obtain ⟨o1, o2⟩ := obj_write (P := P) hr hi e1 (by simp [soft]) e2 (by simp) hbr
    refine ⟨_, ?_, o2⟩
    simp only [Instr.entryStore, Sem.run_bind, Result.andThen_ok, run_getObj_map e2, asInt, asIntOf, Sem.run_pure, hj]
    exact o1
  · cases e

theorem MR.erase {es : List (Value × Value × Nat)} {es' : List MapEntry} (hm : MR ρ es es') : ∀ i : Nat, MR ρ (es.take i ++ es.drop (i + 1)) (es'.eraseIdx i) := by
  induction hm with
  | nil => intro i; simp; exact .nil
  | cons h1 h2 t ih =>
    intro i
    cases i with
    | zero => simpa using t
    | succ i => simpa using MR.cons h1 h2 (ih i)

theorem adelete_sim (hE : EnvOK P E) (hr : HR P ρ h w) {t ty : TypeId} {ts : Array TypeId} {xs : Array Value} {m m' k k' : Value} {h' : Heap} (ht : ts[0]? = some t) (hx0 : xs[0]? = some m') (hx1 : xs[1]? = some k')
    (e : adelete E t m k h = some h') (hm : VR ρ m m') (hk : VR ρ k k') :
    ∃ w', (Builtin.delete_ ts ty xs).run P w = .ok undef w' ∧ Stp P ρ h w ρ h' w' := by
  unfold adelete at e
  split at e
  · rename_i kt et hu
    have hu := hE.und hu (by simp)
    cases hc : acheck E 20 kt k with
    | false => simp [hc] at e
    | true =>
      simp only [hc, cond_true] at e; cases e
      cases hm
      refine ⟨w, ?_, Stp.refl hr⟩
      simp [Builtin.delete_, ht, hx0, hx1, run_underlying hu, acheck_sim hE 20 10000 (by decide) kt k k' hc hk true w, undef]
  · rename_i kt et r hu
    have hu := hE.und hu (by simp)
    split at e
    · rename_i d es c hd hg
      cases hc : acheck E 20 kt k with
      | false => simp [hc] at e
      | true =>
        simp only [hc, cond_true] at e
        have hd := hE.und hd (acheck_und hc hd)
        obtain ⟨i, b, c', es', hmi, rfl, hi, e1, e2, hmr⟩ := getMap_sim hr hg hm
        cases hmi
        have hck := fun em w => acheck_sim hE 20 10000 (by decide) kt k k' hc hk em w
        split at e
        · rename_i j u ha
          cases e
          obtain ⟨r', ef, rr⟩ := afind_sim hE hd hk ha hmr
          cases r' with
          | none => exact rr.elim
          | some p =>
            obtain ⟨j', u'⟩ := p
            obtain ⟨rfl, rv⟩ := rr
            have hbr : BR P ρ c' (.map (es.take j ++ dropN es (j + 1)) c) (.map (es'.eraseIdxIfInBounds j) c) := by
              refine .map _ _ _ ?_
              rw [dropN_eq, Array.toList_eraseIdxIfInBounds]
              exact hmr.erase j
            obtain ⟨o1, o2⟩ := obj_write (P := P) hr hi e1 (by simp [soft]) e2 (by simp) hbr
            refine ⟨_, ?_, o2⟩
            simp [Builtin.delete_, ht, hx0, hx1, run_underlying hu, run_getObj_map e2, hck, ef, o1, undef]
        · rename_i ha
          cases e
          obtain ⟨r', ef, rr⟩ := afind_sim hE hd hk ha hmr
          cases r' with
          | some p => exact rr.elim
          | none =>
            have hbr : BR P ρ c' (.map es c) (.map es' c) := .map _ _ _ hmr
            obtain ⟨o1, o2⟩ := obj_write (P := P) hr hi e1 (by simp [soft]) e2 (by simp) hbr
            refine ⟨_, ?_, o2⟩
            simp [Builtin.delete_, ht, hx0, hx1, run_underlying hu, run_getObj_map e2, hck, ef, o1, undef]
        · cases e
    · cases e
  · cases e
end
end Go.Ev

namespace Go.Ev
section
variable {P : Program} {E : Env} {ρ : Ren} {h : Heap} {w : World}

theorem new_sim (hr : HR P ρ h w) {k : Blk} {o : Obj} (hb : BR P ρ 0 k o) : (newObj o).run P w = .ok w.heap.size { w with heap := w.heap.push o } ∧
    Stp P ρ h w (ρ.upd h.n (w.heap.size, 0)) (newBlk h k) { w with heap := w.heap.push o } ∧ VR (ρ.upd h.n (w.heap.size, 0)) (.pointer (some ⟨h.n, 0, none⟩)) (.pointer (some ⟨w.heap.size, 0, none⟩)) :=
  ⟨rfl, Stp.alloc hr hb rfl rfl rfl rfl, .ptr 0 (Ren.upd_same _ _ _)⟩

theorem arange_sim (hE : EnvOK P E) (hr : HR P ρ h w) {t : TypeId} {x x' v : Value} {h' : Heap} (e : arange E t x h = some (v, h')) (hx : VR ρ x x') :
    ∃ v' ρ' w', (Instr.range t x').run P w = .ok v' w' ∧ VR ρ' v v' ∧ Stp P ρ h w ρ' h' w' := by
  unfold arange at e
  split at e
  · rename_i s hu
    have hu := hE.und hu (by simp)
    cases e; cases hx
    obtain ⟨h1, h2, h3⟩ := new_sim hr (BR.siter (P := P) (ρ := ρ) (c := 0) s 0)
    exact ⟨_, _, _, by simp [Instr.range, run_underlying hu], h3, h2⟩
  · rename_i kt et hu
    have hu := hE.und hu (by simp)
    cases e; cases hx
    obtain ⟨h1, h2, h3⟩ := new_sim hr (BR.miterN (P := P) (ρ := ρ) (c := 0) 0 [] 0)
    exact ⟨_, _, _, by simp [Instr.range, run_underlying hu], h3, h2⟩
  · rename_i kt et m hu
    have hu := hE.und hu (by simp)
    split at e
    · rename_i es c hg
      cases e
      obtain ⟨i, b, c', es', hmi, rfl, hi, e1, e2, hmr⟩ := getMap_sim hr hg hx
      cases hmi
      obtain ⟨h1, h2, h3⟩ := new_sim hr (BR.miter (P := P) (c := 0) hi c [] c)
      exact ⟨_, _, _, by simp [Instr.range, run_underlying hu, run_getObj_map e2], h3, h2⟩
    · cases e
  · cases e

theorem MR.filter {es : List (Value × Value × Nat)} {es' : List MapEntry} (hm : MR ρ es es') (p : Nat → Bool) : MR ρ (es.filter fun e => p e.2.2) (es'.filter fun e => p e.born) := by
  induction hm with
  | nil => exact .nil
  | cons h1 h2 t ih =>
    rename_i n _ _
    simp only [List.filter_cons]
    cases p n
    · exact ih
    · exact .cons h1 h2 ih
theorem MR.all {es : List (Value × Value × Nat)} {es' : List MapEntry} (hm : MR ρ es es') (p : Nat → Bool) : (es'.all fun e => p e.born) = (es.all fun e => p e.2.2) := by
  induction hm with
  | nil => rfl
  | cons h1 h2 t ih => simp [ih]

theorem run_getObj {b : Nat} {o : Obj} (hb : w.heap[b]? = some o) (hn : ∀ c e f, o ≠ .cells c e f) : (getObj b).run P w = .ok o w := by
  cases o <;> first | exact (hn _ _ _ rfl).elim | (simp only [getObj, Sem.run, hb])

theorem anext_sim (hr : HR P ρ h w) {it it' v : Value} {str : Bool} {ty : TypeId} {h' : Heap} (e : anext it str h = some (v, h')) (hx : VR ρ it it') :
    ∃ v' w', (Instr.next it' str ty).run P w = .ok v' w' ∧ VR ρ v v' ∧ Stp P ρ h w ρ h' w' := by
  unfold anext at e
  split at e
  · rename_i r sp
    cases hx with
    | @ptr _ b c _ hi =>
      obtain ⟨k, o, e1, e2, e3⟩ := hr.blk r b c hi
      rw [e1] at e
      cases e3 with
      | siter s pos =>
        cases str with
        | false => simp at e
        | true =>
          simp only [blt_eq] at e
          have hg := run_getObj (P := P) e2 (by simp)
          by_cases hp : pos < s.size
          · simp only [hp, decide_true, cond_true] at e
            cases e
            have hbr : BR P ρ c (.siter s (pos + (Utf8.decode s pos).2)) (.stringIter s (pos + (Utf8.decode s pos).2)) := .siter _ _
            obtain ⟨o1, o2⟩ := obj_write (P := P) hr hi e1 (by simp [soft]) e2 (by simp) hbr
            refine ⟨.tuple #[.bool true, goInt pos, .int .i32 (Utf8.decode s pos).1], _, ?_, .tuple _ _ (.cons (.bool _) (.cons (.int _ _) (.cons (.int _ _) .nil))), o2⟩
            simp only [Instr.next, Sem.run_bind, hg, Result.andThen_ok, hp, if_true, o1, Sem.run_pure]
          · simp only [hp, decide_false, cond_false] at e
            cases e
            refine ⟨.tuple #[.bool false], w, ?_, .tuple _ _ (.cons (.bool _) .nil), Stp.refl hr⟩
            simp only [Instr.next, Sem.run_bind, hg, Result.andThen_ok, hp, if_false, Sem.run_pure]
      | miterN since seen last =>
        cases str with
        | true => simp at e
        | false =>
          simp only at e; cases e
          have hg := run_getObj (P := P) e2 (by simp)
          refine ⟨.tuple #[.bool false], w, ?_, .tuple _ _ (.cons (.bool _) .nil), Stp.refl hr⟩
          simp only [Instr.next, Sem.run_bind, hg, Result.andThen_ok, Sem.run_pure]
      | @miter m bm cm hm since seen last =>
        cases str with
        | true => simp at e
        | false =>
          simp only at e
          have hg := run_getObj (P := P) e2 (by simp)
          split at e
          · rename_i es clk hgm
            obtain ⟨i, b', c', es', hmi, hmi', hi', e1', e2', hmr⟩ := getMap_sim hr hgm (.map hm)
            cases hmi; cases hmi'
            have hlenE : es.isEmpty = es'.isEmpty := by
              have hl := hmr.length
              cases es' with
              | mk l => cases es <;> cases l <;> simp_all
            cases hcond : (!seen.isEmpty && !es.isEmpty && es.all fun e => Nat.ble last e.2.2) with
            | true => simp [hcond] at e
            | false =>
              simp only [hcond, cond_false] at e
              have hcond' : (!seen.toArray.isEmpty && !es'.isEmpty && es'.all (·.born ≥ last)) = false := by
                rw [← hlenE, ← hcond]
                congr 1
                · simp
                · rw [← Array.all_toList, hmr.all (fun n => decide (n ≥ last))]
                  congr 1
                  funext x
                  rw [ble_eq]
              have hfil := hmr.filter (fun n => !seen.contains n)
              have hleft : (es'.filter fun e => !seen.toArray.contains e.born).toList = es'.toList.filter fun e => !seen.contains e.born := by simp
              split at e
              · rename_i hl
                cases e
                rw [hl] at hfil
                refine ⟨.tuple #[.bool false], w, ?_, .tuple _ _ (.cons (.bool _) .nil), Stp.refl hr⟩
                have hl' : (es'.filter fun e => !seen.toArray.contains e.born) = #[] := by
                  apply Array.ext'
                  rw [hleft]
                  cases hq : es'.toList.filter fun e => !seen.contains e.born with
                  | nil => rfl
                  | cons x l => rw [hq] at hfil; cases hfil
                have hf : (Question.mapNext 1).forced = true := rfl
                simp only [Instr.next, Sem.run_bind, hg, run_getObj_map e2', Result.andThen_ok, hcond', Bool.false_eq_true, if_false, hl']
                simp [hf]
              · rename_i k0 v0 b0 hl
                rw [hl] at hfil
                rw [blt_eq] at e
                by_cases hb0 : b0 < since
                · simp only [hb0, decide_true, cond_true] at e
                  cases e
                  cases hq : es'.toList.filter fun e => !seen.contains e.born with
                  | nil => rw [hq] at hfil; cases hfil
                  | cons x l =>
                    rw [hq] at hfil
                    cases hfil with
                    | cons rk rv t =>
                      cases t
                      rename_i kk vv
                      have hl' : (es'.filter fun e => !seen.toArray.contains e.born) = #[{ key := kk, val := vv, born := b0 }] := by
                        apply Array.ext'
                        rw [hleft, hq]
                      have hf : (Question.mapNext 1).forced = true := rfl
                      have hnb : ¬ b0 ≥ since := by omega
                      have hbr : BR P ρ c (.miter (some m) since (seen ++ [b0]) clk) (.mapIter (some bm) since (seen ++ [b0]).toArray clk) := .miter hm since (seen ++ [b0]) clk
                      obtain ⟨o1, o2⟩ := obj_write (P := P) hr hi e1 (by simp [soft]) e2 (by simp) hbr
                      refine ⟨.tuple #[.bool true, kk, vv], _, ?_, .tuple _ _ (.cons (.bool _) (.cons rk (.cons rv .nil))), o2⟩
                      simp only [Instr.next, Sem.run_bind, hg, run_getObj_map e2', Result.andThen_ok, hcond', Bool.false_eq_true, if_false, hl']
                      simp [hf, hb0, hnb, o1]
                · simp [hb0] at e
              · cases e
          · cases e
      | _ => simp at e
  · cases e

/-! rows -/
theorem lenOf_sim {x x' : Value} {n : Nat} (e : lenOf x = some n) (hx : VR ρ x x') (w : World) : (Builtin.lenOf x').run P w = .ok n w := by
  unfold lenOf at e
  split at e
  · cases e; cases hx <;> simp [Builtin.lenOf]
  · cases e; cases hx; simp [Builtin.lenOf]
  · cases e

theorem base_sim {ρ : Ren} {a : Addr} {n c : Nat} {x' : Value} (hx : VR ρ (.slice (some a) n c) x') :
    (∃ b d c', ρ a.block = some (b, d) ∧ a.spot = none ∧ x' = .slice (some ⟨b, a.off, none⟩) n c') ∨ (n = 0 ∧ c = UNK2 ∧ ∃ a' c', x' = .slice (some a') 0 c') := by
  cases hx with
  | slice off _ _ h hc => exact .inl ⟨_, _, _, h, rfl, rfl⟩
  | sliceU off _ _ h _ _ _ => exact .inl ⟨_, _, _, h, rfl, rfl⟩
  | sliceE _ a' c' => exact .inr ⟨rfl, rfl, a', c', rfl⟩

theorem firstCells_sim (hr : HR P ρ h w) {sz n : Nat} {x x' : Value} {l : List Value} (e : firstCells h sz n x = some l) (hx : VR ρ x x') (hn : ∀ a c, x = .slice a 0 c → n = 0) :
    ∃ l' : List Value, (∀ w2 : World, w2.heap = w.heap → (Builtin.firstCells sz n x').run P w2 = .ok l'.toArray w2) ∧ VRL ρ l l' ∧ l.length = n * sz := by
  unfold firstCells at e
  split at e
  · rename_i a len cap
    rcases base_sim hx with ⟨b, d, c', hb, hs, rfl⟩ | ⟨h0, _, a', c', rfl⟩
    · obtain ⟨bl, off, sp⟩ := a
      simp only at hs; subst hs
      obtain ⟨l', r, hlen, hc⟩ := cellsAt_sim hr hb e
      refine ⟨l', fun w2 hw2 => ?_, r, hlen⟩
      have := run_loadCells_list (P := P) w2 _ l' (fun j v' e => by have := hc j v' e; simpa [World.cell?, hw2] using this)
      rw [← r.length, hlen] at this
      simpa [Builtin.firstCells] using this
    · subst h0
      have := hn _ _ rfl
      subst this
      simp [cellsAt] at e
      subst e
      exact ⟨[], fun w2 _ => by simp [Builtin.firstCells, loadCells, loadCellsFrom], .nil, by simp⟩
  · rename_i len cap
    rw [cond_beq] at e
    split at e
    · rename_i h0
      cases e; cases hx; subst h0
      exact ⟨[], fun w2 _ => by simp [Builtin.firstCells], .nil, by simp⟩
    · cases e
  · rename_i s
    rw [cond_beq] at e
    split at e
    · rename_i h1
      subst h1
      simp only [Option.map_eq_some_iff] at e
      obtain ⟨q, hq, rfl⟩ := e
      obtain ⟨h1, rfl⟩ := takeN_eq _ _ _ hq
      cases hx
      refine ⟨(s.data.toList.take n).map fun b => .int .u8 b.toNat, fun w2 _ => ?_, ?_, ?_⟩
      · simp only [Builtin.firstCells, Sem.run_pure]
        congr 1
        apply Array.ext'
        simp only [Array.toList_map, ByteArray.data_extract, Array.toList_extract, List.extract_eq_take_drop, List.drop_zero, Nat.sub_zero]
      · refine VRL.of_get rfl fun i v hv => ⟨v, hv, ?_⟩
        simp only [List.getElem?_map, Option.map_eq_some_iff] at hv
        obtain ⟨b, _, rfl⟩ := hv
        exact .int _ _
      · simp at h1 ⊢; omega
    · cases e
  · cases e
end
end Go.Ev

namespace Go.Ev
section
variable {P : Program} {E : Env} {ρ : Ren} {h : Heap} {w : World}

theorem nextslicecap_le {need cap : Nat} (hc : cap < need) (hn : need ≤ 100000) : Builtin.nextslicecap need cap ≤ 1000000 := by
  unfold Builtin.nextslicecap
  split
  · omega
  · split
    · omega
    · simp only [Builtin.growBy]
      repeat' split
      all_goals omega

theorem acopy_sim (hE : EnvOK P E) (hr : HR P ρ h w) {ty : TypeId} {ts : Array TypeId} {xs : Array Value} {args : List Value} {v : Value} {h' : Heap} (e : acopy E ts.toList args h = some (v, h')) (hx : VRL ρ args xs.toList) :
    ∃ v' w', (Builtin.copy_ ts ty xs).run P w = .ok v' w' ∧ VR ρ v v' ∧ Stp P ρ h w ρ h' w' := by
  unfold acopy at e
  split at e
  · rename_i t ts0 base dl dc x xs0 hts
    have ht : ts[0]? = some t := by
      have : ts.toList[0]? = some t := by rw [hts]; rfl
      simpa using this
    split at e
    · rename_i elem hu
      have hu := hE.und hu (by simp)
      split at e
      · rename_i sz m hs hm
        obtain ⟨d', hd0, rd⟩ := hx.get 0 _ rfl
        obtain ⟨x', hx0, rx⟩ := hx.get 1 _ rfl
        have hd0 : xs[0]? = some d' := by simpa using hd0
        have hx0 : xs[1]? = some x' := by simpa using hx0
        split at e
        · rename_i l hl
          obtain ⟨l', hrun0, rl, hlen⟩ := firstCells_sim hr hl rx (fun a c hh => by subst hh; simp [lenOf] at hm; omega)
          have hrun := hrun0 w rfl
          have hlo := lenOf_sim (P := P) hm rx w
          split at e
          · rename_i a
            cases hall : l.all Ev.oneCell with
            | false => simp [hall] at e
            | true =>
              simp only [hall, cond_true, Option.map_eq_some_iff, Prod.mk.injEq] at e
              obtain ⟨h1, hw, rfl, rfl⟩ := e
              rcases base_sim rd with ⟨b, d, c', hb, hsp, rfl⟩ | ⟨h0, _, a', c', rfl⟩
              · obtain ⟨bl, off, sp⟩ := a
                simp only at hsp; subst hsp
                obtain ⟨w', hst, hstp⟩ := writeCells_sim hr hb hw rl hall
                refine ⟨goInt ((min m dl : Nat) : Int), w', ?_, .int _ _, hstp⟩
                have hmin : Nat.min m dl = min m dl := rfl
                simp only [Builtin.copy_, ht, hd0, hx0, Sem.run_bind, run_underlying hu, Result.andThen_ok, hlo, hE.run_size hs, hmin, hrun, hst, Sem.run_pure]
              · subst h0
                have hl0 : l = [] := by
                  have : l.length = 0 := by rw [hlen]; simp
                  exact List.length_eq_zero_iff.1 this
                subst hl0
                cases rl
                have : h1 = h := by
                  unfold writeCells at hw
                  split at hw
                  · cases hw
                  · cases hw; rfl
                subst this
                refine ⟨goInt ((min m 0 : Nat) : Int), w, ?_, .int _ _, Stp.refl hr⟩
                have hmin : Nat.min m 0 = min m 0 := rfl
                simp only [Builtin.copy_, ht, hd0, hx0, Sem.run_bind, run_underlying hu, Result.andThen_ok, hlo, hE.run_size hs, hmin, hrun, Sem.run_pure, storeCells]
          · cases e
            cases rd
            refine ⟨goInt ((min m dl : Nat) : Int), w, ?_, .int _ _, Stp.refl hr⟩
            have hmin : Nat.min m dl = min m dl := rfl
            simp only [Builtin.copy_, ht, hd0, hx0, Sem.run_bind, run_underlying hu, Result.andThen_ok, hlo, hE.run_size hs, hmin, hrun, Sem.run_pure]
        · cases e
      · cases e
    · cases e
  · cases e

/-- what is appended: the cells of a row or a text, or noughts -/
inductive App (P : Program) (w : World) (elem : TypeId) (sz : Nat) (xt : TypeId) (x' : Value) (n : Nat) (new : List Value) : Prop
  | seq (dx : TypeDesc) (hux : P.underlying xt = some dx) (hsq : isSeq dx = true) (hlo : (Builtin.lenOf x').run P w = .ok n w)
      (hnew : ∀ w2 : World, w2.heap = w.heap → (Builtin.firstCells sz n x').run P w2 = .ok new.toArray w2)
  | made (k k' : IntKind) (l : Int) (info : TypeInfo) (z : Value) (hux : P.underlying xt = some (.int k)) (hx : x' = .int k' l) (h0 : 0 ≤ l) (hl : l ≤ 100000) (hn : n = l.toNat)
      (hi : P.info? elem = some info) (hz : info.zero = some z) (hb : info.bytes ≤ 10000) (hzs : z.cells.size = sz) (hz0 : sz ≠ 0) (hnew : new = rep n z.cells.toList)

/-- what append comes to where it fits -/
theorem run_append_fits {ty : TypeId} {ts : Array TypeId} {xs : Array Value} {st xt elem : TypeId} {base : Option Addr} {sl sc n sz : Nat} {x' : Value} {new : List Value} {w' : World}
    (ht : ts[0]? = some st) (hxt : ts[1]? = some xt) (h0 : xs[0]? = some (.slice base sl sc)) (h1 : xs[1]? = some x') (hu : P.underlying st = some (.slice elem))
    (hs : ∀ w : World, (sizeOf elem).run P w = .ok sz w) (happ : App P w elem sz xt x' n new) (hfit : sl + n ≤ sc)
    (hst : (match base with | some a => storeCells (a.add (sl * sz)) new | none => pure () : Sem Unit).run P w = .ok () w') :
    (Builtin.append_ ts ty xs).run P w = .ok (.slice base (sl + n) sc) w' := by
  cases happ with
  | seq dx hux hsq hlo hnew =>
    have hnew := hnew w rfl
    cases dx <;> simp only [isSeq, Bool.false_eq_true] at hsq
    all_goals
      simp only [Builtin.append_, ht, hxt, h0, h1, Sem.run_bind, run_underlying hu, run_underlying hux, Result.andThen_ok, hs, Sem.run_pure, Bool.false_eq_true, if_false, hlo, Bool.not_false, if_true, hfit, hnew]
      cases base with
      | none => simp at hst; simp [hst]
      | some a => simp only at hst; simp [hst]
  | made k k' l info z hux hx hl0 hl hn hi hz hb hzs hz0 hnew =>
    subst hx hn
    have hw : IntKind.wrap .i64 l = l := by rw [IntKind.wrap_i64]; omega
    have hti : ∀ w : World, (typeInfo elem).run P w = .ok info w := fun w => Go.run_typeInfo w hi
    have hzr : ∀ w : World, (zeroValue elem).run P w = .ok z w := fun w => by simp [zeroValue, Go.run_typeInfo w hi, hz]
    have hlb : ¬ l * (info.bytes : Int) > 2 ^ 48 := by
      have : l * (info.bytes : Int) ≤ 100000 * 10000 := Int.mul_le_mul hl (by omega) (by omega) (by omega)
      omega
    have hzc : Builtin.zeroCells z.cells l.toNat = new.toArray := by
      apply Array.ext'
      rw [hnew, ← rep_zero z.cells l.toNat (by omega)]
      rfl
    simp only [Builtin.append_, ht, hxt, h0, h1, Sem.run_bind, run_underlying hu, run_underlying hux, Result.andThen_ok, hs, Sem.run_pure, Bool.not_true, Bool.false_eq_true, if_false, if_true, asInt, asIntOf, hw,
      Sem.run_ite, hti, hlb, show ¬ l < 0 by omega, hfit, hzr, hzc]
    by_cases hn0 : l.toNat * sz = 0
    · have : new = [] := by
        have : l.toNat = 0 := by rcases Nat.mul_eq_zero.1 hn0 with h | h <;> omega
        rw [hnew, this]; rfl
      subst this
      simp only [hn0, if_true, Sem.run_pure, Result.andThen_ok]
      cases base with
      | none => simp at hst; simp [hst]
      | some a => simp only at hst; simp [hst]
    · simp only [hn0, if_false, Sem.run_pure, Result.andThen_ok]
      cases base with
      | none => simp at hst; simp [hst]
      | some a => simp only at hst; simp [hst]

/-- what it comes to where it does not -/
theorem run_append_grows {ty : TypeId} {ts : Array TypeId} {xs : Array Value} {st xt elem : TypeId} {base : Option Addr} {sl sc n sz : Nat} {x' : Value} {old new : List Value} {info : TypeInfo} {z : Value}
    (ht : ts[0]? = some st) (hxt : ts[1]? = some xt) (h0 : xs[0]? = some (.slice base sl sc)) (h1 : xs[1]? = some x') (hu : P.underlying st = some (.slice elem))
    (hi : P.info? elem = some info) (hsz : info.size = sz) (hz : info.zero = some z) (hzs : z.cells.size = sz) (hby : info.bytes ≤ 10000) (hneed : sl + n ≤ 100000)
    (hfit : ¬ sl + n ≤ sc)
    (hold : ∀ w2 : World, w2.heap = w.heap → (Builtin.firstCells sz sl (.slice base sl sc)).run P w2 = .ok old.toArray w2) (happ : App P w elem sz xt x' n new) (hn0 : n * sz ≠ 0)
    (hol : old.length = sl * sz) (hnl : new.length = n * sz) :
    ∃ (cap : Nat) (d : Nat) (cells : Array Value), sl + n ≤ cap ∧ cells.size = cap * sz ∧ (∀ (i : Nat) (v : Value), (old ++ new)[i]? = some v → cells[i]? = some v) ∧
      (Builtin.append_ ts ty xs).run P w = .ok (.slice (some ⟨w.heap.size, 0, none⟩) (sl + n) cap) { w with drawn := d, heap := w.heap.push (.cells cells elem (0, 0)) } := by
  have hcap := nextslicecap_le (need := sl + n) (cap := sc) (by omega) hneed
  have hlim : ¬ Builtin.nextslicecap (sl + n) sc * info.bytes > 2 ^ 48 := by
    have : Builtin.nextslicecap (sl + n) sc * info.bytes ≤ 1000000 * 10000 := Nat.mul_le_mul hcap hby
    omega
  have hsr : ∀ w : World, (sizeOf elem).run P w = .ok sz w := fun w => by simp [sizeOf, Go.run_typeInfo w hi, hsz]
  have hzr : ∀ w : World, (zeroValue elem).run P w = .ok z w := fun w => by simp [zeroValue, Go.run_typeInfo w hi, hz]
  have hforced : (Question.appendCap (sl + n) sc elem).forced = false := rfl
  let cap := (Question.appendCap (sl + n) sc elem).cut (w.tape w.drawn (Question.appendCap (sl + n) sc elem))
  have hge : sl + n ≤ cap := by simp only [cap, Question.cut]; omega
  refine ⟨cap, w.drawn + 1, old.toArray ++ new.toArray ++ Builtin.zeroCells z.cells (cap - (sl + n)), hge, ?_, ?_, ?_⟩
  · simp only [Array.size_append, List.size_toArray, hol, hnl, size_zeroCells, hzs, ← Nat.add_mul]
    congr 1; omega
  · intro i v hv
    have := (List.getElem?_eq_some_iff.1 hv).1
    rw [Array.getElem?_append_left (by simpa using this)]
    rw [← List.getElem?_toArray] at hv
    simpa using hv
  · have hneg : ¬ (((sl + n : Nat) : Int) > IntKind.i64.max ∧ (False ∨ info.bytes = 0)) := by
      intro hh
      have := hh.1
      rw [IntKind.max_i64] at this
      omega
    have hti : ∀ w : World, (typeInfo elem).run P w = .ok info w := fun w => Go.run_typeInfo w hi
    have ho := hold { w with drawn := w.drawn + 1 } rfl
    have hrun : (choose (.appendCap (sl + n) sc elem)).run P w = .ok cap { w with drawn := w.drawn + 1 } := by
      rw [run_choose, hforced]; rfl
    cases happ with
    | seq dx hux hsq hlo hnew =>
      have hn := hnew { w with drawn := w.drawn + 1 } rfl
      cases dx <;> simp only [isSeq, Bool.false_eq_true] at hsq
      all_goals
        simp only [Builtin.append_, ht, hxt, h0, h1, Sem.run_bind, run_underlying hu, run_underlying hux, Result.andThen_ok, hsr, Sem.run_pure, Bool.false_eq_true, if_false, hlo, Bool.not_false, if_true, hfit, hti,
          Sem.run_ite, hneg, hlim, hrun, run_askRoom, ho, hn, hzr, newRow, run_newObj]
    | made k k' l info' z' hux hx hl0 hl hn hi' hz' hb hzs' hz0 hnew =>
      cases hi.symm.trans hi'
      cases hz.symm.trans hz'
      subst hx hn
      have hw : IntKind.wrap .i64 l = l := by rw [IntKind.wrap_i64]; omega
      have hlb : ¬ l * (info.bytes : Int) > 2 ^ 48 := by
        have : l * (info.bytes : Int) ≤ 100000 * 10000 := Int.mul_le_mul hl (by omega) (by omega) (by omega)
        omega
      have hzc : Builtin.zeroCells z.cells l.toNat = new.toArray := by
        apply Array.ext'
        rw [hnew, ← rep_zero z.cells l.toNat (by omega)]
        rfl
      have hneg' : ¬ (((sl + l.toNat : Nat) : Int) > IntKind.i64.max) := by rw [IntKind.max_i64]; omega
      simp only [Builtin.append_, ht, hxt, h0, h1, Sem.run_bind, run_underlying hu, run_underlying hux, Result.andThen_ok, hsr, Sem.run_pure, Bool.not_true, Bool.false_eq_true, if_false, if_true, asInt, asIntOf, hw,
        Sem.run_ite, hti, hlb, show ¬ l < 0 by omega, hfit, hneg', false_and, hlim, hrun, run_askRoom, ho, hn0, hzr, hzc, newRow, run_newObj]
end
end Go.Ev

namespace Go.Ev
section
variable {P : Program} {E : Env} {ρ : Ren} {h : Heap} {w : World}

theorem rep_length {α : Type} (l : List α) : ∀ n, (rep n l).length = n * l.length
  | 0 => by simp [rep]
  | n + 1 => by rw [rep, List.length_append, rep_length l n, Nat.succ_mul, Nat.add_comm]

theorem cells_ge {cs : List Value} {xs : Array Value} (hc : ∀ (i : Nat) (v : Value), cs[i]? = some v → ∃ v', xs[i]? = some v' ∧ VR ρ v v') : cs.length ≤ xs.size := by
  by_cases hz : cs.length = 0
  · omega
  · obtain ⟨v', e', _⟩ := hc (cs.length - 1) _ (List.getElem?_eq_getElem (by omega))
    have := (Array.getElem?_eq_some_iff.1 e').1
    omega

theorem appendRow_sim (hE : EnvOK P E) (hr : HR P ρ h w) {ty : TypeId} {ts : Array TypeId} {xs : Array Value} {st xt elem : TypeId} {sz : Nat} {info : TypeInfo} {z : Value} {base : Option Addr} {sl sc n : Nat} {x' s' : Value} {new new' : List Value} {v : Value} {h' : Heap}
    (e : appendRow h elem sz base sl sc n new = some (v, h'))
    (ht : ts[0]? = some st) (hxt : ts[1]? = some xt) (h0 : xs[0]? = some s') (h1 : xs[1]? = some x') (hu : P.underlying st = some (.slice elem))
    (i1 : P.info? elem = some info) (i3 : info.size = sz) (hzz : info.zero = some z) (g1 : ¬ sz = 0) (g2' : z.cells.size = sz) (g3 : info.bytes ≤ 10000) (g4 : sl + n ≤ 100000) (hn : ¬ n = 0)
    (rs : VR ρ (.slice base sl sc) s') (happ : App P w elem sz xt x' n new') (rnew : VRL ρ new new') (hnl : new.length = n * sz) (hall : new.all Ev.oneCell = true) :
    ∃ v' ρ' w', (Builtin.append_ ts ty xs).run P w = .ok v' w' ∧ VR ρ' v v' ∧ Stp P ρ h w ρ' h' w' := by
  have hs : ∀ w : World, (sizeOf elem).run P w = .ok sz w := fun w => by simp [sizeOf, Go.run_typeInfo w i1, i3]
  have hcell : P.cellsOf elem = sz := by simp [Program.cellsOf, i1, i3]
  have hn0 : n * sz ≠ 0 := Nat.mul_ne_zero hn g1
  unfold appendRow at e
  rw [cond_beq] at e
  by_cases hc2 : sc = UNK2
  · rw [if_pos hc2] at e; cases e
  rw [if_neg hc2, cond_beq] at e
  by_cases hc1 : sc = UNK
  · -- a row that grew
    rw [if_pos hc1] at e
    subst hc1
    split at e
    case h_2 => cases e
    rename_i bi
    split at e
    case h_2 => cases e
    rename_i cs el hk
    rw [cond_beq] at e
    by_cases hel : el = elem
    case neg => rw [if_neg hel] at e; cases e
    rw [if_pos hel] at e
    subst hel
    cases rs with
    | slice _ _ _ _ hlt => exact absurd hlt (Nat.lt_irrefl _)
    | @sliceU _ b c _ _ cap hi' hlu hl hcap =>
      have hcap := hcap rfl
      subst hcap
      obtain ⟨k, o, e1, e2, e3⟩ := hr.blk bi b cap hi'
      rw [hk] at e1; cases e1
      cases e3 with
      | cells _ ys _ _ hcc hss =>
        simp only [Bool.false_eq_true, if_false] at hss
        rw [hcell] at hss
        have hge := cells_ge hcc
        rw [ble_eq] at e
        by_cases hfit : (sl + n) * sz ≤ cs.length
        · -- it surely fits
          simp only [hfit, decide_true, cond_true, Option.map_eq_some_iff, Prod.mk.injEq] at e
          obtain ⟨h2, hw, rfl, rfl⟩ := e
          obtain ⟨w', hst, hstp⟩ := writeCells_sim hr hi' hw rnew hall
          have hle : sl + n ≤ cap := by
            have : (sl + n) * sz ≤ cap * sz := by omega
            exact Nat.le_of_mul_le_mul_right this (by omega)
          have := run_append_fits (ty := ty) (w' := w') ht hxt h0 h1 hu hs happ hle (by simp only [Addr.add_lit, Nat.zero_add]; exact hst)
          exact ⟨_, ρ, w', this, .sliceU 0 _ _ hi' (Nat.lt_of_le_of_lt g4 (by decide)) hle (fun _ => rfl), hstp⟩
        · simp only [hfit, decide_false, cond_false, cond_beq] at e
          by_cases hend : sl * sz = cs.length
          case neg => rw [if_neg hend] at e; cases e
          rw [if_pos hend] at e
          cases e
          by_cases hroom : sl + n ≤ cap
          · -- there was room
            have hlen2 : new'.length = n * sz := by rw [← rnew.length, hnl]
            have hfit2 : sl * sz + new'.length ≤ ys.size := by
              rw [hlen2, ← Nat.add_mul, hss]; exact Nat.mul_le_mul_right _ hroom
            have hrun := run_storeCells_at (P := P) b (sl * sz) el new' 0 ys w e2 (by omega) (rnew.oneCell hall)
            simp only [Nat.add_zero] at hrun
            have := run_append_fits (ty := ty) ht hxt h0 h1 hu hs happ hroom (by simp only [Addr.add_lit, Nat.zero_add]; exact hrun)
            refine ⟨_, ρ.upd h.n (b, cap), _, this, .sliceU 0 _ _ (Ren.upd_same _ _ _) (Nat.lt_of_le_of_lt g4 (by decide)) hroom (fun _ => rfl), ?_⟩
            refine Stp.grown hr hi' hk (by simp [soft]) (o' := .cells (ys.toList.take (sl * sz) ++ new' ++ ys.toList.drop (sl * sz + new'.length)).toArray el (0, 0)) ?_ ?_ (setRow_heap w b ys _ el (0, 0) e2) (fun j hj => setRow_other w b j _ hj) rfl rfl rfl
            · refine .cells _ _ _ _ (fun j v hv => ?_) ?_
              · have hog := over_get (cs := ys.toList) (xs := new') (off := sl * sz) rfl (by simpa using hfit2) j
                simp only [List.getElem?_toArray]
                rw [hog]
                rw [List.getElem?_append] at hv
                by_cases a1 : j < cs.length
                · rw [if_pos a1] at hv
                  rw [if_pos (by omega)]
                  obtain ⟨v', e', r⟩ := hcc j v hv
                  exact ⟨v', by simpa using e', r⟩
                · rw [if_neg a1] at hv
                  rw [if_neg (by omega)]
                  have hj := (List.getElem?_eq_some_iff.1 hv).1
                  rw [if_pos (by rw [← rnew.length]; omega), hend]
                  exact rnew.get _ _ hv
              · simp only [Bool.false_eq_true, if_false]
                rw [hcell, ← hss]
                simp; omega
            · simp [World.setRow]
          · -- there was none
            have hkill := Stp.kill hr hi' (by rw [hk]; simp [soft])
            have hold : ∀ w2 : World, w2.heap = w.heap → (Builtin.firstCells sz sl (.slice (some ⟨b, 0, none⟩) sl cap)).run P w2 = .ok (ys.toList.take cs.length).toArray w2 := by
              intro w2 hw2
              have hcl : ∀ (j : Nat) (v' : Value), (ys.toList.take cs.length)[j]? = some v' → w2.cell? ((⟨b, 0, none⟩ : Addr).add j) = some v' := by
                intro j v' hv
                have hj := (List.getElem?_eq_some_iff.1 hv).1
                have hj : j < cs.length := by simp at hj; omega
                rw [List.getElem?_take_of_lt hj] at hv
                rw [Addr.add_lit, cell_of (by rw [hw2]; exact e2)]
                simpa using hv
              have := run_loadCells_list (P := P) w2 _ _ hcl
              have hlen3 : (ys.toList.take cs.length).length = sl * sz := by simp; omega
              rw [hlen3] at this
              simpa [Builtin.firstCells] using this
            obtain ⟨cap', d, cells, k1, k2, k3, k4⟩ := run_append_grows (ty := ty) ht hxt h0 h1 hu i1 i3 hzz g2' g3 g4 hroom hold happ hn0 (by simp; omega) (by rw [← rnew.length, hnl])
            have hbr : BR P ρ cap' (.cells (cs ++ new) el false) (.cells cells el (0, 0)) := by
              refine .cells _ _ _ _ (fun j v hv => ?_) (by simp only [Bool.false_eq_true, if_false]; rw [hcell, k2])
              have hold3 : VRL ρ cs (ys.toList.take cs.length) := VRL.of_get (by simp; omega) fun j v hv => by
                obtain ⟨v', e', r⟩ := hcc j v hv
                have hj := (List.getElem?_eq_some_iff.1 hv).1
                exact ⟨v', by rw [List.getElem?_take_of_lt hj]; simpa using e', r⟩
              obtain ⟨v', e', r⟩ := (hold3.append rnew).get j v hv
              exact ⟨v', k3 j v' e', r⟩
            refine ⟨_, ρ.upd h.n (w.heap.size, cap'), _, k4, .sliceU 0 _ _ (Ren.upd_same _ _ _) (Nat.lt_of_le_of_lt g4 (by decide)) k1 (fun _ => rfl), hkill.trans ?_⟩
            exact Stp.alloc hkill.hr hbr rfl rfl rfl rfl
  · -- the capacity is known
    rw [if_neg hc1, ble_eq] at e
    by_cases hfit : sl + n ≤ sc
    · simp only [hfit, decide_true, cond_true] at e
      split at e
      case h_2 => cases e
      rename_i bi off
      simp only [Option.map_eq_some_iff, Prod.mk.injEq] at e
      obtain ⟨h2, hw, rfl, rfl⟩ := e
      cases rs with
      | sliceU _ _ _ _ _ _ _ => exact (hc1 rfl).elim
      | sliceE _ _ _ => exact (hc2 rfl).elim
      | @slice _ b c _ _ _ hi' hlt =>
        obtain ⟨w', hst, hstp⟩ := writeCells_sim hr hi' hw rnew hall
        have := run_append_fits (ty := ty) (w' := w') ht hxt h0 h1 hu hs happ hfit (by simp only [Addr.add_lit]; exact hst)
        exact ⟨_, ρ, w', this, .slice _ _ _ hi' hlt, hstp⟩
    · simp only [hfit, decide_false, cond_false] at e
      split at e
      case h_2 => cases e
      rename_i old hold
      cases e
      have hlt : ∀ sc' : Nat, (∃ b, s' = .slice b sl sc') → sc' = sc := by
        intro sc' hh
        obtain ⟨b, rfl⟩ := hh
        cases rs <;> first | rfl | exact (hc1 rfl).elim | exact (hc2 rfl).elim
      have hform : ∃ b, s' = .slice b sl sc := by
        cases rs <;> first | exact ⟨_, rfl⟩ | exact (hc1 rfl).elim | exact (hc2 rfl).elim
      obtain ⟨b, rfl⟩ := hform
      have hol : ∀ a c, Value.slice base sl sc = .slice a 0 c → sl = 0 := fun a c hh => by injection hh
      obtain ⟨old', hold2, rold, hoL⟩ := firstCells_sim hr hold rs hol
      obtain ⟨cap', d, cells, k1, k2, k3, k4⟩ := run_append_grows (ty := ty) ht hxt h0 h1 hu i1 i3 hzz g2' g3 g4 hfit hold2 happ hn0 (by rw [← rold.length, hoL]) (by rw [← rnew.length, hnl])
      have hbr : BR P ρ cap' (.cells (old ++ new) elem false) (.cells cells elem (0, 0)) := by
        refine .cells _ _ _ _ (fun j v hv => ?_) (by simp only [Bool.false_eq_true, if_false]; rw [hcell, k2])
        obtain ⟨v', e', r⟩ := (rold.append rnew).get j v hv
        exact ⟨v', k3 j v' e', r⟩
      exact ⟨_, ρ.upd h.n (w.heap.size, cap'), _, k4, .sliceU 0 _ _ (Ren.upd_same _ _ _) (Nat.lt_of_le_of_lt g4 (by decide)) k1 (fun _ => rfl), Stp.alloc hr hbr rfl rfl rfl rfl⟩

theorem aappend_sim (hE : EnvOK P E) (hr : HR P ρ h w) {ty : TypeId} {ts : Array TypeId} {xs : Array Value} {args : List Value} {v : Value} {h' : Heap} (e : aappend E ts.toList args h = some (v, h')) (hx : VRL ρ args xs.toList) :
    ∃ v' ρ' w', (Builtin.append_ ts ty xs).run P w = .ok v' w' ∧ VR ρ' v v' ∧ Stp P ρ h w ρ' h' w' := by
  unfold aappend at e
  split at e
  case h_2 => cases e
  rename_i st xt ts0 base sl sc x xs0 hts
  have ht : ts[0]? = some st := by
    have : ts.toList[0]? = some st := by rw [hts]; rfl
    simpa using this
  have hxt : ts[1]? = some xt := by
    have : ts.toList[1]? = some xt := by rw [hts]; rfl
    simpa using this
  split at e
  case h_3 => cases e
  case h_2 =>
    rename_i elem hu hux
    have hu := hE.und hu (by simp)
    unfold aappendZ at e
    split at e
    case h_2 => cases e
    rename_i k k' l i hux2 hi
    have hux2 := hE.und hux2 (by simp)
    split at e
    case h_2 => cases e
    rename_i z hz
    obtain ⟨info, i1, i2, i3, i4, i5, i6, i7⟩ := hE.tab elem i hi
    have hzz := i6 z hz
    obtain ⟨s', h0, rs⟩ := hx.get 0 _ rfl
    obtain ⟨x', h1, rx⟩ := hx.get 1 _ rfl
    have h0 : xs[0]? = some s' := by simpa using h0
    have h1 : xs[1]? = some x' := by simpa using h1
    cases rx
    by_cases hg : 0 ≤ l ∧ l ≤ 100000 ∧ ¬ i.size = 0 ∧ z.cells.toList.length = i.size ∧ i.bytes ≤ 10000 ∧ sl + l.toNat ≤ 100000 ∧ (sl ≤ sc ∨ ¬ l.toNat = 0)
    case neg =>
      exfalso
      have : (decide (0 ≤ l) && decide (l ≤ 100000) && !Nat.beq i.size 0 && Nat.beq z.cells.toList.length i.size && Nat.ble i.bytes 10000 && Nat.ble (sl + l.toNat) 100000 && (Nat.ble sl sc || !Nat.beq l.toNat 0)) = false := by
        rw [Bool.eq_false_iff]; intro hh
        simp only [beq_eq', ble_eq, Bool.and_eq_true, Bool.or_eq_true, Bool.not_eq_true', decide_eq_true_eq, decide_eq_false_iff_not] at hh
        exact hg ⟨hh.1.1.1.1.1.1, hh.1.1.1.1.1.2, hh.1.1.1.1.2, hh.1.1.1.2, hh.1.1.2, hh.1.2, hh.2⟩
      rw [this] at e; cases e
    obtain ⟨l0, l1, g1, g2, g3, g4, g5⟩ := hg
    have g2' : z.cells.size = i.size := by simpa using g2
    have hgt : (decide (0 ≤ l) && decide (l ≤ 100000) && !Nat.beq i.size 0 && Nat.beq z.cells.toList.length i.size && Nat.ble i.bytes 10000 && Nat.ble (sl + l.toNat) 100000 && (Nat.ble sl sc || !Nat.beq l.toNat 0)) = true := by
      simp only [beq_eq', ble_eq, Bool.and_eq_true, Bool.or_eq_true, Bool.not_eq_true', decide_eq_true_eq, decide_eq_false_iff_not]
      exact ⟨⟨⟨⟨⟨⟨l0, l1⟩, g1⟩, g2⟩, g3⟩, g4⟩, g5⟩
    rw [hgt, cond_true, cond_beq] at e
    have hs : ∀ w : World, (sizeOf elem).run P w = .ok i.size w := fun w => by simp [sizeOf, Go.run_typeInfo w i1, i3]
    have happ : App P w elem i.size xt (.int k' l) l.toNat (rep l.toNat z.cells.toList) :=
      .made k k' l info z hux2 rfl l0 l1 rfl i1 hzz.1 (by rw [i4]; exact g3) g2' g1 rfl
    by_cases hn : l.toNat = 0
    · rw [if_pos hn] at e
      cases e
      have g5 : sl ≤ sc := g5.resolve_right (by simp [hn])
      rw [hn] at happ
      have fin : ∀ (b : Option Addr) (cap : Nat), s' = .slice b sl cap → sl ≤ cap → ∃ v' ρ' w', (Builtin.append_ ts ty xs).run P w = .ok v' w' ∧ VR ρ' (.slice base sl sc) v' ∧ Stp P ρ h w ρ' h w' := by
        intro b cap hs' hle
        subst hs'
        have := run_append_fits (ty := ty) (w' := w) ht hxt h0 h1 hu hs happ (by omega) (by cases b <;> simp [storeCells, rep])
        exact ⟨_, ρ, w, this, rs, Stp.refl hr⟩
      cases rs with
      | nilslice _ _ _ => exact fin _ _ rfl g5
      | slice _ _ _ _ _ => exact fin _ _ rfl g5
      | sliceU _ _ _ _ _ hl _ => exact fin _ _ rfl hl
      | sliceE _ _ _ => exact fin _ _ rfl (Nat.zero_le _)
    rw [if_neg hn] at e
    cases hall : (rep l.toNat z.cells.toList).all Ev.oneCell with
    | false => simp [hall] at e
    | true =>
    simp only [hall, cond_true] at e
    have rnew : VRL ρ (rep l.toNat z.cells.toList) (rep l.toNat z.cells.toList) := by
      have : ∀ n, VRL ρ (rep n z.cells.toList) (rep n z.cells.toList) := by
        intro n
        induction n with
        | zero => exact .nil
        | succ n ih => exact ((VR.const ρ hzz.2).cells).append ih
      exact this _
    exact appendRow_sim hE hr e ht hxt h0 h1 hu i1 i3 hzz.1 g1 g2' (by rw [i4]; exact g3) g4 hn rs happ rnew (by rw [rep_length, g2]) hall
  rename_i elem hu hux
  have hu := hE.und hu (by simp)
  simp only [Option.map_eq_some_iff] at hux
  obtain ⟨dx, hux, hsq⟩ := hux
  have hux := hE.und hux (by intro hh; subst hh; simp [isSeq] at hsq)
  split at e
  case h_2 => cases e
  rename_i i n hi hm
  split at e
  case h_2 => cases e
  rename_i z hz
  obtain ⟨info, i1, i2, i3, i4, i5, i6, i7⟩ := hE.tab elem i hi
  have hzz := i6 z hz
  obtain ⟨s', h0, rs⟩ := hx.get 0 _ rfl
  obtain ⟨x', h1, rx⟩ := hx.get 1 _ rfl
  have h0 : xs[0]? = some s' := by simpa using h0
  have h1 : xs[1]? = some x' := by simpa using h1
  have hlo := lenOf_sim (P := P) hm rx w
  have hs : ∀ w : World, (sizeOf elem).run P w = .ok i.size w := fun w => by simp [sizeOf, Go.run_typeInfo w i1, i3]
  have hcell : P.cellsOf elem = i.size := by simp [Program.cellsOf, i1, i3]
  by_cases hg : ¬ i.size = 0 ∧ z.cells.toList.length = i.size ∧ i.bytes ≤ 10000 ∧ sl + n ≤ 100000 ∧ (sl ≤ sc ∨ ¬ n = 0)
  case neg =>
    exfalso
    have : (!Nat.beq i.size 0 && Nat.beq z.cells.toList.length i.size && Nat.ble i.bytes 10000 && Nat.ble (sl + n) 100000 && (Nat.ble sl sc || !Nat.beq n 0)) = false := by
      rw [Bool.eq_false_iff]; intro hh
      simp only [beq_eq', ble_eq, Bool.and_eq_true, Bool.or_eq_true, Bool.not_eq_true', decide_eq_true_eq, decide_eq_false_iff_not] at hh
      exact hg ⟨hh.1.1.1.1, hh.1.1.1.2, hh.1.1.2, hh.1.2, hh.2⟩
    rw [this] at e; cases e
  obtain ⟨g1, g2, g3, g4, g5⟩ := hg
  have g2' : z.cells.size = i.size := by simpa using g2
  have hgt : (!Nat.beq i.size 0 && Nat.beq z.cells.toList.length i.size && Nat.ble i.bytes 10000 && Nat.ble (sl + n) 100000 && (Nat.ble sl sc || !Nat.beq n 0)) = true := by
    simp only [beq_eq', ble_eq, Bool.and_eq_true, Bool.or_eq_true, Bool.not_eq_true', decide_eq_true_eq, decide_eq_false_iff_not]
    exact ⟨⟨⟨⟨g1, g2⟩, g3⟩, g4⟩, g5⟩
  rw [hgt, cond_true, cond_beq] at e
  by_cases hn : n = 0
  · -- nothing is appended
    rw [if_pos hn] at e
    cases e
    subst hn
    have g5 : sl ≤ sc := g5.resolve_right (by simp)
    have hnew : ∀ w : World, (Builtin.firstCells i.size 0 x').run P w = .ok [].toArray w := by
      intro w
      unfold lenOf at hm
      split at hm
      · cases hm
        cases rx <;> simp [Builtin.firstCells, loadCells, loadCellsFrom]
      · cases rx
        simp [Builtin.firstCells]
      · cases hm
    have fin : ∀ (b : Option Addr) (cap : Nat), s' = .slice b sl cap → sl ≤ cap → ∃ v' ρ' w', (Builtin.append_ ts ty xs).run P w = .ok v' w' ∧ VR ρ' (.slice base sl sc) v' ∧ Stp P ρ h w ρ' h w' := by
      intro b cap hs' hle
      subst hs'
      have := run_append_fits (ty := ty) (w' := w) (new := []) ht hxt h0 h1 hu hs (.seq _ hux hsq hlo fun w2 hw2 => hnew w2) (by omega) (by cases b <;> simp [storeCells])
      exact ⟨_, ρ, w, this, rs, Stp.refl hr⟩
    cases rs with
    | nilslice _ _ _ => exact fin _ _ rfl g5
    | slice _ _ _ _ _ => exact fin _ _ rfl g5
    | sliceU _ _ _ _ _ hl _ => exact fin _ _ rfl hl
    | sliceE _ _ _ => exact fin _ _ rfl (Nat.zero_le _)
  rw [if_neg hn] at e
  split at e
  case h_2 => cases e
  rename_i new hnewA
  have hnx : ∀ a c, x = .slice a 0 c → n = 0 := fun a c hh => by subst hh; simp [lenOf] at hm; omega
  obtain ⟨new', hnew2, rnew, hnl⟩ := firstCells_sim hr hnewA rx hnx
  have hnew := hnew2 w rfl
  cases hall : new.all Ev.oneCell with
  | false => simp [hall] at e
  | true =>
  simp only [hall, cond_true] at e
  exact appendRow_sim hE hr e ht hxt h0 h1 hu i1 i3 hzz.1 g1 g2' (by rw [i4]; exact g3) g4 hn rs (.seq _ hux hsq hlo hnew2) rnew hnl hall

theorem act_sim (hE : EnvOK P E) {fr : Fr} {a : Act} {o : Oper} {v : Value} {h' : Heap} (hf : FR E ρ fr a) (hr : HR P ρ h w) (e : actOp E fr o h = some (v, h')) :
    ActOK P ρ h w (execOp a.eval o) v h' := by
  unfold actOp at e
  split at e
  · rename_i t x y ho
    split at e
    · rename_i u1 u2 h1 h2
      simp only [Option.map_eq_some_iff, Prod.mk.injEq] at e
      obtain ⟨h3, e, rfl, rfl⟩ := e
      obtain ⟨w', hrun, hst⟩ := storeAt_sim hE hr e (ev_sim hf h1) (ev_sim hf h2)
      exact ⟨.skip, undef, ρ, w', by simp [execOp, ho, hrun], rfl, VR.undef ρ, hst⟩
    · cases e
  · rename_i t m k x ho
    split at e
    · rename_i u1 u2 u3 h1 h2 h3
      simp only [Option.map_eq_some_iff, Prod.mk.injEq] at e
      obtain ⟨h4, e, rfl, rfl⟩ := e
      obtain ⟨w', hrun, hst⟩ := amapUpdate_sim hE hr e (ev_sim hf h1) (ev_sim hf h2) (ev_sim hf h3)
      exact ⟨.skip, undef, ρ, w', by simp [execOp, ho, hrun], rfl, VR.undef ρ, hst⟩
    · cases e
  · rename_i t m k x ho
    split at e
    · rename_i u1 u2 u3 h1 h2 h3
      simp only [Option.map_eq_some_iff, Prod.mk.injEq] at e
      obtain ⟨h4, e, rfl, rfl⟩ := e
      obtain ⟨w', hrun, hst⟩ := amapUpdate_sim hE hr e (ev_sim hf h1) (ev_sim hf h2) (ev_sim hf h3)
      exact ⟨.skip, undef, ρ, w', by simp [execOp, ho, hrun], rfl, VR.undef ρ, hst⟩
    · cases e
  · rename_i t m k ho
    split at e
    · rename_i u1 u2 h1 h2
      obtain ⟨v', w', hrun, r, hst⟩ := amapEntry_sim hE hr e (ev_sim hf h1) (ev_sim hf h2)
      exact ⟨.value v', v', ρ, w', by simp [execOp, ho, hrun], rfl, r, hst⟩
    · cases e
  · rename_i t m s x ho
    split at e
    · rename_i u1 u2 u3 h1 h2 h3
      simp only [Option.map_eq_some_iff, Prod.mk.injEq] at e
      obtain ⟨h4, e, rfl, rfl⟩ := e
      obtain ⟨w', hrun, hst⟩ := aentryStore_sim (t := t) hr e (ev_sim hf h1) (ev_sim hf h2) (ev_sim hf h3)
      exact ⟨.skip, undef, ρ, w', by simp [execOp, ho, hrun], rfl, VR.undef ρ, hst⟩
    · cases e
  · rename_i t x ho
    split at e
    · rename_i u h1
      obtain ⟨v', ρ', w', hrun, r, hst⟩ := arange_sim hE hr e (ev_sim hf h1)
      exact ⟨.value v', v', ρ', w', by simp [execOp, ho, hrun], rfl, r, hst⟩
    · cases e
  · rename_i it s ho
    split at e
    · rename_i u h1
      obtain ⟨v', w', hrun, r, hst⟩ := anext_sim hr (ty := o.type) e (ev_sim hf h1)
      exact ⟨.value v', v', ρ, w', by simp [execOp, ho, hrun], rfl, r, hst⟩
    · cases e
  · rename_i c ho
    split at e
    · rename_i b hb
      obtain ⟨cs, call⟩ : ∃ cs : Array Bool, ∀ w : World, (execOp a.eval o).run P w = (builtin b c.argTypes o.type cs (c.args.map a.eval)).run P w := by
        refine ⟨c.args.map fun | .const _ => true | _ => false, fun w => ?_⟩
        simp only [execOp, ho, resolve, hb, Sem.run_bind, Sem.run_pure, Result.andThen_ok, invoke]
        rfl
      split at e
      · cases e
      · rename_i args hargs
        have rx := evs_sim' hf hargs
        split at e
        · obtain ⟨v', ρ', w', hrun, r, hst⟩ := aappend_sim hE hr (ty := o.type) e rx
          exact ⟨.value v', v', ρ', w', by simp [call, builtin, hrun], rfl, r, hst⟩
        · obtain ⟨v', w', hrun, r, hst⟩ := acopy_sim hE hr (ty := o.type) e rx
          exact ⟨.value v', v', ρ, w', by simp [call, builtin, hrun], rfl, r, hst⟩
        · split at e
          · rename_i t ts m k xs ht
            simp only [Option.map_eq_some_iff, Prod.mk.injEq] at e
            obtain ⟨h3, e, rfl, rfl⟩ := e
            have ht : c.argTypes[0]? = some t := by
              have : c.argTypes.toList[0]? = some t := by rw [ht]; rfl
              simpa using this
            obtain ⟨m', h0, rm⟩ := rx.get 0 _ rfl
            obtain ⟨k', h1, rk⟩ := rx.get 1 _ rfl
            obtain ⟨w', hrun, hst⟩ := adelete_sim hE hr (ty := o.type) (xs := c.args.map a.eval) ht (by rw [← Array.getElem?_toList]; exact h0) (by rw [← Array.getElem?_toList]; exact h1) e rm rk
            exact ⟨.value undef, undef, ρ, w', by rw [call]; simp [builtin, hrun], rfl, VR.undef ρ, hst⟩
          · cases e
        · cases e
    · cases e
  · cases e
end
end Go.Ev

namespace Go.Ev
section
variable {P : Program} {E : Env} {ρ : Ren} {h : Heap} {w : World}

def GR (E : Env) (ρ : Ren) : Prop := ∀ g, g < E.ng → ∃ c, ρ g = some (g, c)
theorem GR.mono {ρ' : Ren} (hg : GR E ρ) (hle : ρ.le ρ') : GR E ρ' := fun g hlt => let ⟨c, e⟩ := hg g hlt; ⟨c, hle _ _ e⟩
theorem FR.mono {ρ' : Ren} {fr : Fr} {a : Act} (hf : FR E ρ fr a) (hle : ρ.le ρ') : FR E ρ' fr a :=
  ⟨GR.mono hf.glob hle, fun t => (hf.tmp t).mono hle⟩

/-- the fences of this walk: none, in a function's frame or in a round's -/
structure FOK (F : Fence) : Prop where
  fn : ∀ f, F.fn f
  depth : F.depth = none
  calls : ∀ (n : Nat) (P : Program) (f : FuncId) (args : Array Value) (w : World) (R : Ending → World → Prop), Calls P f args w R → CallsIn F n P f args w R
  rounds : ∀ (n : Nat) (P : Program) (l : Nat) (f : FuncId) (tmps : Array Value) (assign body : Code) (w : World) (R : Ending → World → Prop), RoundIn Fence.wide n P l f tmps assign body w R → RoundIn F n P l f tmps assign body w R
theorem fokWide : FOK Fence.wide := ⟨fun _ => trivial, rfl, fun _ _ _ _ _ _ h => callsIn_wide.2 h, fun _ _ _ _ _ _ _ _ _ h => h⟩
theorem fokRound (l : Nat) : FOK (Fence.wide.inRound l) := ⟨fun _ => trivial, rfl, fun _ _ _ _ _ _ h => CallsIn.inRound l (callsIn_wide.2 h), fun _ _ _ _ _ _ _ _ _ h => h⟩

inductive FnR (ρ : Ren) : Fn → Fn → Prop
  | func (f : FuncId) : FnR ρ (.func f) (.func f)
  | yield {i b c : Nat} (h : ρ i = some (b, c)) : FnR ρ (.yield i) (.yield b)

def semOf : Fn → Array Value → Sem Next
  | .func f, args => callFunc f args
  | .yield l, args => Instr.yield l args
  | _, _ => pure .skip

def EndOK (P : Program) (ρ : Ren) (h : Heap) (w : World) (v : Value) (h' : Heap) (e : Ending) (w' : World) : Prop :=
  ∃ v' ρ', e = .returned v' ∧ VR ρ' v v' ∧ Stp P ρ h w ρ' h' w'

def CallOK (P : Program) (ρ : Ren) (h : Heap) (w : World) (fn' : Fn) (args' : Array Value) (v : Value) (h' : Heap) : Prop :=
  ActOK P ρ h w (semOf fn' args') v h' ∨
  (∃ f as, (semOf fn' args').run P w = .ok (.enter f as) w ∧ Calls P f as w (EndOK P ρ h w v h')) ∨
  (∃ l f tmps assign body, (semOf fn' args').run P w = .ok (.round l f tmps assign body) w ∧ ∀ n, RoundIn Fence.wide n P l f tmps assign body w (EndOK P ρ h w v h'))

def CallSound (P : Program) (E : Env) (call : Fn → List Value → Heap → Option (Value × Heap)) : Prop :=
  ∀ fn args h v h', call fn args h = some (v, h') → ∀ (ρ : Ren) (w : World) (fn' : Fn) (args' : Array Value), HR P ρ h w → GR E ρ → FnR ρ fn fn' → VRL ρ args args'.toList → CallOK P ρ h w fn' args' v h'

theorem upon_of_ok {F : Fence} {n : Nat} {o : Oper} {a : Act} {s : Sem Next} {v : Value} {h' : Heap} {K : Act → World → Prop} {Q : Exit → Act → World → Prop}
    (hok : ActOK P ρ h w s v h') (k : ∀ v' ρ' w', VR ρ' v v' → Stp P ρ h w ρ' h' w' → K (a.put o.dst v') w') : o.uponIn F n P a K Q (s.run P w) := by
  obtain ⟨n, v', ρ', w', hrun, hn, r, hs⟩ := hok
  rw [hrun]
  have := k v' ρ' w' r hs
  cases n <;> simp [nval] at hn <;> subst hn <;> exact this

theorem wp_of_upon {F : Fence} {n : Nat} (hF : FOK F) {o : Oper} {a : Act} {K : Act → World → Prop} {Q : Exit → Act → World → Prop} (hd : ∀ c, o.op ≠ .defer c)
    (k : o.uponIn F n P a K Q ((execOp a.eval o).run P w)) : o.wpIn F n P a w K Q := by
  refine ⟨fun f _ => hF.fn f, ?_⟩
  rw [Oper.semAt_eq F.round a.eval o hd]
  exact k
theorem wp_of_ok {F : Fence} {n : Nat} (hF : FOK F) {o : Oper} {a : Act} {nx : Next} {v' : Value} {w' : World} {K : Act → World → Prop} {Q : Exit → Act → World → Prop} (hd : ∀ c, o.op ≠ .defer c)
    (hrun : (execOp a.eval o).run P w = .ok nx w') (hn : nval nx = some v') (k : K (a.put o.dst v') w') : o.wpIn F n P a w K Q := by
  refine wp_of_upon hF hd ?_
  rw [hrun]
  cases nx <;> simp [nval] at hn <;> subst hn <;> exact k

theorem target_sim {fr : Fr} {a : Act} {c : Call} {ty : TypeId} {f : Fn} {args : List Value} (hf : FR E ρ fr a) (e : target E fr c = some (f, args)) :
    ∃ (fn' : Fn) (args' : Array Value), FnR ρ f fn' ∧ VRL ρ args args'.toList ∧ ∀ w : World, ((resolve a.eval c ty).run P w).andThen (fun d w => (invoke d.target d.args).run P w) = (semOf fn' args').run P w := by
  unfold target at e
  split at e
  · cases e
  rename_i args0 hargs
  split at e
  · rename_i g hcal
    have rargs : VRL ρ args0 (c.args.map a.eval).toList := by
      have := evs_sim hf hargs
      simpa using this
    split at e
    · rename_i fn first cap hfv
      cases e
      have r := ev_sim hf hfv
      generalize hge : a.eval g = gv at r
      cases r with
      | func _ _ _ first' cap' _ r1 r2 =>
        refine ⟨.func fn, first' ++ c.args.map a.eval ++ cap', .func fn, ?_, fun w => ?_⟩
        · simp only [Array.toList_append]
          exact (r1.append rargs).append r2
        · simp [resolve, hcal, hge, Deferred.ofValue, invoke, semOf]
    · rename_i l first cap hfv
      cases e
      have r := ev_sim hf hfv
      generalize hge : a.eval g = gv at r
      cases r with
      | func _ _ _ _ _ hy _ _ => cases hy
      | @yield _ b _ hi =>
        refine ⟨.yield b, c.args.map a.eval, .yield hi, rargs, fun w => ?_⟩
        simp [resolve, hcal, hge, Deferred.ofValue, invoke, semOf]
    · cases e
  · cases e

theorem opBy_defer {call : Fn → List Value → Heap → Option (Value × Heap)} {fr : Fr} {o : Oper} {p : Value × Heap} (e : opBy E call fr o h = some p) : ∀ c, o.op ≠ .defer c := by
  intro c hc
  unfold opBy at e
  have hk : kindOf E o.op = .act := by rw [hc]; rfl
  rw [hk] at e
  simp [hc, actOp] at e

theorem op_sim (hE : EnvOK P E) {F : Fence} {n : Nat} (hF : FOK F) {call : Fn → List Value → Heap → Option (Value × Heap)} (hc : CallSound P E call) {fr : Fr} {a : Act} {o : Oper} {v : Value} {h' : Heap}
    (hf : FR E ρ fr a) (hr : HR P ρ h w) (e : opBy E call fr o h = some (v, h')) {K : Act → World → Prop} {Q : Exit → Act → World → Prop}
    (k : ∀ v' ρ' w', VR ρ' v v' → Stp P ρ h w ρ' h' w' → K (a.put o.dst v') w') : o.wpIn F n P a w K Q := by
  have hnd := opBy_defer e
  unfold opBy at e
  split at e
  · simp only [Option.map_eq_some_iff, Prod.mk.injEq] at e
    obtain ⟨u, e, rfl, rfl⟩ := e
    obtain ⟨v', hrun, r⟩ := pure_sim hE hf e
    exact wp_of_ok hF hnd (hrun w) rfl (k v' ρ w r (Stp.refl hr))
  · simp only [Option.map_eq_some_iff, Prod.mk.injEq] at e
    obtain ⟨u, e, rfl, rfl⟩ := e
    obtain ⟨v', hrun, r⟩ := read_sim hE hf hr e
    exact wp_of_ok hF hnd hrun rfl (k v' ρ w r (Stp.refl hr))
  · simp only [Option.map_eq_some_iff, Prod.mk.injEq] at e
    obtain ⟨⟨bk, mk⟩, e, rfl, rfl⟩ := e
    obtain ⟨obj, mk', hrun, hb, hd, hv⟩ := alloc_sim hE hf e
    refine wp_of_ok hF hnd (hrun w) rfl (k _ (ρ.upd h.n (w.heap.size, 0)) _ (hv _ _ _ (Ren.upd_same _ _ _)) ?_)
    exact Stp.alloc hr hb rfl rfl rfl rfl
  · refine wp_of_upon hF hnd ?_
    split at e
    · rename_i c ho
      split at e
      · exact upon_of_ok (act_sim hE hf hr e) k
      · split at e
        · rename_i f args ht
          obtain ⟨fn', args', rfn, rargs, hrun⟩ := target_sim (P := P) (ty := o.type) hf ht
          have hex : (execOp a.eval o).run P w = (semOf fn' args').run P w := by
            simp only [execOp, ho]
            rw [← hrun w]
            simp [Sem.run_bind]
          rw [hex]
          rcases hc f args h v h' e ρ w fn' args' hr hf.glob rfn rargs with hok | ⟨g, as, h1, h2⟩ | ⟨l, g, tmps, as, bd, h1, h2⟩
          · exact upon_of_ok hok k
          · rw [h1]
            refine ⟨fun hdep => (by rw [hF.depth] at hdep; cases hdep), CallsIn.mono (hF.calls _ _ _ _ _ _ h2) fun e w' hh => ?_⟩
            obtain ⟨v', ρ', rfl, r, hs⟩ := hh
            exact k v' ρ' w' r hs
          · rw [h1]
            refine ⟨fun hdep => (by rw [hF.depth] at hdep; cases hdep), RoundIn.mono (hF.rounds _ _ _ _ _ _ _ _ _ (h2 _)) fun e w' hh => ?_⟩
            obtain ⟨v', ρ', rfl, r, hs⟩ := hh
            exact k v' ρ' w' r hs
        · cases e
    · exact upon_of_ok (act_sim hE hf hr e) k

theorem getD_put {a : Act} {d : Nat} {v : Value} (hd : d < a.tmps.size) (t : Nat) : (a.put (some d) v).tmps.getD t undef = if d = t then v else a.tmps.getD t undef := by
  simp only [Act.put, Array.getD_eq_getD_getElem?, Array.getElem?_setIfInBounds]
  by_cases h : d = t
  · subst h; simp [hd]
  · simp [h]
theorem put_size (a : Act) (o : Option Tmp) (v : Value) : (a.put o v).tmps.size = a.tmps.size := by cases o <;> simp [Act.put]
theorem put_defers (a : Act) (o : Option Tmp) (v : Value) : (a.put o v).defers = a.defers := by cases o <;> simp [Act.put]

theorem FR.put {fr fr' : Fr} {a : Act} {o : Oper} {v v' : Value} {nt : Nat} (hf : FR E ρ fr a) (hnt : a.tmps.size = nt) (r : VR ρ v v') (e : put nt fr o v = some fr') : FR E ρ fr' (a.put o.dst v') := by
  unfold Ev.put at e
  split at e
  · rename_i d hd
    rw [blt_eq] at e
    by_cases hlt : d < nt
    · simp only [hlt, decide_true, cond_true] at e; cases e
      refine ⟨hf.glob, fun t => ?_⟩
      rw [hd, getD_put (by rw [hnt]; exact hlt), T.get_set]
      by_cases h : d = t
      · subst h; simpa using r
      · simp only [h, if_false]; exact hf.tmp t
    · simp [hlt] at e
  · rename_i hd
    cases e
    rw [hd]
    exact hf

theorem wanted_sim {fr : Fr} {a : Act} {ops : Array Oper} {o : Oper} {b : Bool} (hf : FR E ρ fr a) (e : wantedA ops.toList fr o = some b) :
    Region.wanted o (yielded ops a.tmps) = b := by
  unfold wantedA at e
  split at e
  · rename_i hg; cases e; simp [Region.wanted, hg]
  · rename_i j wnt hg
    rw [nth_eq, Array.getElem?_toList] at e
    simp only [Region.wanted, hg, yielded]
    cases hd : (ops[j]?).bind (·.dst) with
    | none => simp only [hd] at e; cases e; rfl
    | some d =>
      simp only [hd] at e
      have ht := hf.tmp d
      simp only [Option.bind_some]
      have hno : ∀ v, VR ρ v (a.tmps.getD d undef) → (∀ b, v ≠ .bool b) → ∀ b, a.tmps[d]? ≠ some (.bool b) := by
        intro v r hv b hb
        rw [Array.getD_eq_getD_getElem?, hb] at r
        simp only [Option.getD_some] at r
        cases r
        exact absurd rfl (hv _)
      split at e
      · rename_i b' hb
        cases e
        rw [hb] at ht
        simp only [Option.getD_some, Array.getD_eq_getD_getElem?] at ht
        cases hx : a.tmps[d]? with
        | none => rw [hx] at ht; cases ht
        | some u => rw [hx] at ht; simp only [Option.getD_some] at ht; cases ht; cases b' <;> cases wnt <;> rfl
      · rename_i hb
        cases e
        have hno := hno _ ht (fun b' hb' => by
          cases hx : fr.get d with
          | none => rw [hx] at hb'; cases hb'
          | some u => rw [hx] at hb'; simp only [Option.getD_some] at hb'; subst hb'; exact hb b' hx)
        split
        · rename_i b' hb'; exact absurd hb' (hno b')
        · rfl

/-- the marks of an activation: the blocks for its rounds' deferred calls, all empty -/
structure DR (B : Nat) (ρ : Ren) (w : World) (ds : List Deferred) : Prop where
  nd : ds.Nodup
  each : ∀ d ∈ ds, ∃ D, d = { target := .collected D, args := #[] } ∧ B ≤ D ∧ w.heap[D]? = some (.deferred (some [])) ∧ ∀ i c, ρ i ≠ some (D, c)
theorem DR.nil (B : Nat) (ρ : Ren) (w : World) : DR B ρ w [] := ⟨List.nodup_nil, fun d hd => by cases hd⟩
theorem DR.step {B : Nat} {ρ' : Ren} {h' : Heap} {w' : World} {ds : List Deferred} (hd : DR B ρ w ds) (hs : Stp P ρ h w ρ' h' w') : DR B ρ' w' ds := by
  refine ⟨hd.nd, fun d hm => ?_⟩
  obtain ⟨D, e, hB, hD, hi⟩ := hd.each d hm
  have hlt := (Array.getElem?_eq_some_iff.1 hD).1
  refine ⟨D, e, hB, by rw [hs.frame D hlt fun i c e => absurd e (hi i c)]; exact hD, fun i c hh => ?_⟩
  obtain ⟨j, d', hj, _⟩ := hs.img i D c hh hlt
  exact hi j d' hj

/-- behind a piece of code: the frame, the heaps -/
def After (B : Nat) (P : Program) (E : Env) (ρ : Ren) (h : Heap) (w : World) (nt : Nat) (fr' : Fr) (h' : Heap) (a' : Act) (w' : World) : Prop :=
  ∃ ρ', FR E ρ' fr' a' ∧ Stp P ρ h w ρ' h' w' ∧ a'.tmps.size = nt ∧ DR B ρ' w' a'.defers

theorem step_sim (hE : EnvOK P E) {B : Nat} {F : Fence} {n : Nat} (hF : FOK F) {call : Fn → List Value → Heap → Option (Value × Heap)} (hc : CallSound P E call) {ops : Array Oper} {i : Nat} {fr fr' : Fr} {a : Act} {o : Oper} {h' : Heap} {nt : Nat}
    (hi : ops[i]? = some o) (hf : FR E ρ fr a) (hr : HR P ρ h w) (hnt : a.tmps.size = nt) (hd : DR B ρ w a.defers) (e : step E call nt ops.toList fr o h = some (fr', h')) {K : Act → World → Prop} {Q : Exit → Act → World → Prop}
    (k : ∀ a' w', After B P E ρ h w nt fr' h' a' w' → K a' w') : wpOpIn F n P ops Q i K a w := by
  unfold step at e
  unfold wpOpIn
  simp only [hi]
  split at e
  · cases e
  · rename_i hw
    simp only [Option.map_eq_some_iff, Prod.mk.injEq] at e
    obtain ⟨f, e, rfl, rfl⟩ := e
    rw [wanted_sim hf hw, if_neg (by simp)]
    exact ⟨fun f _ => hF.fn f, k _ _ ⟨ρ, FR.put hf hnt (VR.undef ρ) e, Stp.refl hr, by rw [put_size]; exact hnt, by rw [put_defers]; exact hd⟩⟩
  · rename_i hw
    rw [wanted_sim hf hw, if_pos rfl]
    split at e
    · rename_i p hp
      obtain ⟨v, h2⟩ := p
      simp only [Option.map_eq_some_iff, Prod.mk.injEq] at e
      obtain ⟨f, e, rfl, rfl⟩ := e
      exact op_sim hE hF hc hf hr hp fun v' ρ' w' r hs => k _ _ ⟨ρ', FR.put (hf.mono hs.le) hnt r e, hs, by rw [put_size]; exact hnt, by rw [put_defers]; exact hd.step hs⟩
    · cases e

theorem After.trans {B : Nat} {ρ' : Ren} {nt : Nat} {fr' : Fr} {h₁ h' : Heap} {a' : Act} {w₁ w' : World} (hs : Stp P ρ h w ρ' h₁ w₁) (b : After B P E ρ' h₁ w₁ nt fr' h' a' w') : After B P E ρ h w nt fr' h' a' w' := by
  obtain ⟨ρ2, h1, h2, h3⟩ := b
  exact ⟨ρ2, h1, hs.trans h2, h3⟩

theorem text_sim (hE : EnvOK P E) {B : Nat} {F : Fence} {n : Nat} (hF : FOK F) {call : Fn → List Value → Heap → Option (Value × Heap)} (hc : CallSound P E call) {ops : Array Oper} {nt : Nat} {Q : Exit → Act → World → Prop} :
    ∀ (l : List Oper) (j : Nat) (ρ : Ren) (fr fr' : Fr) (a : Act) (h h' : Heap) (w : World), (∀ i, l[i]? = ops[j + i]?) → FR E ρ fr a → HR P ρ h w → a.tmps.size = nt → DR B ρ w a.defers →
      stepsText E call nt ops.toList l fr h = some (fr', h') → (∀ a' w', After B P E ρ h w nt fr' h' a' w' → Q .normal a' w') → wpOpsIn F n P ops Q (List.range' j l.length) a w
  | [], j, ρ, fr, fr', a, h, h', w, _, hf, hr, hnt, hd, e, k => by
    simp only [stepsText, Option.some.injEq, Prod.mk.injEq] at e
    obtain ⟨rfl, rfl⟩ := e
    exact k a w ⟨ρ, hf, Stp.refl hr, hnt, hd⟩
  | o :: l, j, ρ, fr, fr', a, h, h', w, hl, hf, hr, hnt, hd, e, k => by
    simp only [stepsText] at e
    split at e
    · rename_i fr1 h1 hst
      rw [List.length_cons, List.range'_succ, wpOpsIn_cons]
      refine step_sim hE hF hc (by have := hl 0; simpa using this.symm) hf hr hnt hd hst fun a' w' ha => ?_
      obtain ⟨ρ', hf', hs, hnt', hd'⟩ := ha
      refine text_sim hE hF hc l (j + 1) ρ' fr1 fr' a' h1 h' w' (fun i => by have := hl (i + 1); simp only [List.getElem?_cons_succ] at this; rw [this]; congr 1; omega) hf' hs.hr hnt' hd' e fun a2 w2 ha => k a2 w2 (ha.trans hs)
    · cases e
end
end Go.Ev

namespace Go.Ev
section
variable {E : Env}

def rowOf (acc : List Nat) (o : Oper) : Nat := o.after.toList.foldl (fun s e => cond (Region.binds .any e) (s ||| 2 ^ e.on ||| (nth acc e.on).getD 0) s) 0

theorem foldl_bit (acc : List Nat) (j : Nat) : ∀ (es : List Edge) (s : Nat), (es.foldl (fun s e => cond (Region.binds .any e) (s ||| 2 ^ e.on ||| (nth acc e.on).getD 0) s) s).testBit j = true →
    s.testBit j = true ∨ ∃ e ∈ es, Region.binds .any e = true ∧ (j = e.on ∨ ∃ b : Nat, acc[e.on]? = some b ∧ b.testBit j = true)
  | [], s, h => .inl h
  | e :: es, s, h => by
    simp only [List.foldl_cons] at h
    rcases foldl_bit acc j es _ h with h | ⟨e', he, hb, hh⟩
    · cases hb : Region.binds .any e with
      | false => rw [hb] at h; exact .inl h
      | true =>
        rw [hb] at h
        simp only [cond_true, Nat.testBit_or, Bool.or_eq_true] at h
        rcases h with (h | h) | h
        · exact .inl h
        · rw [Nat.testBit_two_pow] at h
          exact .inr ⟨e, List.mem_cons_self, hb, .inl (by simpa using (of_decide_eq_true h).symm)⟩
        · rw [nth_eq] at h
          cases hx : acc[e.on]? with
          | none => rw [hx] at h; simp at h
          | some b => rw [hx] at h; exact .inr ⟨e, List.mem_cons_self, hb, .inr ⟨b, hx, h⟩⟩
    · exact .inr ⟨e', List.mem_cons_of_mem _ he, hb, hh⟩

theorem rowOf_bit {acc : List Nat} {o : Oper} {j : Nat} (h : (rowOf acc o).testBit j = true) :
    ∃ e ∈ o.after.toList, Region.binds .any e = true ∧ (j = e.on ∨ ∃ b, acc[e.on]? = some b ∧ b.testBit j = true) := by
  rcases foldl_bit acc j _ _ h with h | h
  · simp at h
  · exact h

theorem beforeOf_prefix : ∀ (os : List Oper) (acc : List Nat), ∃ r, beforeOf os acc = acc ++ r
  | [], acc => ⟨[], by simp [beforeOf]⟩
  | o :: os, acc => by
    obtain ⟨r, h⟩ := beforeOf_prefix os (acc ++ [rowOf acc o])
    exact ⟨[rowOf acc o] ++ r, by rw [beforeOf, ← rowOf, h, List.append_assoc]⟩

theorem beforeOf_get : ∀ (os : List Oper) (acc : List Nat) (i : Nat), (beforeOf os acc)[i]? = if i < acc.length then acc[i]? else (os[i - acc.length]?).map (rowOf ((beforeOf os acc).take i))
  | [], acc, i => by
    simp only [beforeOf]
    split
    · rfl
    · rename_i h; simp; omega
  | o :: os, acc, i => by
    have hb : beforeOf (o :: os) acc = beforeOf os (acc ++ [rowOf acc o]) := by rw [beforeOf, ← rowOf]
    rw [hb, beforeOf_get os]
    by_cases h1 : i < acc.length
    · rw [if_pos (by simp; omega), if_pos h1, List.getElem?_append_left h1]
    · rw [if_neg h1]
      by_cases h2 : i = acc.length
      · subst h2
        rw [if_pos (by simp)]
        obtain ⟨r, hr⟩ := beforeOf_prefix os (acc ++ [rowOf acc o])
        rw [hr]
        simp
      · rw [if_neg (by simp; omega)]
        have : i - acc.length = (i - (acc ++ [rowOf acc o]).length) + 1 := by simp; omega
        rw [this]
        simp

def Closed (l : List Oper) (S : Nat → Prop) : Prop := ∀ i o, S i → l[i]? = some o → ∀ e ∈ o.after, Region.binds .any e = true → S e.on

theorem bef {l : List Oper} {S : Nat → Prop} (hS : Closed l S) (j : Nat) : ∀ (i : Nat) (o : Oper) (b : Nat), l[i]? = some o → (beforeOf l [])[i]? = some b →
    (∀ e ∈ o.after, Region.binds .any e = true → S e.on) → b.testBit j = true → S j := by
  intro i
  induction i using Nat.strongRecOn with
  | _ i ih =>
    intro o b ho hb hpre hj
    rw [beforeOf_get] at hb
    simp only [List.length_nil, Nat.not_lt_zero, if_false, Nat.sub_zero, ho, Option.map_some, Option.some.injEq] at hb
    subst hb
    obtain ⟨e, he, hbd, hh⟩ := rowOf_bit hj
    have he : e ∈ o.after := by simpa using he
    rcases hh with rfl | ⟨b', hb', hj'⟩
    · exact hpre e he hbd
    · have hlt : e.on < i := by
        have := (List.getElem?_eq_some_iff.1 hb').1
        simp at this; omega
      rw [List.getElem?_take_of_lt hlt] at hb'
      have hb2 := hb'
      rw [beforeOf_get] at hb2
      simp only [List.length_nil, Nat.not_lt_zero, if_false, Nat.sub_zero, Option.map_eq_some_iff] at hb2
      obtain ⟨o', ho', _⟩ := hb2
      exact ih e.on hlt o' b' ho' hb' (hS e.on o' (hpre e he hbd) ho') hj'

def wr (l : List Oper) (i t : Nat) : Prop := ∃ o, l[i]? = some o ∧ o.dst = some t

theorem writes_iff {o : Oper} {t : Nat} : writes o t = true ↔ o.dst = some t := by
  unfold writes
  cases o.dst with
  | none => simp
  | some d => simp [beq_eq']

theorem once_of : ∀ {l : List Oper}, onceOk l = true → ∀ i j t, wr l i t → wr l j t → i = j
  | [], _, i, j, t, ⟨o, h, _⟩, _ => by simp at h
  | o :: os, h, i, j, t, ⟨x, hx, hxd⟩, ⟨y, hy, hyd⟩ => by
    simp only [onceOk, Bool.and_eq_true] at h
    obtain ⟨h1, h2⟩ := h
    have key : ∀ (z : Oper) (k : Nat), o.dst = some t → os[k]? = some z → z.dst = some t → False := by
      intro z k ho hz hzd
      rw [ho] at h1
      simp only [List.all_eq_true] at h1
      have := h1 z (List.mem_of_getElem? hz)
      rw [writes_iff.2 hzd] at this
      cases this
    cases i with
    | zero => cases j with
      | zero => rfl
      | succ j => simp at hx hy; subst hx; exact (key y j hxd hy hyd).elim
    | succ i => cases j with
      | zero => simp at hx hy; subst hy; exact (key x i hyd hx hxd).elim
      | succ j =>
        simp at hx hy
        exact congrArg (· + 1) (once_of h2 i j t ⟨x, hx, hxd⟩ ⟨y, hy, hyd⟩)

/-- what the plan's check says -/
structure PlanF (E : Env) (l : List Oper) (bs : List Nat) (pl : List Item) : Prop where
  cov : ∀ i, i < l.length → ∃ x ∈ pl, x.i = i
  at_ : ∀ pre x suf, pl = pre ++ x :: suf → ∃ o b, l[x.i]? = some o ∧ bs[x.i]? = some b ∧ (∀ y ∈ pre, y.i ≠ x.i) ∧
    (∀ e ∈ o.after, Region.binds .any e = true → ∃ y ∈ pre, y.i = e.on) ∧
    (∀ y ∈ pre, ∀ oy, l[y.i]? = some oy → isAct E oy = true → b.testBit y.i = true) ∧
    (isAct E o = true → ∀ y ∈ pre, ∀ oy, l[y.i]? = some oy → isRead E oy = true → b.testBit y.i = true ∨
      (y.i ∈ x.again ∧ ∀ by_, bs[y.i]? = some by_ → ∀ t ∈ looks l oy, ∀ q, wr l q t → by_.testBit q = true ∨ ∀ z ∈ pre, z.i ≠ q))
  once : ∀ i j t, wr l i t → wr l j t → i = j
  slots : ∀ i o b t, l[i]? = some o → bs[i]? = some b → t ∈ looks l o → ∀ q, wr l q t → i = q ∨ b.testBit q = true ∨ ∃ bq, bs[q]? = some bq ∧ bq.testBit i = true

theorem isAR {o : Oper} (h : isAct E o = true) : isRead E o = false := by
  unfold isAct at h; unfold isRead
  cases hk : kindOf E o.op <;> rw [hk] at h <;> first | rfl | cases h

theorem walk_at {l : List Oper} {bs : List Nat} {x : Item} {suf : List Item} : ∀ (pre : List Item) (done acts : Nat) (rds : List Nat), walkOk E l bs (pre ++ x :: suf) done acts rds = true →
    ∃ o b DONE, l[x.i]? = some o ∧ bs[x.i]? = some b ∧ (∀ j, Nat.testBit DONE j = true ↔ (done.testBit j = true ∨ ∃ y ∈ pre, y.i = j)) ∧ DONE.testBit x.i = false ∧
    (∀ e ∈ o.after, Region.binds .any e = true → DONE.testBit e.on = true) ∧
    (∀ j, acts.testBit j = true → b.testBit j = true) ∧ (∀ y ∈ pre, ∀ oy, l[y.i]? = some oy → isAct E oy = true → b.testBit y.i = true) ∧
    (isAct E o = true → (∀ r, (r ∈ rds ∨ ∃ y ∈ pre, y.i = r ∧ ∃ oy, l[y.i]? = some oy ∧ isRead E oy = true) → b.testBit r = true ∨ (r ∈ x.again ∧ againFine l bs DONE r = true)))
  | [], done, acts, rds, h => by
    simp only [List.nil_append, walkOk] at h
    rw [nth_eq, nth_eq] at h
    split at h
    · rename_i o b ho hb
      simp only [Bool.and_eq_true, Bool.not_eq_true'] at h
      obtain ⟨⟨⟨h1, h2⟩, h3⟩, h4⟩ := h
      have h3 := Nat.eq_of_beq_eq_true h3
      refine ⟨o, b, done, ho, hb, fun j => by simp, h1, ?_, ?_, by simp, ?_⟩
      · intro e he hbd
        have := List.all_eq_true.1 h2 e (by simpa using he)
        simpa [hbd] using this
      · intro j hj
        have := congrArg (fun n => Nat.testBit n j) h3
        simp only [Nat.testBit_and, hj, Bool.true_and] at this
        exact this
      · intro ha r hr
        simp only [ha, cond_true, Bool.and_eq_true] at h4
        obtain ⟨⟨h5, h6⟩, _⟩ := h4
        rcases hr with hr | ⟨y, hy, _⟩
        · have := List.all_eq_true.1 h5 r hr
          simp only [Bool.or_eq_true, List.contains_iff_mem] at this
          rcases this with this | this
          · exact .inl this
          · have h7 := List.all_eq_true.1 h6 r this
            simp only [Bool.and_eq_true] at h7
            exact .inr ⟨this, h7.2⟩
        · cases hy
    · cases h
  | y :: pre, done, acts, rds, h => by
    simp only [List.cons_append, walkOk] at h
    rw [nth_eq, nth_eq] at h
    split at h
    · rename_i oy by_ hoy hby
      simp only [Bool.and_eq_true] at h
      obtain ⟨_, h⟩ := h
      cases ha : isAct E oy with
      | true =>
        simp only [ha, cond_true, Bool.and_eq_true] at h
        obtain ⟨_, h⟩ := h
        obtain ⟨o, b, DONE, h1, h2, h3, h4, h5, h6, h7, h8⟩ := walk_at pre _ _ _ h
        refine ⟨o, b, DONE, h1, h2, fun j => ?_, h4, h5, fun j hj => h6 j ?_, fun z hz oz hoz haz => ?_, fun hao r hr => h8 hao r ?_⟩
        · rw [h3, Nat.testBit_or, Nat.testBit_two_pow]
          simp only [Bool.or_eq_true, decide_eq_true_eq, List.mem_cons]
          constructor
          · rintro ((h | h) | ⟨z, hz, e⟩)
            · exact .inl h
            · exact .inr ⟨y, .inl rfl, h⟩
            · exact .inr ⟨z, .inr hz, e⟩
          · rintro (h | ⟨z, rfl | hz, e⟩)
            · exact .inl (.inl h)
            · exact .inl (.inr e)
            · exact .inr ⟨z, hz, e⟩
        · rw [Nat.testBit_or, hj, Bool.true_or]
        · rcases List.mem_cons.1 hz with rfl | hz
          · exact h6 _ (by rw [Nat.testBit_or, Nat.testBit_two_pow]; simp)
          · exact h7 z hz oz hoz haz
        · rcases hr with hr | ⟨z, hz, e, oz, hoz, hrz⟩
          · exact .inl hr
          · rcases List.mem_cons.1 hz with rfl | hz
            · rw [hoy] at hoz; cases hoz; rw [isAR ha] at hrz; cases hrz
            · exact .inr ⟨z, hz, e, oz, hoz, hrz⟩
      | false =>
        simp only [ha, cond_false] at h
        obtain ⟨o, b, DONE, h1, h2, h3, h4, h5, h6, h7, h8⟩ := walk_at pre _ _ _ h
        refine ⟨o, b, DONE, h1, h2, fun j => ?_, h4, h5, h6, fun z hz oz hoz haz => ?_, fun hao r hr => h8 hao r ?_⟩
        · rw [h3, Nat.testBit_or, Nat.testBit_two_pow]
          simp only [Bool.or_eq_true, decide_eq_true_eq, List.mem_cons]
          constructor
          · rintro ((h | h) | ⟨z, hz, e⟩)
            · exact .inl h
            · exact .inr ⟨y, .inl rfl, h⟩
            · exact .inr ⟨z, .inr hz, e⟩
          · rintro (h | ⟨z, rfl | hz, e⟩)
            · exact .inl (.inl h)
            · exact .inl (.inr e)
            · exact .inr ⟨z, hz, e⟩
        · rcases List.mem_cons.1 hz with rfl | hz
          · rw [hoy] at hoz; cases hoz; rw [ha] at haz; cases haz
          · exact h7 z hz oz hoz haz
        · rcases hr with hr | ⟨z, hz, e, oz, hoz, hrz⟩
          · left
            cases isRead E oy <;> simp [hr]
          · rcases List.mem_cons.1 hz with rfl | hz
            · rw [hoy] at hoz; cases hoz
              left; simp [hrz, e]
            · exact .inr ⟨z, hz, e, oz, hoz, hrz⟩
    · cases h

theorem walk_end {l : List Oper} {bs : List Nat} : ∀ (pl : List Item) (done acts : Nat) (rds : List Nat), walkOk E l bs pl done acts rds = true → ∀ i, i < l.length → done.testBit i = true ∨ ∃ x ∈ pl, x.i = i
  | [], done, acts, rds, h, i, hi => by
    simp only [walkOk, List.all_eq_true] at h
    exact .inl (h i (List.mem_range.2 hi))
  | y :: pl, done, acts, rds, h, i, hi => by
    simp only [walkOk] at h
    rw [nth_eq, nth_eq] at h
    split at h
    · simp only [Bool.and_eq_true] at h
      obtain ⟨_, h⟩ := h
      have key : ∀ acts rds, walkOk E l bs pl (done ||| 2 ^ y.i) acts rds = true → done.testBit i = true ∨ ∃ x ∈ y :: pl, x.i = i := by
        intro acts rds h
        rcases walk_end pl _ _ _ h i hi with h | ⟨x, hx, e⟩
        · rw [Nat.testBit_or, Nat.testBit_two_pow] at h
          simp only [Bool.or_eq_true, decide_eq_true_eq] at h
          rcases h with h | h
          · exact .inl h
          · exact .inr ⟨y, List.mem_cons_self, h⟩
        · exact .inr ⟨x, List.mem_cons_of_mem _ hx, e⟩
      rename_i oy _ _ _ _
      cases ha : isAct E oy with
      | true => simp only [ha, cond_true, Bool.and_eq_true] at h; exact key _ _ h.2
      | false => simp only [ha, cond_false] at h; exact key _ _ h
    · cases h

theorem zip_get {α β : Type} {l : List α} {r : List β} {i : Nat} {x : α} {y : β} (hx : l[i]? = some x) (hy : r[i]? = some y) : (((x, y), i) : (α × β) × Nat) ∈ (l.zip r).zipIdx := by
  rw [List.mem_iff_getElem?]
  exact ⟨i, by simp [List.getElem?_zipIdx, List.getElem?_zip_eq_some, hx, hy]⟩

theorem beforeOf_length (l : List Oper) {i : Nat} {o : Oper} (h : l[i]? = some o) : ∃ b, (beforeOf l [])[i]? = some b := by
  rw [beforeOf_get]
  simp [h]

theorem planF {l : List Oper} {pl : List Item} (h : planOk E l (beforeOf l []) pl = true) : PlanF E l (beforeOf l []) pl := by
  simp only [planOk, Bool.and_eq_true] at h
  obtain ⟨⟨h1, h2⟩, h3⟩ := h
  refine ⟨fun i hi => ?_, ?_, once_of h2, ?_⟩
  · rcases walk_end pl _ _ _ h3 i hi with h | h
    · simp at h
    · exact h
  · rintro pre x suf rfl
    obtain ⟨o, b, DONE, g1, g2, g3, g4, g5, g6, g7, g8⟩ := walk_at pre _ _ _ h3
    have g3' : ∀ j, DONE.testBit j = true ↔ ∃ y ∈ pre, y.i = j := fun j => by rw [g3]; simp
    refine ⟨o, b, g1, g2, fun y hy e => ?_, fun e he hb => (g3' _).1 (g5 e he hb), g7, fun ha y hy oy hoy hr => ?_⟩
    · have := (g3' x.i).2 ⟨y, hy, e⟩
      rw [g4] at this; cases this
    · rcases g8 ha y.i (.inr ⟨y, hy, rfl, oy, hoy, hr⟩) with g | ⟨ga, gb⟩
      · exact .inl g
      · refine .inr ⟨ga, fun by_ hby t ht q hq => ?_⟩
        unfold againFine at gb
        rw [nth_eq, nth_eq, hoy, hby] at gb
        simp only [List.all_eq_true] at gb
        obtain ⟨oq, hoq, hqd⟩ := hq
        have hm : (oq, q) ∈ l.zipIdx := by rw [List.mem_iff_getElem?]; exact ⟨q, by simp [List.getElem?_zipIdx, hoq]⟩
        have := gb t ht (oq, q) hm
        simp only [writes_iff.2 hqd, Bool.not_true, Bool.false_or, Bool.or_eq_true, Bool.not_eq_true'] at this
        rcases this with g | g
        · exact .inl g
        · exact .inr fun z hz e => by have := (g3' q).2 ⟨z, hz, e⟩; rw [g] at this; cases this
  · intro i o b t ho hb ht q hq
    obtain ⟨oq, hoq, hqd⟩ := hq
    obtain ⟨bq, hbq⟩ := beforeOf_length l hoq
    unfold slotsOk at h1
    simp only [List.all_eq_true] at h1
    have := h1 _ (zip_get ho hb) t ht _ (zip_get hoq hbq)
    simp only [writes_iff.2 hqd, Bool.not_true, Bool.false_or, Bool.or_eq_true] at this
    rcases this with (g | g) | g
    · exact .inl (Nat.eq_of_beq_eq_true g)
    · exact .inr (.inl g)
    · exact .inr (.inr ⟨bq, hbq, g⟩)
end
end Go.Ev

namespace Go.Ev
section
variable {E : Env} {fr fr' : Fr}

theorem ev_congr {x : Operand} (h : ∀ t, t ∈ tmpOf x → fr.get t = fr'.get t) : ev E fr x = ev E fr' x := by
  cases x with
  | tmp t => simp only [ev, h t (by simp [tmpOf])]
  | _ => rfl

theorem mapOpt_congr {α β : Type} {f g : α → Option β} : ∀ {l : List α}, (∀ x ∈ l, f x = g x) → mapOpt f l = mapOpt g l
  | [], _ => rfl
  | x :: l, h => by
    simp only [mapOpt]
    rw [h x List.mem_cons_self, mapOpt_congr fun y hy => h y (List.mem_cons_of_mem _ hy)]

theorem evs_congr {xs : Array Operand} (h : ∀ x ∈ xs, ev E fr x = ev E fr' x) : evs E fr xs = evs E fr' xs :=
  mapOpt_congr fun x hx => h x (by simpa using hx)
theorem evp_congr {ps : Array (Nat × Operand)} (h : ∀ x ∈ ps.map (·.2), ev E fr x = ev E fr' x) : evp E fr ps = evp E fr' ps :=
  mapOpt_congr fun p hp => by
    show Option.map (p.1, ·) (ev E fr p.2) = Option.map (p.1, ·) (ev E fr' p.2)
    rw [h p.2 (Array.mem_map.2 ⟨p, by simpa using hp, rfl⟩)]
theorem evo_congr {x : Option Operand} (h : ∀ y, x = some y → ev E fr y = ev E fr' y) : evo E fr x = evo E fr' x := by
  cases x with
  | none => rfl
  | some y => simp only [evo, h y rfl]

theorem pureOp_congr {o : Oper} (h : ∀ x ∈ o.op.operands, ev E fr x = ev E fr' x) : pureOp E fr o = pureOp E fr' o := by
  obtain ⟨dst, op, type, pos, after, guard⟩ := o
  cases op <;> simp only [Op.operands] at h <;> simp only [pureOp]
  case build t ps => rw [evp_congr fun x hx => h x (by simpa using hx)]
  case makeFunc fn first cap => rw [evs_congr (xs := first) fun x hx => h x (by simp [hx]), evs_congr (xs := cap) fun x hx => h x (by simp [hx])]
  case slice t x lo hi mx =>
    rw [evo_congr (x := lo) fun y hy => h y (by subst hy; simp), evo_congr (x := hi) fun y hy => h y (by subst hy; simp), evo_congr (x := mx) fun y hy => h y (by subst hy; simp), h x (by simp)]
  case call c => rw [evs_congr (xs := c.args) fun x hx => h x (by simp [Call.operands]; cases c.callee <;> simp [hx])]
  all_goals first | rfl | (simp_all; done)
theorem readOp_congr {o : Oper} (h : ∀ x ∈ o.op.operands, ev E fr x = ev E fr' x) (H : Heap) : readOp E fr o H = readOp E fr' o H := by
  obtain ⟨dst, op, type, pos, after, guard⟩ := o
  cases op <;> simp only [Op.operands] at h <;> simp only [readOp]
  case call c => rw [evs_congr (xs := c.args) fun x hx => h x (by simp [Call.operands]; cases c.callee <;> simp [hx])]
  all_goals first | rfl | (simp_all; done)
theorem allocOp_congr {o : Oper} (h : ∀ x ∈ o.op.operands, ev E fr x = ev E fr' x) : allocOp E fr o = allocOp E fr' o := by
  obtain ⟨dst, op, type, pos, after, guard⟩ := o
  cases op <;> simp only [Op.operands] at h <;> simp only [allocOp]
  case buildSlice t n ps => rw [evp_congr fun x hx => h x (by simpa using hx)]
  case makeMap t r => cases r with
    | none => cases und E t <;> rfl
    | some x =>
      have hx := h x (by simp)
      cases und E t with
      | none => rfl
      | some d => cases d <;> first | rfl | simp only [hx]
  all_goals first | rfl | (simp_all; done)
theorem actOp_congr {o : Oper} (h : ∀ x ∈ o.op.operands, ev E fr x = ev E fr' x) (H : Heap) : actOp E fr o H = actOp E fr' o H := by
  obtain ⟨dst, op, type, pos, after, guard⟩ := o
  cases op <;> simp only [Op.operands] at h <;> simp only [actOp]
  case call c => rw [evs_congr (xs := c.args) fun x hx => h x (by simp [Call.operands]; cases c.callee <;> simp [hx])]
  all_goals first | rfl | (simp_all; done)
theorem target_congr {c : Call} (h : ∀ x ∈ c.operands, ev E fr x = ev E fr' x) : target E fr c = target E fr' c := by
  unfold target
  rw [mapOpt_congr (f := ev E fr) (g := ev E fr') fun x hx => h x (by simp [Call.operands]; cases c.callee <;> simp at hx ⊢ <;> simp [hx])]
  cases hc : c.callee with
  | value f => simp only [h f (by simp [Call.operands, hc])]
  | _ => rfl
theorem opBy_congr {o : Oper} (h : ∀ x ∈ o.op.operands, ev E fr x = ev E fr' x) (call : Fn → List Value → Heap → Option (Value × Heap)) (H : Heap) : opBy E call fr o H = opBy E call fr' o H := by
  unfold opBy
  rw [pureOp_congr h, readOp_congr h, allocOp_congr h, actOp_congr h]
  cases ho : o.op with
  | call c =>
    have ht : target E fr c = target E fr' c := target_congr (by intro x hx; exact h x (by rw [ho]; exact hx))
    simp only [ht]
  | _ => rfl

theorem looks_operands {l : List Oper} {o : Oper} (h : ∀ t ∈ looks l o, fr.get t = fr'.get t) : ∀ x ∈ o.op.operands, ev E fr x = ev E fr' x := fun x hx =>
  ev_congr fun t ht => h t (List.mem_append_right _ (List.mem_flatMap.2 ⟨x, by simpa using hx, ht⟩))
theorem wanted_congr {l : List Oper} {o : Oper} (h : ∀ t ∈ looks l o, fr.get t = fr'.get t) : wantedA l fr o = wantedA l fr' o := by
  unfold wantedA
  cases hg : o.guard with
  | none => rfl
  | some p =>
    obtain ⟨j, w⟩ := p
    simp only
    cases hd : (nth l j).bind (·.dst) with
    | none => rfl
    | some d => simp only [h d (List.mem_append_left _ (by simp [hg, hd]))]

/-! reads, and new blocks -/
theorem get_newBlk {h : Heap} {i : Nat} {k : Blk} (hi : i < h.n) : (newBlk h k).b.get i = h.b.get i := by rw [newBlk, T.get_set_ne _ _ (by omega)]
theorem cellsAt_mono {h : Heap} {a : Addr} {n : Nat} {l : List Value} (k : Blk) (e : cellsAt h a n = some l) : cellsAt (newBlk h k) a n = some l := by
  unfold cellsAt at e ⊢
  rw [cond_beq] at e ⊢
  by_cases hn : n = 0
  · rw [if_pos hn] at e ⊢; exact e
  · rw [if_neg hn] at e ⊢
    split at e
    · cases e
    · rw [blt_eq] at e ⊢
      by_cases hlt : a.block < h.n
      · rw [get_newBlk hlt]
        have : a.block < (newBlk h k).n := by simp [newBlk]; omega
        simp only [hlt, this, decide_true, cond_true] at e ⊢
        exact e
      · simp [hlt] at e
theorem getMap_mono {h : Heap} {m : Value} {r : List (Value × Value × Nat) × Nat} (k : Blk) (e : getMap h m = some r) : getMap (newBlk h k) m = some r := by
  unfold getMap at e ⊢
  split at e
  · rename_i j
    rw [blt_eq] at e ⊢
    by_cases hlt : j < h.n
    · rw [get_newBlk hlt]
      have : j < (newBlk h k).n := by simp [newBlk]; omega
      simp only [hlt, this, decide_true, cond_true] at e ⊢
      exact e
    · simp [hlt] at e
  · cases e
theorem loadAt_mono {h : Heap} {t : TypeId} {x v : Value} (k : Blk) (e : loadAt E t x h = some v) : loadAt E t x (newBlk h k) = some v := by
  unfold loadAt at e ⊢
  split at e
  · rename_i a i hi
    have one : ∀ d : TypeDesc, (match cellsAt h a 1 with | some [v] => some v | _ => none) = some v → (match cellsAt (newBlk h k) a 1 with | some [v] => some v | _ => none) = some v := by
      intro d e
      cases hc : cellsAt h a 1 with
      | none => rw [hc] at e; cases e
      | some l => rw [hc] at e; rw [cellsAt_mono k hc]; exact e
    have agg : (cellsAt h a i.size).map (fun l => Value.agg l.toArray) = some v → (cellsAt (newBlk h k) a i.size).map (fun l => Value.agg l.toArray) = some v := by
      intro e
      simp only [Option.map_eq_some_iff] at e ⊢
      obtain ⟨l, hl, hv⟩ := e
      exact ⟨l, cellsAt_mono k hl, hv⟩
    (try simp only [hi])
    cases hd : i.desc with
    | struct fs => rw [hd] at e; exact agg e
    | array n el => rw [hd] at e; exact agg e
    | invalid => rw [hd] at e; exact e
    | _ => rw [hd] at e; exact one .invalid e
  · cases e
theorem alookup_mono {h : Heap} {t : TypeId} {m x v : Value} {ok : Bool} (k : Blk) (e : alookup E t m x ok h = some v) : alookup E t m x ok (newBlk h k) = some v := by
  unfold alookup at e ⊢
  split at e
  · rename_i kt et hu
    (try simp only [hu])
    split at e
    · cases e
    · rename_i d hd
      (try simp only [hd])
      cases hc : acheck E 20 kt x with
      | false => rw [hc] at e; cases e
      | true =>
        rw [hc] at e
        simp only [cond_true] at e ⊢
        cases m with
        | map r =>
          cases r with
          | none => exact e
          | some r =>
            simp only at e ⊢
            cases hg : getMap h (.map (some r)) with
            | none => rw [hg] at e; cases e
            | some p => rw [hg] at e; rw [getMap_mono k hg]; exact e
        | _ => simp [getMap] at e
  · cases e
theorem aconvertR_mono {h : Heap} {s d : TypeId} {x v : Value} (k : Blk) (e : aconvertR E s d x h = some v) : aconvertR E s d x (newBlk h k) = some v := by
  unfold aconvertR at e ⊢
  split at e
  · rename_i el hs hd
    (try simp only [hs, hd])
    split at e
    · rename_i h1; (try simp only [h1]); exact e
    · rename_i a len c h1
      (try simp only [h1])
      split at e
      · rename_i l hl; rw [cellsAt_mono k hl]; exact e
      · cases e
    · cases e
  · cases e
theorem alenR_mono {h : Heap} {t : TypeId} {x v : Value} (k : Blk) (e : alenR E t x h = some v) : alenR E t x (newBlk h k) = some v := by
  unfold alenR at e ⊢
  split at e
  · rename_i h1; (try simp only [h1]); exact e
  · rename_i h1 hne
    simp only [Option.map_eq_some_iff] at e
    obtain ⟨r, hr, rfl⟩ := e
    rw [getMap_mono k hr]
    rfl
  · cases e
theorem readOp_mono {h : Heap} {o : Oper} {v : Value} (k : Blk) (e : readOp E fr o h = some v) : readOp E fr o (newBlk h k) = some v := by
  unfold readOp at e ⊢
  split at e
  · rename_i ho; (try simp only [ho])
    split at e
    · rename_i hx; (try simp only [hx]); exact loadAt_mono k e
    · cases e
  · rename_i ho; (try simp only [ho])
    split at e
    · rename_i hx hi; (try simp only [hx, hi]); exact alookup_mono k e
    · cases e
  · rename_i ho; (try simp only [ho])
    split at e
    · rename_i hx; (try simp only [hx]); exact aconvertR_mono k e
    · cases e
  · rename_i c ho; (try simp only [ho])
    split at e
    · rename_i hb; (try simp only [hb])
      split at e
      · rename_i h1 h2; (try simp only [h1, h2]); exact alenR_mono k e
      · cases e
    · cases e
  · cases e

end
end Go.Ev

namespace Go.Ev
section
variable {P : Program} {E : Env} {call : Fn → List Value → Heap → Option (Value × Heap)} {nt : Nat} {l : List Oper}

theorem plan_cons {x : Item} {xs : List Item} {fr : Fr} {h : Heap} {r : Fr × Heap} (e : stepsPlan E call nt l (x :: xs) fr h = some r) :
    ∃ o fr1 h1, l[x.i]? = some o ∧ step E call nt l fr o h = some (fr1, h1) ∧ h.n ≤ h1.n ∧ againOk E l fr1 h1 x.again = true ∧ stepsPlan E call nt l xs fr1 h1 = some r := by
  simp only [stepsPlan] at e
  rw [nth_eq] at e
  split at e
  · cases e
  · rename_i o ho
    split at e
    · rename_i fr1 h1 hst
      cases hc : (Nat.ble h.n h1.n && againOk E l fr1 h1 x.again) with
      | false => rw [hc] at e; cases e
      | true =>
        rw [hc] at e
        simp only [Bool.and_eq_true, ble_eq, decide_eq_true_eq] at hc
        exact ⟨o, fr1, h1, ho, hst, hc.1, hc.2, e⟩
    · cases e

theorem plan_append : ∀ {xs ys : List Item} {fr : Fr} {h : Heap} {r : Fr × Heap}, stepsPlan E call nt l (xs ++ ys) fr h = some r →
    ∃ fr1 h1, stepsPlan E call nt l xs fr h = some (fr1, h1) ∧ stepsPlan E call nt l ys fr1 h1 = some r
  | [], ys, fr, h, r, e => ⟨fr, h, rfl, e⟩
  | x :: xs, ys, fr, h, r, e => by
    rw [List.cons_append] at e
    obtain ⟨o, fr1, h1, ho, hst, hn, hag, e⟩ := plan_cons e
    obtain ⟨fr2, h2, e1, e2⟩ := plan_append e
    refine ⟨fr2, h2, ?_, e2⟩
    simp only [stepsPlan, nth_eq, ho, hst, ble_eq, hn, hag, decide_true, Bool.and_self, cond_true, e1]

theorem plan_join : ∀ {xs ys : List Item} {fr fr1 : Fr} {h h1 : Heap} {r : Fr × Heap}, stepsPlan E call nt l xs fr h = some (fr1, h1) → stepsPlan E call nt l ys fr1 h1 = some r →
    stepsPlan E call nt l (xs ++ ys) fr h = some r
  | [], ys, fr, fr1, h, h1, r, e1, e2 => by simp only [stepsPlan, Option.some.injEq, Prod.mk.injEq] at e1; obtain ⟨rfl, rfl⟩ := e1; exact e2
  | x :: xs, ys, fr, fr1, h, h1, r, e1, e2 => by
    obtain ⟨o, fr2, h2, ho, hst, hn, hag, e⟩ := plan_cons e1
    rw [List.cons_append]
    simp only [stepsPlan, nth_eq, ho, hst, ble_eq, hn, hag, decide_true, Bool.and_self, cond_true]
    exact plan_join e e2

theorem plan_n : ∀ {xs : List Item} {fr fr1 : Fr} {h h1 : Heap}, stepsPlan E call nt l xs fr h = some (fr1, h1) → h.n ≤ h1.n
  | [], fr, fr1, h, h1, e => by simp only [stepsPlan, Option.some.injEq, Prod.mk.injEq] at e; rw [e.2]; exact Nat.le_refl _
  | x :: xs, fr, fr1, h, h1, e => by
    obtain ⟨o, fr2, h2, ho, hst, hn, hag, e⟩ := plan_cons e
    exact Nat.le_trans hn (plan_n e)

theorem put_get {fr fr1 : Fr} {o : Oper} {v : Value} (e : put nt fr o v = some fr1) (t : Nat) : fr1.get t = if o.dst = some t then some v else fr.get t := by
  unfold put at e
  split at e
  · rename_i d hd
    cases hb : Nat.blt d nt with
    | false => rw [hb] at e; cases e
    | true =>
      rw [hb] at e; cases e
      rw [T.get_set, hd]
      simp
  · rename_i hd; cases e; simp [hd]
theorem put_some {fr fr1 : Fr} {o : Oper} {v : Value} (e : put nt fr o v = some fr1) (fr' : Fr) : ∃ fr2, put nt fr' o v = some fr2 := by
  unfold put at e ⊢
  split at e
  · rename_i d hd
    cases hb : Nat.blt d nt with
    | false => rw [hb] at e; cases e
    | true => exact ⟨_, rfl⟩
  · exact ⟨_, rfl⟩

theorem step_val {fr fr1 : Fr} {h h1 : Heap} {o : Oper} (e : step E call nt l fr o h = some (fr1, h1)) :
    ∃ v, put nt fr o v = some fr1 ∧ ((wantedA l fr o = some false ∧ v = undef ∧ h1 = h) ∨ (wantedA l fr o = some true ∧ opBy E call fr o h = some (v, h1))) := by
  unfold step at e
  split at e
  · cases e
  · rename_i hw
    simp only [Option.map_eq_some_iff, Prod.mk.injEq] at e
    obtain ⟨f, e, rfl, rfl⟩ := e
    exact ⟨undef, e, .inl ⟨hw, rfl, rfl⟩⟩
  · rename_i hw
    split at e
    · rename_i p hp
      simp only [Option.map_eq_some_iff, Prod.mk.injEq] at e
      obtain ⟨f, e, rfl, rfl⟩ := e
      exact ⟨p.1, e, .inr ⟨hw, hp⟩⟩
    · cases e

theorem plan_get {t : Nat} : ∀ {xs : List Item} {fr fr1 : Fr} {h h1 : Heap}, stepsPlan E call nt l xs fr h = some (fr1, h1) → (∀ y ∈ xs, ¬ wr l y.i t) → fr1.get t = fr.get t
  | [], fr, fr1, h, h1, e, _ => by simp only [stepsPlan, Option.some.injEq, Prod.mk.injEq] at e; rw [e.1]
  | x :: xs, fr, fr1, h, h1, e, hno => by
    obtain ⟨o, fr2, h2, ho, hst, hn, hag, e⟩ := plan_cons e
    rw [plan_get e fun y hy => hno y (List.mem_cons_of_mem _ hy)]
    obtain ⟨v, hp, _⟩ := step_val hst
    rw [put_get hp, if_neg fun hd => hno x List.mem_cons_self ⟨o, ho, hd⟩]

/-- a step that is no act: the heap is as it was, or has one block more -/
theorem quiet_step {fr fr1 : Fr} {h h1 : Heap} {o : Oper} (e : step E call nt l fr o h = some (fr1, h1)) (ha : isAct E o = false) :
    h1 = h ∨ ∃ k mk, kindOf E o.op = .alloc ∧ wantedA l fr o = some true ∧ allocOp E fr o = some (k, mk) ∧ h1 = newBlk h k := by
  obtain ⟨v, _, ⟨_, _, rfl⟩ | ⟨hw, hop⟩⟩ := step_val e
  · exact .inl rfl
  · unfold opBy at hop
    unfold isAct at ha
    split at hop
    · simp only [Option.map_eq_some_iff, Prod.mk.injEq] at hop
      obtain ⟨_, _, _, rfl⟩ := hop; exact .inl rfl
    · simp only [Option.map_eq_some_iff, Prod.mk.injEq] at hop
      obtain ⟨_, _, _, rfl⟩ := hop; exact .inl rfl
    · rename_i hk
      simp only [Option.map_eq_some_iff, Prod.mk.injEq] at hop
      obtain ⟨⟨k, mk⟩, hal, _, rfl⟩ := hop
      exact .inr ⟨k, mk, hk, hw, hal, rfl⟩
    · rename_i hk; rw [hk] at ha; cases ha

theorem again_mem {fr : Fr} {h : Heap} {i : Nat} {o : Oper} : ∀ {ag : List Nat}, againOk E l fr h ag = true → i ∈ ag → l[i]? = some o → wantedA l fr o = some true →
    ∃ v v', readOp E fr o h = some v ∧ o.dst.bind fr.get = some v' ∧ v = v'
  | [], _, hi, _, _ => by cases hi
  | j :: ag, e, hi, ho, hw => by
    simp only [againOk, Bool.and_eq_true] at e
    rcases List.mem_cons.1 hi with rfl | hi
    · have e := e.1
      rw [nth_eq, ho] at e
      simp only [hw] at e
      split at e
      · rename_i v v' h1 h2; exact ⟨v, v', h1, h2, sameV_eq _ _ _ e⟩
      · cases e
    · exact again_mem e.2 hi ho hw

theorem kind_act {o : Oper} (h : isAct E o = true) : kindOf E o.op = .act := by
  unfold isAct at h; split at h <;> first | assumption | cases h
theorem kind_read {o : Oper} : isRead E o = true ↔ kindOf E o.op = .read := by
  unfold isRead; cases kindOf E o.op <;> simp

section
variable {pl : List Item}
theorem PlanF.nodup (hp : PlanF E l (beforeOf l []) pl) {A B : List Item} {z y : Item} (e : pl = A ++ B) (hz : z ∈ A) (hy : y ∈ B) : z.i ≠ y.i := by
  obtain ⟨s1, s2, rfl⟩ := List.append_of_mem hy
  obtain ⟨o, b, _, _, h, _⟩ := hp.at_ (A ++ s1) y s2 (by rw [e, List.append_assoc])
  exact h z (List.mem_append_left _ hz)
theorem PlanF.predIn (hp : PlanF E l (beforeOf l []) pl) {pre suf : List Item} {x : Item} {b q : Nat} (e : pl = pre ++ x :: suf) (hb : (beforeOf l [])[x.i]? = some b) (hq : b.testBit q = true) : ∃ y ∈ pre, y.i = q := by
  obtain ⟨o, b', ho, hb', _, hpre, _⟩ := hp.at_ pre x suf e
  refine bef (l := l) (S := fun j => ∃ y ∈ pre, y.i = j) ?_ q x.i o b ho hb hpre hq
  rintro i oi ⟨y, hy, rfl⟩ hoi ed hed hbd
  obtain ⟨p1, p2, rfl⟩ := List.append_of_mem hy
  obtain ⟨o2, b2, ho2, hb2, _, hpre2, _⟩ := hp.at_ p1 y (p2 ++ x :: suf) (by rw [e, List.append_assoc]; rfl)
  rw [hoi] at ho2; cases ho2
  obtain ⟨z, hz, e⟩ := hpre2 ed hed hbd
  exact ⟨z, List.mem_append_left _ hz, e⟩
theorem PlanF.pos (hp : PlanF E l (beforeOf l []) pl) {i : Nat} {o : Oper} (ho : l[i]? = some o) : ∃ pre x suf, pl = pre ++ x :: suf ∧ x.i = i := by
  obtain ⟨x, hx, e⟩ := hp.cov i (List.getElem?_eq_some_iff.1 ho).1
  obtain ⟨p, s, e2⟩ := List.append_of_mem hx
  exact ⟨p, x, s, e2, e⟩

theorem stay (hp : PlanF E l (beforeOf l []) pl) {S : Nat → Prop} (hS : Closed l S) {pre1 : List Item} {x : Item} {o : Oper} (ho : l[x.i]? = some o) (hr : isRead E o = true) (hs : ¬ S x.i)
    {fr1 : Fr} {h1 : Heap} {v : Value} (hw : wantedA l fr1 o = some true) (hpv : ∀ frx hx, stepsPlan E call nt l [x] fr1 h1 = some (frx, hx) → ∀ d, o.dst = some d → frx.get d = some v) :
    ∀ (mid m1 rest : List Item) (frp frm : Fr) (hq hm : Heap), pl = pre1 ++ (x :: m1) ++ mid ++ rest → (∀ y ∈ mid, ∀ oy, l[y.i]? = some oy → isAct E oy = true → S y.i) →
      stepsPlan E call nt l (x :: m1) fr1 h1 = some (frp, hq) → readOp E fr1 o hq = some v → stepsPlan E call nt l mid frp hq = some (frm, hm) → readOp E fr1 o hm = some v
  | [], m1, rest, frp, frm, hq, hm, e, hacts, hat, hrd, hmid => by
    simp only [stepsPlan, Option.some.injEq, Prod.mk.injEq] at hmid; rw [← hmid.2]; exact hrd
  | y :: mid, m1, rest, frp, frm, hq, hm, e, hacts, hat, hrd, hmid => by
    obtain ⟨oy, fry, hy, hoy, hst, hn, hag, hmid⟩ := plan_cons hmid
    have hat' : stepsPlan E call nt l (x :: (m1 ++ [y])) fr1 h1 = some (fry, hy) := by
      have : stepsPlan E call nt l [y] frp hq = some (fry, hy) := by
        simp only [stepsPlan, nth_eq, hoy, hst, ble_eq, hn, hag, decide_true, Bool.and_self, cond_true]
      exact plan_join hat this
    refine stay (pre1 := pre1) hp hS ho hr hs hw hpv mid (m1 ++ [y]) rest fry frm hy hm (by rw [e]; simp) (fun z hz => hacts z (List.mem_cons_of_mem _ hz)) hat' ?_ hmid
    cases ha : isAct E oy with
    | false =>
      rcases quiet_step hst ha with rfl | ⟨k, mk, _, _, _, rfl⟩
      · exact hrd
      · exact readOp_mono k hrd
    | true =>
      have hSy := hacts y List.mem_cons_self oy hoy ha
      have epre : pl = (pre1 ++ x :: m1) ++ y :: (mid ++ rest) := by rw [e]; simp
      have ex : pl = pre1 ++ x :: (m1 ++ y :: (mid ++ rest)) := by rw [e]; simp
      obtain ⟨oy', by_, hoy', hby, _, hprey, _, hrr⟩ := hp.at_ _ y _ epre
      rw [hoy] at hoy'; cases hoy'
      have hnb : ¬ by_.testBit x.i = true := fun hb => hs (bef hS x.i y.i oy by_ hoy hby (hS y.i oy hSy hoy) hb)
      have hxm : x ∈ pre1 ++ x :: m1 := by simp
      rcases hrr ha x hxm o ho hr with hb | ⟨hmem, hfine⟩
      · exact absurd hb hnb
      · obtain ⟨_, bx, hox', hbx, hndx, _⟩ := hp.at_ _ x _ ex
        -- the frames
        have hag2 : ∀ t ∈ looks l o, fry.get t = fr1.get t := by
          intro t ht
          refine plan_get hat' fun z hz hw => ?_
          have hzx : z ∈ x :: m1 ∨ z = y := by
            rcases List.mem_cons.1 hz with rfl | hz
            · exact .inl List.mem_cons_self
            · rcases List.mem_append.1 hz with hz | hz
              · exact .inl (List.mem_cons_of_mem _ hz)
              · exact .inr (by simpa using hz)
          rcases hfine bx hbx t ht z.i hw with hb | hb
          · obtain ⟨u, hu, hue⟩ := hp.predIn ex hbx hb
            have : z ∈ x :: (m1 ++ y :: (mid ++ rest)) := by
              rcases hzx with hz | rfl
              · rcases List.mem_cons.1 hz with rfl | hz
                · exact List.mem_cons_self
                · simp [hz]
              · simp
            exact hp.nodup ex hu this hue
          · rcases hzx with hz | rfl
            · exact hb z (List.mem_append_right _ hz) rfl
            · rcases hp.slots x.i o bx t ho hbx ht z.i hw with h2 | h2 | ⟨bq, hbq, h2⟩
              · exact hb x hxm h2
              · obtain ⟨u, hu, hue⟩ := hp.predIn ex hbx h2
                exact hb u (List.mem_append_left _ hu) hue
              · rw [hby] at hbq; cases hbq; exact hnb h2
        have hwy : wantedA l fry o = some true := by rw [wanted_congr hag2]; exact hw
        obtain ⟨v1, v2, hv1, hv2, rfl⟩ := again_mem hag hmem ho hwy
        have hd : v1 = v := by
          cases hdst : o.dst with
          | none => rw [hdst] at hv2; cases hv2
          | some d =>
            rw [hdst] at hv2
            simp only [Option.bind_some] at hv2
            have : stepsPlan E call nt l ([x] ++ (m1 ++ [y])) fr1 h1 = some (fry, hy) := hat'
            obtain ⟨frx, hx, e1, e2⟩ := plan_append this
            rw [plan_get e2 fun z hz hw => ?_, hpv frx hx e1 d hdst] at hv2
            · exact (Option.some.inj hv2).symm
            · have := hp.once _ _ _ hw ⟨o, ho, hdst⟩
              have hz2 : z ∈ m1 ++ y :: (mid ++ rest) := by
                rcases List.mem_append.1 hz with hz | hz
                · simp [hz]
                · simp at hz; simp [hz]
              exact hp.nodup (A := pre1 ++ [x]) (B := m1 ++ y :: (mid ++ rest)) (by rw [ex]; simp) (z := x) (by simp) hz2 this.symm
        subst hd
        rw [← readOp_congr (looks_operands hag2)]
        exact hv1
variable {fr0 frN : Fr} {h0 hN : Heap}

theorem agree (hp : PlanF E l (beforeOf l []) pl) (hrun : stepsPlan E call nt l pl fr0 h0 = some (frN, hN)) {S : Nat → Prop} (hS : Closed l S) {pre1 suf1 : List Item} {x : Item} {o : Oper} (e : pl = pre1 ++ x :: suf1) (ho : l[x.i]? = some o) (hs : ¬ S x.i)
    (hpre : ∀ e ∈ o.after, Region.binds .any e = true → S e.on) {fr1 : Fr} {h1 : Heap} (hat : stepsPlan E call nt l pre1 fr0 h0 = some (fr1, h1)) {frS : Fr}
    (hW : ∀ i t, S i → wr l i t → frS.get t = frN.get t) (hN' : ∀ t, (∀ i, S i → ¬ wr l i t) → frS.get t = fr0.get t) :
    ∀ t ∈ looks l o, frS.get t = fr1.get t := by
  intro t ht
  obtain ⟨o', b, ho', hb, hnd, _⟩ := hp.at_ pre1 x suf1 e
  rw [ho] at ho'; cases ho'
  have hrest : stepsPlan E call nt l (x :: suf1) fr1 h1 = some (frN, hN) := by
    rw [e] at hrun
    obtain ⟨f, hh, e1, e2⟩ := plan_append hrun
    rw [hat] at e1; cases e1; exact e2
  by_cases hq : ∃ q, wr l q t
  · obtain ⟨q, hq⟩ := hq
    rcases hp.slots x.i o b t ho hb ht q hq with rfl | hbq | ⟨bq, hbq, hbit⟩
    · rw [hN' t fun i hi hw => hs (hp.once _ _ _ hw hq ▸ hi)]
      rw [plan_get hat fun y hy hw => hnd y hy (hp.once _ _ _ hw hq)]
    · have hSq : S q := bef hS q x.i o b ho hb hpre hbq
      rw [hW q t hSq hq]
      obtain ⟨z, hz, hzq⟩ := hp.predIn e hb hbq
      exact plan_get hrest fun y hy hw => hp.nodup e hz hy (hzq.trans (hp.once _ _ _ hq hw))
    · obtain ⟨oq, hoq, _⟩ := id hq
      have hSq : ¬ S q := fun hSq => hs (bef hS x.i q oq bq hoq hbq (hS q oq hSq hoq) hbit)
      rw [hN' t fun i hi hw => hSq (hp.once _ _ _ hw hq ▸ hi)]
      rw [plan_get hat fun y hy hw => ?_]
      have := hp.once _ _ _ hw hq
      subst this
      obtain ⟨p1, p2, rfl⟩ := List.append_of_mem hy
      obtain ⟨z, hz, hzq⟩ := hp.predIn (pre := p1) (suf := p2 ++ x :: suf1) (by rw [e, List.append_assoc]; rfl) hbq hbit
      exact hnd z (List.mem_append_left _ hz) hzq
  · rw [hN' t fun i _ hw => hq ⟨i, hw⟩]
    rw [plan_get hat fun y _ hw => hq ⟨_, hw⟩]

end
end
end Go.Ev

namespace Go.Ev
section
variable {P : Program} {E : Env} {call : Fn → List Value → Heap → Option (Value × Heap)} {nt : Nat} {l : List Oper}

/-- a walk that came to the plan's part 'pre': S is what it has run -/
structure Inv (P : Program) (E : Env) (call : Fn → List Value → Heap → Option (Value × Heap)) (nt : Nat) (l : List Oper) (pl : List Item) (fr0 frN : Fr) (ρ0 : Ren) (h0 : Heap) (w0 : World)
    (B : Nat) (S : Nat → Prop) (pre suf : List Item) (frT : Fr) (hT : Heap) (ρ : Ren) (frS : Fr) (a : Act) (w : World) : Prop where
  pl : pl = pre ++ suf
  at_ : stepsPlan E call nt l pre fr0 h0 = some (frT, hT)
  acts : ∀ y ∈ pre, ∀ o, l[y.i]? = some o → isAct E o = true → S y.i
  out : ∀ y ∈ suf, ¬ S y.i
  closed : Closed l S
  fr : FR E ρ frS a
  st : Stp P ρ0 h0 w0 ρ hT w
  nt_ : a.tmps.size = nt
  df : DR B ρ w a.defers
  slotsW : ∀ i t, S i → wr l i t → frS.get t = frN.get t
  slotsN : ∀ t, (∀ i, S i → ¬ wr l i t) → frS.get t = fr0.get t
  pend : ∀ pre1 x m, pre = pre1 ++ x :: m → ¬ S x.i → ∀ o fr1 h1 k mk, l[x.i]? = some o → kindOf E o.op = .alloc → stepsPlan E call nt l pre1 fr0 h0 = some (fr1, h1) → wantedA l fr1 o = some true →
    allocOp E fr1 o = some (k, mk) → ρ h1.n = none ∧ hT.b.get h1.n = some k ∧ h0.n ≤ h1.n ∧ h1.n < hT.n

theorem Stp.grow {ρ : Ren} {h : Heap} {w : World} (hr : HR P ρ h w) (k : Blk) : Stp P ρ h w ρ (newBlk h k) w where
  le := Ren.le_refl _
  hr := hr.grow k
  n := by simp [newBlk]
  new i x e e0 := by rw [e] at e0; cases e0
  keep i hi _ := get_newBlk hi
  os := rfl
  tape := rfl
  output := rfl
  size := Nat.le_refl _
  frame _ _ _ := rfl
  img i b c e _ := ⟨i, c, e, .inl rfl⟩
  stays i x e := by
    have := (hr.dom i x.1 x.2 e).1
    rw [get_newBlk this]; exact ⟨id, fun _ e => e⟩

theorem Stp.bind {ρ0 ρ : Ren} {h0 h : Heap} {w0 w : World} (hs : Stp P ρ0 h0 w0 ρ h w) {i c : Nat} {k : Blk} {o : Obj} (hi : i < h.n) (h0i : h0.n ≤ i) (hn : ρ i = none) (hk : h.b.get i = some k) (hb : BR P ρ c k o) :
    Stp P ρ0 h0 w0 (ρ.upd i (w.heap.size, c)) h { w with heap := w.heap.push o } where
  le := Ren.le_trans hs.le (Ren.le_upd _ hn)
  hr := hs.hr.bind hi hn hk hb rfl
  n := hs.n
  new j x e e0 := by
    by_cases hj : j = i
    · omega
    · rw [Ren.upd_ne ρ _ hj] at e; exact hs.new j x e e0
  keep := hs.keep
  os := hs.os
  tape := hs.tape
  output := hs.output
  size := by have := hs.size; simp; omega
  frame b hb hno := by
    show (w.heap.push o)[b]? = _
    rw [Array.getElem?_push, if_neg (by have := hs.size; omega)]
    exact hs.frame b hb hno
  img j b d e hlt := by
    by_cases hj : j = i
    · subst hj; rw [Ren.upd_same] at e; cases e; have := hs.size; omega
    · rw [Ren.upd_ne ρ _ hj] at e; exact hs.img j b d e hlt
  stays := hs.stays

/-- the slots behind one operation more -/
theorem settle {fr0 frN : Fr} {S : Nat → Prop} {frS frS' : Fr} {i : Nat} {o : Oper} {v : Value} (ho : l[i]? = some o) (hW : ∀ i t, S i → wr l i t → frS.get t = frN.get t)
    (hN' : ∀ t, (∀ i, S i → ¬ wr l i t) → frS.get t = fr0.get t) (hput : put nt frS o v = some frS') (hc : ∀ d, o.dst = some d → frN.get d = some v) :
    (∀ j t, (S j ∨ j = i) → wr l j t → frS'.get t = frN.get t) ∧ (∀ t, (∀ j, (S j ∨ j = i) → ¬ wr l j t) → frS'.get t = fr0.get t) := by
  constructor
  · intro j t hj hw
    rw [put_get hput]
    by_cases hd : o.dst = some t
    · rw [if_pos hd, hc t hd]
    · rw [if_neg hd]
      rcases hj with hj | rfl
      · exact hW j t hj hw
      · obtain ⟨o', ho', hd'⟩ := hw
        rw [ho] at ho'; cases ho'; exact absurd hd' hd
  · intro t hno
    rw [put_get hput, if_neg fun hd => hno i (.inr rfl) ⟨o, ho, hd⟩]
    exact hN' t fun j hj => hno j (.inl hj)

section
variable {pl : List Item} {fr0 frN : Fr} {ρ0 : Ren} {h0 hN : Heap} {w0 : World}

theorem advance {B : Nat} (hp : PlanF E l (beforeOf l []) pl) (hrun : stepsPlan E call nt l pl fr0 h0 = some (frN, hN)) {S : Nat → Prop} {ρ : Ren} {frS : Fr} {a : Act} {w : World} : ∀ (suf pre : List Item) (frT : Fr) (hT : Heap), Inv P E call nt l pl fr0 frN ρ0 h0 w0 B S pre suf frT hT ρ frS a w →
    ∃ pre' suf' frT' hT', Inv P E call nt l pl fr0 frN ρ0 h0 w0 B S pre' suf' frT' hT' ρ frS a w ∧ (suf' = [] ∨ ∃ x s o, suf' = x :: s ∧ l[x.i]? = some o ∧ isAct E o = true)
  | [], pre, frT, hT, inv => ⟨pre, [], frT, hT, inv, .inl rfl⟩
  | x :: s, pre, frT, hT, inv => by
    obtain ⟨o, b, ho, hb, _⟩ := hp.at_ pre x s inv.pl
    cases ha : isAct E o with
    | true => exact ⟨pre, x :: s, frT, hT, inv, .inr ⟨x, s, o, rfl, ho, ha⟩⟩
    | false =>
      have hrest : stepsPlan E call nt l (x :: s) frT hT = some (frN, hN) := by
        have := hrun
        rw [inv.pl] at this
        obtain ⟨f, hh, e1, e2⟩ := plan_append this
        rw [inv.at_] at e1; cases e1; exact e2
      obtain ⟨o', fr1, h1, ho', hst, hn, hag, hrest⟩ := plan_cons hrest
      rw [ho] at ho'; cases ho'
      have hx1 : stepsPlan E call nt l [x] frT hT = some (fr1, h1) := by
        simp only [stepsPlan, nth_eq, ho, hst, ble_eq, hn, hag, decide_true, Bool.and_self, cond_true]
      have hq := quiet_step hst ha
      refine advance hp hrun s (pre ++ [x]) fr1 h1 {
        pl := by rw [inv.pl]; simp
        at_ := plan_join inv.at_ hx1
        acts := fun y hy oy hoy hay => ?_
        out := fun y hy => inv.out y (List.mem_cons_of_mem _ hy)
        closed := inv.closed
        fr := inv.fr
        st := ?_
        nt_ := inv.nt_
        df := inv.df
        slotsW := inv.slotsW
        slotsN := inv.slotsN
        pend := ?_ }
      · rcases List.mem_append.1 hy with hy | hy
        · exact inv.acts y hy oy hoy hay
        · simp only [List.mem_singleton] at hy; subst hy
          rw [ho] at hoy; cases hoy; rw [ha] at hay; cases hay
      · rcases hq with rfl | ⟨k, mk, _, _, _, rfl⟩
        · exact inv.st
        · exact inv.st.trans (Stp.grow inv.st.hr k)
      · intro pre1 y m e hSy oy fry hy k mk hoy hky haty hwy hal
        rcases List.eq_nil_or_concat m with rfl | ⟨m', z, rfl⟩
        · have := List.append_inj' e rfl
          obtain ⟨rfl, e2⟩ := this
          cases e2
          rw [inv.at_] at haty; cases haty
          rw [ho] at hoy; cases hoy
          rcases hq with h1e | ⟨k', mk', _, _, hal', rfl⟩
          · -- it makes a block
            exfalso
            obtain ⟨v, _, ⟨hw, _⟩ | ⟨hw, hop⟩⟩ := step_val hst
            · rw [hwy] at hw; cases hw
            · unfold opBy at hop
              rw [hky] at hop
              simp only [hal, Option.map_some, Option.some.injEq, Prod.mk.injEq] at hop
              have := congrArg Heap.n hop.2
              rw [h1e] at this
              simp [newBlk] at this
          · rw [hal] at hal'; cases hal'
            exact ⟨inv.st.hr.fresh, by simp [newBlk, T.get_set], inv.st.n, by simp [newBlk]⟩
        · have e3 : pre ++ [x] = (pre1 ++ y :: m') ++ [z] := by rw [e]; simp
          obtain ⟨e4, _⟩ := List.append_inj' e3 rfl
          obtain ⟨g1, g2, g3, g4⟩ := inv.pend pre1 y m' e4 hSy oy fry hy k mk hoy hky haty hwy hal
          rcases hq with rfl | ⟨k', mk', _, _, _, rfl⟩
          · exact ⟨g1, g2, g3, g4⟩
          · exact ⟨g1, by rw [get_newBlk g4]; exact g2, g3, by simp [newBlk]; omega⟩

theorem final_val (hp : PlanF E l (beforeOf l []) pl) (hrun : stepsPlan E call nt l pl fr0 h0 = some (frN, hN)) {pre suf : List Item} {x : Item} {o : Oper} {fr1 : Fr} {h1 : Heap} (e : pl = pre ++ x :: suf) (ho : l[x.i]? = some o) (hat : stepsPlan E call nt l pre fr0 h0 = some (fr1, h1)) :
    ∃ frx hx v, step E call nt l fr1 o h1 = some (frx, hx) ∧ stepsPlan E call nt l [x] fr1 h1 = some (frx, hx) ∧ stepsPlan E call nt l suf frx hx = some (frN, hN) ∧ h1.n ≤ hx.n ∧ put nt fr1 o v = some frx ∧ (∀ d, o.dst = some d → frx.get d = some v) ∧ (∀ d, o.dst = some d → frN.get d = some v) ∧
      ((wantedA l fr1 o = some false ∧ v = undef ∧ hx = h1) ∨ (wantedA l fr1 o = some true ∧ opBy E call fr1 o h1 = some (v, hx))) := by
  have hrest : stepsPlan E call nt l (x :: suf) fr1 h1 = some (frN, hN) := by
    have := hrun
    rw [e] at this
    obtain ⟨f, hh, e1, e2⟩ := plan_append this
    rw [hat] at e1; cases e1; exact e2
  obtain ⟨o', frx, hx, ho', hst, hn, hag, hrest⟩ := plan_cons hrest
  rw [ho] at ho'; cases ho'
  have hx1 : stepsPlan E call nt l [x] fr1 h1 = some (frx, hx) := by
    simp only [stepsPlan, nth_eq, ho, hst, ble_eq, hn, hag, decide_true, Bool.and_self, cond_true]
  obtain ⟨v, hput, hcase⟩ := step_val hst
  have hd : ∀ d, o.dst = some d → frx.get d = some v := fun d hd => by rw [put_get hput, if_pos hd]
  refine ⟨frx, hx, v, hst, hx1, hrest, hn, hput, hd, fun d hdd => ?_, hcase⟩
  rw [plan_get hrest fun y hy hw => ?_, hd d hdd]
  have := hp.once _ _ _ hw ⟨o, ho, hdd⟩
  exact hp.nodup (A := pre ++ [x]) (B := suf) (by rw [e]; simp) (z := x) (by simp) hy this.symm
end
end
end Go.Ev

namespace Go.Ev
section
variable {P : Program} {E : Env} {F : Fence} {n : Nat} {call : Fn → List Value → Heap → Option (Value × Heap)} {nt : Nat} {ops : Array Oper}
variable {pl : List Item} {fr0 frN : Fr} {ρ0 : Ren} {h0 hN : Heap} {w0 : World} {B : Nat}

abbrev InvL (P : Program) (E : Env) (call : Fn → List Value → Heap → Option (Value × Heap)) (nt : Nat) (ops : Array Oper) (pl : List Item) (fr0 frN : Fr) (ρ0 : Ren) (h0 : Heap) (w0 : World) (B : Nat) (listed : Array Bool) :=
  Inv P E call nt ops.toList pl fr0 frN ρ0 h0 w0 B (fun i => listed.getD i false = true)

theorem DR.push {ρ : Ren} {w : World} {ds : List Deferred} (hd : DR B ρ w ds) (i c : Nat) (o : Obj) : DR B (ρ.upd i (w.heap.size, c)) { w with heap := w.heap.push o } ds := by
  refine ⟨hd.nd, fun d hm => ?_⟩
  obtain ⟨D, e, hB, hD, hi⟩ := hd.each d hm
  have hlt := (Array.getElem?_eq_some_iff.1 hD).1
  refine ⟨D, e, hB, ?_, fun j c' hh => ?_⟩
  · show (w.heap.push o)[D]? = _
    rw [Array.getElem?_push, if_neg (by omega)]; exact hD
  · by_cases hj : j = i
    · subst hj; rw [Ren.upd_same] at hh; cases hh; omega
    · rw [Ren.upd_ne ρ _ hj] at hh; exact hi j c' hh

theorem getD_listed {listed : Array Bool} {i j : Nat} (hi : i < listed.size) : ((listed.setIfInBounds i true).getD j false = true) ↔ (listed.getD j false = true ∨ j = i) := by
  simp only [Array.getD_eq_getD_getElem?, Array.getElem?_setIfInBounds]
  by_cases h : i = j
  · subst h; simp [hi]
  · simp [h, Ne.symm h]

theorem count_set {listed : Array Bool} {i n : Nat} (hi : i < listed.size) (hf : listed.getD i true = false) (hc : listed.toList.count false = n + 1) : (listed.setIfInBounds i true).toList.count false = n := by
  have hg : listed.toList[i]'(by simpa using hi) = false := by
    simp only [Array.getD_eq_getD_getElem?, Array.getElem?_eq_getElem hi, Option.getD_some] at hf
    simpa using hf
  rw [Array.toList_setIfInBounds, List.count_set (by simpa using hi), hg]
  simp [hc]

theorem ready_nil_all (hp : PlanF E ops.toList (beforeOf ops.toList []) pl) {listed : Array Bool} (hsz : listed.size = ops.size) (h : Region.ready .any ops listed = []) :
    ∀ (suf pre : List Item), pl = pre ++ suf → (∀ y ∈ pre, listed.getD y.i false = true) → ∀ y ∈ pl, listed.getD y.i false = true
  | [], pre, e, hh, y, hy => by rw [e, List.append_nil] at hy; exact hh y hy
  | x :: s, pre, e, hh, y, hy => by
    obtain ⟨o, b, ho, _, _, hpre, _⟩ := hp.at_ pre x s e
    refine ready_nil_all hp hsz h s (pre ++ [x]) (by rw [e]; simp) (fun z hz => ?_) y hy
    rcases List.mem_append.1 hz with hz | hz
    · exact hh z hz
    · simp only [List.mem_singleton] at hz; subst hz
      rw [Array.getElem?_toList] at ho
      have hlt : z.i < listed.size := by rw [hsz]; exact (Array.getElem?_eq_some_iff.1 ho).1
      by_cases hf : listed.getD z.i true = false
      · have : z.i ∈ Region.ready .any ops listed := mem_ready.2 ⟨hf, o, ho, fun ed hed hbd => by
          obtain ⟨u, hu, hue⟩ := hpre ed hed hbd
          rw [← hue]; exact hh u hu⟩
        rw [h] at this; cases this
      · simp only [Array.getD_eq_getD_getElem?, Array.getElem?_eq_getElem hlt, Option.getD_some, Bool.not_eq_false] at hf ⊢
        exact hf

theorem finish (hp : PlanF E ops.toList (beforeOf ops.toList []) pl) (hrun : stepsPlan E call nt ops.toList pl fr0 h0 = some (frN, hN)) {listed : Array Bool} (hsz : listed.size = ops.size) (h : Region.ready .any ops listed = [])
    {pre suf : List Item} {frT : Fr} {hT : Heap} {ρ : Ren} {frS : Fr} {a : Act} {w : World} (inv : InvL P E call nt ops pl fr0 frN ρ0 h0 w0 B listed pre suf frT hT ρ frS a w) :
    After B P E ρ0 h0 w0 nt frN hN a w := by
  have hall := ready_nil_all hp hsz h pl [] rfl (by simp)
  have hsuf : suf = [] := by
    cases hs : suf with
    | nil => rfl
    | cons x s =>
      have := inv.out x (by rw [hs]; exact List.mem_cons_self)
      exact absurd (hall x (by rw [inv.pl, hs]; simp)) this
  subst hsuf
  have hpl : pl = pre := by rw [inv.pl]; simp
  have hat := inv.at_
  rw [← hpl, hrun] at hat
  cases hat
  refine ⟨ρ, ⟨inv.fr.glob, fun t => ?_⟩, inv.st, inv.nt_, inv.df⟩
  have : frS.get t = frN.get t := by
    by_cases hq : ∃ q, wr ops.toList q t
    · obtain ⟨q, hq⟩ := hq
      obtain ⟨oq, hoq, _⟩ := id hq
      obtain ⟨x, hx, rfl⟩ := hp.cov q (List.getElem?_eq_some_iff.1 hoq).1
      exact inv.slotsW _ t (hall x hx) hq
    · rw [inv.slotsN t fun i _ hw => hq ⟨i, hw⟩, plan_get hrun fun y _ hw => hq ⟨_, hw⟩]
  rw [← this]
  exact inv.fr.tmp t

theorem alloc_lt {l : List Oper} {pre2 m3 : List Item} {y : Item} {oy : Oper} {fr0 fr2 fr3 : Fr} {h0 h2 h3 : Heap} {k : Blk} {mk : Nat → Value} (hoy : l[y.i]? = some oy) (hky : kindOf E oy.op = .alloc)
    (hat : stepsPlan E call nt l pre2 fr0 h0 = some (fr2, h2)) (hw : wantedA l fr2 oy = some true) (hal : allocOp E fr2 oy = some (k, mk)) (hat3 : stepsPlan E call nt l (pre2 ++ y :: m3) fr0 h0 = some (fr3, h3)) : h2.n < h3.n := by
  obtain ⟨f, hh, e1, e2⟩ := plan_append hat3
  rw [hat] at e1; cases e1
  obtain ⟨o, frx, hx, ho, hst, hn, hag, e2⟩ := plan_cons e2
  rw [hoy] at ho; cases ho
  have := plan_n e2
  obtain ⟨v, _, ⟨hw', _⟩ | ⟨_, hop⟩⟩ := step_val hst
  · rw [hw] at hw'; cases hw'
  · unfold opBy at hop
    rw [hky] at hop
    simp only [hal, Option.map_some, Option.some.injEq, Prod.mk.injEq] at hop
    have h4 := congrArg Heap.n hop.2
    simp [newBlk] at h4
    omega

/-- an operation more, that is no act -/
theorem quiet_more (hE : EnvOK P E) (hF : FOK F) (hp : PlanF E ops.toList (beforeOf ops.toList []) pl) (hrun : stepsPlan E call nt ops.toList pl fr0 h0 = some (frN, hN)) {listed : Array Bool} (hsz : listed.size = ops.size)
    {pre suf : List Item} {frT : Fr} {hT : Heap} {ρ : Ren} {frS : Fr} {a : Act} {w : World} (inv : InvL P E call nt ops pl fr0 frN ρ0 h0 w0 B listed pre suf frT hT ρ frS a w)
    {pre1 m : List Item} {x : Item} {o : Oper} (epre : pre = pre1 ++ x :: m) (ho : ops[x.i]? = some o) (hs : ¬ listed.getD x.i false = true) (ha : isAct E o = false) (hpre : ∀ e ∈ o.after, Region.binds .any e = true → listed.getD e.on false = true)
    {Q : Exit → Act → World → Prop} {K : Act → World → Prop} (k : ∀ ρ' frS' a' w', InvL P E call nt ops pl fr0 frN ρ0 h0 w0 B (listed.setIfInBounds x.i true) pre suf frT hT ρ' frS' a' w' → K a' w') : wpOpIn F n P ops Q x.i K a w := by
  have hlt : x.i < listed.size := by rw [hsz]; exact (Array.getElem?_eq_some_iff.1 ho).1
  have ho' : ops.toList[x.i]? = some o := by rw [Array.getElem?_toList]; exact ho
  have epl : pl = pre1 ++ x :: (m ++ suf) := by rw [inv.pl, epre]; simp
  obtain ⟨fr1, h1, hat1, hat2⟩ : ∃ fr1 h1, stepsPlan E call nt ops.toList pre1 fr0 h0 = some (fr1, h1) ∧ stepsPlan E call nt ops.toList (x :: m) fr1 h1 = some (frT, hT) := by
    have := inv.at_; rw [epre] at this; exact plan_append this
  obtain ⟨frx, hx, v, hst, hx1, hrest, hn, hput, hdx, hdN, hcase⟩ := final_val hp hrun epl ho' hat1
  have hag := agree hp hrun inv.closed epl ho' hs hpre hat1 inv.slotsW inv.slotsN
  obtain ⟨frS', hputS⟩ := put_some hput frS
  obtain ⟨hW', hN'⟩ := settle (fr0 := fr0) ho' inv.slotsW inv.slotsN hputS hdN
  have hcl : Closed ops.toList (fun i => (listed.setIfInBounds x.i true).getD i false = true) := by
    intro i oi hi hoi ed hed hbd
    rw [getD_listed hlt] at hi ⊢
    rcases hi with hi | rfl
    · exact .inl (inv.closed i oi hi hoi ed hed hbd)
    · rw [ho'] at hoi; cases hoi; exact .inl (hpre ed hed hbd)
  -- what is the same whatever it does
  have mk : ∀ (ρ' : Ren) (w' : World) (v' : Value), VR ρ' v v' → ρ.le ρ' → Stp P ρ0 h0 w0 ρ' hT w' → (∀ i, ρ' i ≠ ρ i → i = h1.n ∧ kindOf E o.op = .alloc ∧ ∃ k mk, wantedA ops.toList fr1 o = some true ∧ allocOp E fr1 o = some (k, mk)) → DR B ρ' w' a.defers →
      InvL P E call nt ops pl fr0 frN ρ0 h0 w0 B (listed.setIfInBounds x.i true) pre suf frT hT ρ' frS' (a.put o.dst v') w' := by
    intro ρ' w' v' r hle hst' hdiff hdr
    exact {
      pl := inv.pl
      at_ := inv.at_
      acts := fun y hy oy hoy hay => (getD_listed hlt).2 (.inl (inv.acts y hy oy hoy hay))
      out := fun y hy hh => by
        rcases (getD_listed hlt).1 hh with hh | hh
        · exact inv.out y hy hh
        · exact hp.nodup (A := pre) (B := suf) inv.pl (z := x) (by rw [epre]; simp) hy hh.symm
      closed := hcl
      fr := FR.put (inv.fr.mono hle) inv.nt_ r hputS
      st := hst'
      nt_ := by rw [put_size]; exact inv.nt_
      df := by rw [put_defers]; exact hdr
      slotsW := fun j t hj => hW' j t ((getD_listed hlt).1 hj)
      slotsN := fun t hno => hN' t fun j hj => hno j ((getD_listed hlt).2 hj)
      pend := by
        intro pre2 y m2 e2 hSy oy fry hy kk mkk hoy hky haty hwy hal
        have hSy1 : ¬ listed.getD y.i false = true := fun hh => hSy ((getD_listed hlt).2 (.inl hh))
        have hyx : y.i ≠ x.i := fun hh => hSy ((getD_listed hlt).2 (.inr hh))
        obtain ⟨g1, g2, g3, g4⟩ := inv.pend pre2 y m2 e2 hSy1 oy fry hy kk mkk hoy hky haty hwy hal
        refine ⟨?_, g2, g3, g4⟩
        cases hd : decide (ρ' hy.n = ρ hy.n) with
        | true => rw [of_decide_eq_true hd]; exact g1
        | false =>
          exfalso
          obtain ⟨hid, hk, k2, mk2, hw2, hal2⟩ := hdiff _ (of_decide_eq_false hd)
          rw [epre] at e2
          rcases List.append_eq_append_iff.1 e2 with ⟨c, hc1, hc2⟩ | ⟨c, hc1, hc2⟩
          · cases c with
            | nil => simp only [List.nil_append, List.cons.injEq] at hc2; exact hyx (by rw [hc2.1])
            | cons z c =>
              simp only [List.cons_append, List.cons.injEq] at hc2
              rw [hc1, ← hc2.1] at haty
              have := alloc_lt ho' hk hat1 hw2 hal2 haty
              omega
          · cases c with
            | nil => simp only [List.nil_append, List.cons.injEq] at hc2; exact hyx (by rw [hc2.1])
            | cons z c =>
              simp only [List.cons_append, List.cons.injEq] at hc2
              rw [hc1, ← hc2.1] at hat1
              have := alloc_lt hoy hky haty hwy hal hat1
              omega }
  have hwS : wantedA ops.toList frS o = wantedA ops.toList fr1 o := wanted_congr hag
  have hop := looks_operands (E := E) hag
  unfold wpOpIn
  simp only [ho]
  rcases hcase with ⟨hw, rfl, rfl⟩ | ⟨hw, hopv⟩
  · rw [wanted_sim inv.fr (hwS.trans hw), if_neg (by simp)]
    exact ⟨fun f _ => hF.fn f, k _ _ _ _ (mk ρ w undef (VR.undef ρ) (Ren.le_refl _) inv.st (fun i h => absurd rfl h) inv.df)⟩
  · rw [wanted_sim inv.fr (hwS.trans hw), if_pos rfl]
    have hnd := opBy_defer hopv
    unfold opBy at hopv
    unfold isAct at ha
    split at hopv
    · simp only [Option.map_eq_some_iff, Prod.mk.injEq] at hopv
      obtain ⟨u, e, rfl, rfl⟩ := hopv
      rw [← pureOp_congr hop] at e
      obtain ⟨v', hr, r⟩ := pure_sim hE inv.fr e
      exact wp_of_ok hF hnd (hr w) rfl (k _ _ _ _ (mk ρ w v' r (Ren.le_refl _) inv.st (fun i h => absurd rfl h) inv.df))
    · rename_i hk
      simp only [Option.map_eq_some_iff, Prod.mk.injEq] at hopv
      obtain ⟨u, e, rfl, rfl⟩ := hopv
      have hstay := stay (pre1 := pre1) hp inv.closed ho' (kind_read.2 hk) hs hw (fun frx2 hx2 e2 d hd => by rw [hx1] at e2; cases e2; exact hdx d hd)
        m [] suf frx frT h1 hT (by rw [epl]; simp) (fun y hy oy hoy hay => inv.acts y (by rw [epre]; simp [hy]) oy hoy hay) (by simpa using hx1) e
        (by
          obtain ⟨f, hh, e1, e2⟩ := plan_append (xs := [x]) (ys := m) (by simpa using hat2)
          rw [hx1] at e1; cases e1; exact e2)
      rw [← readOp_congr hop] at hstay
      obtain ⟨v', hr, r⟩ := read_sim hE inv.fr inv.st.hr hstay
      exact wp_of_ok hF hnd hr rfl (k _ _ _ _ (mk ρ w v' r (Ren.le_refl _) inv.st (fun i h => absurd rfl h) inv.df))
    · rename_i hk
      simp only [Option.map_eq_some_iff, Prod.mk.injEq] at hopv
      obtain ⟨⟨kb, mkb⟩, e, rfl, rfl⟩ := hopv
      obtain ⟨g1, g2, g3, g4⟩ := inv.pend pre1 x m epre hs o fr1 h1 kb mkb ho' hk hat1 hw e
      rw [← allocOp_congr hop] at e
      obtain ⟨obj, mk', hr, hb, hd, hv⟩ := alloc_sim hE inv.fr e
      refine wp_of_ok hF hnd (hr w) rfl (k _ _ _ _ (mk (ρ.upd h1.n (w.heap.size, 0)) _ _ (hv _ _ _ (Ren.upd_same _ _ _)) (Ren.le_upd _ g1) (Stp.bind inv.st g4 g3 g1 g2 hb) (fun i hi => ?_) (inv.df.push _ _ _)))
      by_cases hin : i = h1.n
      · rw [allocOp_congr hop] at e
        exact ⟨hin, hk, kb, mkb, hw, e⟩
      · exact absurd (Ren.upd_ne ρ _ hin) hi
    · rename_i hk; rw [hk] at ha; cases ha

/-- the act whose turn it is -/
theorem act_more (hE : EnvOK P E) (hF : FOK F) (hc : CallSound P E call) (hp : PlanF E ops.toList (beforeOf ops.toList []) pl) (hrun : stepsPlan E call nt ops.toList pl fr0 h0 = some (frN, hN)) {listed : Array Bool} (hsz : listed.size = ops.size)
    {pre s : List Item} {frT : Fr} {hT : Heap} {ρ : Ren} {frS : Fr} {a : Act} {w : World} {x : Item} (inv : InvL P E call nt ops pl fr0 frN ρ0 h0 w0 B listed pre (x :: s) frT hT ρ frS a w)
    {o : Oper} (ho : ops[x.i]? = some o) (hs : ¬ listed.getD x.i false = true) (hpre : ∀ e ∈ o.after, Region.binds .any e = true → listed.getD e.on false = true)
    {Q : Exit → Act → World → Prop} {K : Act → World → Prop} (k : ∀ frT' hT' ρ' frS' a' w', InvL P E call nt ops pl fr0 frN ρ0 h0 w0 B (listed.setIfInBounds x.i true) (pre ++ [x]) s frT' hT' ρ' frS' a' w' → K a' w') : wpOpIn F n P ops Q x.i K a w := by
  have hlt : x.i < listed.size := by rw [hsz]; exact (Array.getElem?_eq_some_iff.1 ho).1
  have ho' : ops.toList[x.i]? = some o := by rw [Array.getElem?_toList]; exact ho
  obtain ⟨frx, hx, v, hst, hx1, hrest, hn, hput, hdx, hdN, hcase⟩ := final_val hp hrun inv.pl ho' inv.at_
  have hag := agree hp hrun inv.closed inv.pl ho' hs hpre inv.at_ inv.slotsW inv.slotsN
  obtain ⟨frS', hputS⟩ := put_some hput frS
  obtain ⟨hW', hN'⟩ := settle (fr0 := fr0) ho' inv.slotsW inv.slotsN hputS hdN
  have mk : ∀ (ρ' : Ren) (w' : World) (v' : Value), VR ρ' v v' → Stp P ρ hT w ρ' hx w' → InvL P E call nt ops pl fr0 frN ρ0 h0 w0 B (listed.setIfInBounds x.i true) (pre ++ [x]) s frx hx ρ' frS' (a.put o.dst v') w' := by
    intro ρ' w' v' r hst'
    exact {
      pl := by rw [inv.pl]; simp
      at_ := plan_join inv.at_ hx1
      acts := fun y hy oy hoy hay => (getD_listed hlt).2 (by
        rcases List.mem_append.1 hy with hy | hy
        · exact .inl (inv.acts y hy oy hoy hay)
        · exact .inr (by simp only [List.mem_singleton] at hy; rw [hy]))
      out := fun y hy hh => by
        rcases (getD_listed hlt).1 hh with hh | hh
        · exact inv.out y (List.mem_cons_of_mem _ hy) hh
        · exact hp.nodup (A := pre ++ [x]) (B := s) (by rw [inv.pl]; simp) (z := x) (by simp) hy hh.symm
      closed := by
        intro i oi hi hoi ed hed hbd
        rw [getD_listed hlt] at hi ⊢
        rcases hi with hi | rfl
        · exact .inl (inv.closed i oi hi hoi ed hed hbd)
        · rw [ho'] at hoi; cases hoi; exact .inl (hpre ed hed hbd)
      fr := FR.put (inv.fr.mono hst'.le) inv.nt_ r hputS
      st := inv.st.trans hst'
      nt_ := by rw [put_size]; exact inv.nt_
      df := by rw [put_defers]; exact inv.df.step hst'
      slotsW := fun j t hj => hW' j t ((getD_listed hlt).1 hj)
      slotsN := fun t hno => hN' t fun j hj => hno j ((getD_listed hlt).2 hj)
      pend := by
        intro pre2 y m2 e2 hSy oy fry hy kk mkk hoy hky haty hwy hal
        have hSy1 : ¬ listed.getD y.i false = true := fun hh => hSy ((getD_listed hlt).2 (.inl hh))
        rcases List.eq_nil_or_concat m2 with rfl | ⟨m', z, rfl⟩
        · obtain ⟨_, e3⟩ := List.append_inj' e2 rfl
          cases e3
          exact absurd ((getD_listed hlt).2 (.inr rfl)) hSy
        · have e3 : pre ++ [x] = (pre2 ++ y :: m') ++ [z] := by rw [e2]; simp
          obtain ⟨e4, _⟩ := List.append_inj' e3 rfl
          obtain ⟨g1, g2, g3, g4⟩ := inv.pend pre2 y m' e4 hSy1 oy fry hy kk mkk hoy hky haty hwy hal
          refine ⟨?_, by rw [hst'.keep _ g4 g1]; exact g2, g3, Nat.lt_of_lt_of_le g4 hst'.n⟩
          cases hh : ρ' hy.n with
          | none => rfl
          | some q => have := hst'.new _ q hh g1; omega }
  have hwS : wantedA ops.toList frS o = wantedA ops.toList frT o := wanted_congr hag
  unfold wpOpIn
  simp only [ho]
  rcases hcase with ⟨hw, rfl, rfl⟩ | ⟨hw, hopv⟩
  · rw [wanted_sim inv.fr (hwS.trans hw), if_neg (by simp)]
    exact ⟨fun f _ => hF.fn f, k _ _ _ _ _ _ (mk ρ w undef (VR.undef ρ) (Stp.refl inv.st.hr))⟩
  · rw [wanted_sim inv.fr (hwS.trans hw), if_pos rfl]
    rw [← opBy_congr (looks_operands (E := E) hag)] at hopv
    exact op_sim hE hF hc inv.fr inv.st.hr hopv fun v' ρ' w' r hs' => k _ _ _ _ _ _ (mk ρ' w' v' r hs')

theorem drawn_sim (hE : EnvOK P E) (hF : FOK F) (hc : CallSound P E call) (hp : PlanF E ops.toList (beforeOf ops.toList []) pl) (hrun : stepsPlan E call nt ops.toList pl fr0 h0 = some (frN, hN)) {Q : Exit → Act → World → Prop}
    (hk : ∀ a' w', After B P E ρ0 h0 w0 nt frN hN a' w' → Q .normal a' w') : ∀ (fuel : Nat) (listed : Array Bool) (pre suf : List Item) (frT : Fr) (hT : Heap) (ρ : Ren) (frS : Fr) (a : Act) (w : World),
      listed.size = ops.size → listed.toList.count false = fuel → InvL P E call nt ops pl fr0 frN ρ0 h0 w0 B listed pre suf frT hT ρ frS a w → wpAnyIn F n P .any ops Q fuel listed a w
  | 0, listed, pre, suf, frT, hT, ρ, frS, a, w, hsz, hcn, inv => by
    have hnil : Region.ready .any ops listed = [] := by
      rw [List.eq_nil_iff_forall_not_mem]
      intro i hi
      obtain ⟨hf, o, ho, _⟩ := mem_ready.1 hi
      have hlt : i < listed.size := by rw [hsz]; exact (Array.getElem?_eq_some_iff.1 ho).1
      simp only [Array.getD_eq_getD_getElem?, Array.getElem?_eq_getElem hlt, Option.getD_some] at hf
      have : false ∈ listed.toList := by rw [← hf]; simp
      exact List.count_eq_zero.1 hcn this
    exact ⟨hnil, hk a w (finish hp hrun hsz hnil inv)⟩
  | fuel + 1, listed, pre, suf, frT, hT, ρ, frS, a, w, hsz, hcn, inv => by
    refine ⟨fun hnil => hk a w (finish hp hrun hsz hnil inv), fun i hi => ?_⟩
    obtain ⟨hf, o, ho, hpre⟩ := mem_ready.1 hi
    have ho' : ops.toList[i]? = some o := by rw [Array.getElem?_toList]; exact ho
    have hlt : i < listed.size := by rw [hsz]; exact (Array.getElem?_eq_some_iff.1 ho).1
    have hs : ¬ listed.getD i false = true := by
      simp only [Array.getD_eq_getD_getElem?, Array.getElem?_eq_getElem hlt, Option.getD_some] at hf ⊢
      simp [hf]
    obtain ⟨pre', suf', frT', hT', inv', hhead⟩ := advance hp hrun suf pre frT hT inv
    obtain ⟨p1, x, s1, epl, hxi⟩ := hp.pos ho'
    subst hxi
    have hsz' : (listed.setIfInBounds x.i true).size = ops.size := by simp [hsz]
    have hcn' := count_set hlt hf hcn
    have hx : x ∈ pre' ++ suf' := by rw [← inv'.pl, epl]; simp
    rcases List.mem_append.1 hx with hx | hx
    · obtain ⟨q1, q2, eq⟩ := List.append_of_mem hx
      cases ha : isAct E o with
      | true => exact absurd (inv'.acts x hx o ho' ha) hs
      | false => exact quiet_more hE hF hp hrun hsz inv' eq ho hs ha hpre fun ρ' frS' a' w' inv2 => drawn_sim hE hF hc hp hrun hk fuel _ pre' suf' frT' hT' ρ' frS' a' w' hsz' hcn' inv2
    · rcases hhead with rfl | ⟨y, s, oy, rfl, hoy, hya⟩
      · cases hx
      · rcases List.mem_cons.1 hx with rfl | hx
        · rw [ho'] at hoy; cases hoy
          exact act_more hE hF hc hp hrun hsz inv' ho hs hpre fun frT2 hT2 ρ' frS' a' w' inv2 => drawn_sim hE hF hc hp hrun hk fuel _ _ s frT2 hT2 ρ' frS' a' w' hsz' hcn' inv2
        · exfalso
          obtain ⟨u1, u2, rfl⟩ := List.append_of_mem hx
          obtain ⟨ox, bx, hox, hbx, _, _, hacts, _⟩ := hp.at_ (pre' ++ y :: u1) x u2 (by rw [inv'.pl]; simp)
          have hbit := hacts y (by simp) oy hoy hya
          rw [ho'] at hox; cases hox
          have := bef inv'.closed y.i x.i o bx ho' hbx hpre hbit
          exact inv'.out y List.mem_cons_self this

theorem region_sim (hE : EnvOK P E) (hF : FOK F) (hc : CallSound P E call) {id : Nat} {ρ : Ren} {h h' : Heap} {fr fr' : Fr} {a : Act} {w : World} {pl : List Item} (hpl : planned E ops.toList = some pl) (hrun : stepsPlan E call nt ops.toList pl fr h = some (fr', h'))
    (hf : FR E ρ fr a) (hr : HR P ρ h w) (hnt : a.tmps.size = nt) (hd : DR B ρ w a.defers) {Q : Exit → Act → World → Prop} (hk : ∀ a' w', After B P E ρ h w nt fr' h' a' w' → Q .normal a' w') : (Code.region id ops true).wpIn F n P Q a w := by
  refine wpIn_region_any hE.mixed ?_
  unfold planned at hpl
  simp only at hpl
  cases hok : planOk E ops.toList (beforeOf ops.toList []) (planOf E ops.toList (beforeOf ops.toList [])) with
  | false => rw [hok] at hpl; cases hpl
  | true =>
    rw [hok] at hpl
    simp only [cond_true, Option.some.injEq] at hpl
    subst hpl
    have hp := planF hok
    have hnone : ∀ i, ¬ (Array.replicate ops.size false).getD i false = true := by
      intro i
      simp only [Array.getD_eq_getD_getElem?, Array.getElem?_replicate]
      split <;> simp
    refine drawn_sim (ρ0 := ρ) (w0 := w) hE hF hc hp hrun hk ops.size (Array.replicate ops.size false) [] _ fr h ρ fr a _ (by simp) (by simp) {
      pl := rfl
      at_ := rfl
      acts := by simp
      out := fun y _ => hnone _
      closed := fun i o hi => absurd hi (hnone i)
      fr := hf
      st := Stp.draw hr _
      nt_ := hnt
      df := hd.step (Stp.draw hr _)
      slotsW := fun i t hi => absurd hi (hnone i)
      slotsN := fun t _ => rfl
      pend := by intro pre1 x m e; simp at e }
end
end Go.Ev

namespace Go.Ev
section
variable {P : Program} {F : Fence} {n : Nat} {Q : Exit → Act → World → Prop} {a : Act} {w : World}

def roundsIn (F : Fence) (n : Nat) (P : Program) (c : Code) (Q : Exit → Act → World → Prop) : Nat → Act → World → Prop
  | 0, _, _ => False
  | m + 1, a, w => c.wpIn F n P (Exit.then (roundsIn F n P c Q m) Q) a w

theorem wpIn_loop_rounds {c : Code} (m : Nat) (h : roundsIn F n P c Q m a w) : (Code.loop c).wpIn F n P Q a w := by
  intro b k cs hro hb hr
  have key : ∀ m a w, roundsIn F n P c Q m a w →
      ∃ e a' w', Q e a' w' ∧ ArrivesIn (Machine.fenced P F) P (lone (b.atR a (.code c :: .inLoop c :: k)) cs w) b k cs e a' w' := by
    intro m
    induction m with
    | zero => intro a w h; exact h.elim
    | succ m ih =>
      intro a w h
      obtain ⟨e, a₁, w₁, hq, harr⟩ := h b (.inLoop c :: k) cs hro hb hr
      cases e with
      | normal =>
        obtain ⟨e₂, a₂, w₂, hq₂, harr₂⟩ := ih a₁ w₁ hq
        exact ⟨e₂, a₂, w₂, hq₂, .of_steps (StepsIn.trans harr (.one (fenced_calm hb hr rfl) stepR_inLoop)) harr₂⟩
      | exit id => exact ⟨_, a₁, w₁, hq, .pass (x := .inLoop c) rfl (fun _ _ => .inl (by simp)) harr⟩
      | goto l => exact ⟨_, a₁, w₁, hq, .pass (x := .inLoop c) rfl (fun _ _ => .inl (by simp)) harr⟩
      | ret => exact ⟨_, a₁, w₁, hq, .pass (x := .inLoop c) rfl (fun _ _ => .inl (by simp)) harr⟩
      | panic ch => exact ⟨_, a₁, w₁, hq, .pass (x := .inLoop c) rfl (fun _ _ => .inl (by simp)) harr⟩
      | outgrown => exact ⟨_, a₁, w₁, hq, .pass (x := .inLoop c) rfl (fun _ _ => .inl (by simp)) harr⟩
  obtain ⟨e, a', w', hq, harr⟩ := key m a w h
  exact ⟨e, a', w', hq, .of_steps (.one (fenced_calm hb hr rfl) stepR_loop) harr⟩

theorem stepR_scope {b : Frame} {k : List Go.Item} {cs : List Frame} {c : Code} : Go.step P (lone (b.atR a (.code (.scope c) :: k)) cs w) = .next (lone (b.atR a (.code c :: .inScope c :: k)) cs w) :=
  step_lone_go (by simp [stepG, stepG.exec, Frame.atR])
theorem stepR_inScope {b : Frame} {k : List Go.Item} {cs : List Frame} {c : Code} : Go.step P (lone (b.atR a (.inScope c :: k)) cs w) = .next (lone (b.atR a k) cs w) :=
  step_lone_go (by simp [stepG, stepG.exec, Frame.atR])

theorem wpIn_scope_straight {c : Code} (h : c.wpIn F n P (Exit.noGoto Q) a w) : (Code.scope c).wpIn F n P Q a w := by
  intro b k cs hro hb hr
  have h0 : (lone (b.atR a (.code (.scope c) :: k)) cs w).fenced P F := fenced_calm hb hr rfl
  obtain ⟨e, a₁, w₁, hq, harr⟩ := h b (.inScope c :: k) cs hro hb hr
  cases e with
  | normal => exact ⟨.normal, a₁, w₁, hq, .head h0 stepR_scope (StepsIn.trans harr (.one (fenced_calm hb hr rfl) stepR_inScope))⟩
  | exit id =>
    have hx : exitTo id (.inScope c :: k) = exitTo id k := by simp [exitTo]
    exact ⟨.exit id, a₁, w₁, hq, fun k' hk => .head h0 stepR_scope (harr.1 k' (by rw [hx]; exact hk)),
      fun hr' hk => let ⟨k₁, h1, h2⟩ := harr.2 hr' (by rw [hx]; exact hk); ⟨k₁, h1, .head h0 stepR_scope h2⟩⟩
  | goto l => exact hq.elim
  | ret => exact ⟨_, a₁, w₁, hq, .of_steps (.one h0 stepR_scope) harr⟩
  | panic ch => exact ⟨_, a₁, w₁, hq, .of_steps (.one h0 stepR_scope) harr⟩
  | outgrown => exact ⟨_, a₁, w₁, hq, .of_steps (.one h0 stepR_scope) harr⟩
end
end Go.Ev

namespace Go.Ev
section
variable {P : Program} {E : Env}

def toExit : Ex → Exit
  | .normal => .normal
  | .exit id => .exit id
  | .ret => .ret

section
variable {call : Fn → List Value → Heap → Option (Value × Heap)} {nt : Nat}

def RdR (F : Fence) (ρ : Ren) : Option Nat → Prop
  | none => F.round = none
  | some l => ∃ b c, ρ l = some (b, c) ∧ F.round = some b
theorem RdR.mono {F : Fence} {ρ ρ' : Ren} {rd : Option Nat} (h : RdR F ρ rd) (hle : ρ.le ρ') : RdR F ρ' rd := by
  cases rd with
  | none => exact h
  | some l => obtain ⟨b, c, h1, h2⟩ := h; exact ⟨b, c, hle _ _ h1, h2⟩

def EnterSound (P : Program) (E : Env) (call : Fn → List Value → Heap → Option (Value × Heap)) : Prop :=
  ∀ f args h v h', call (.func f) args h = some (v, h') → E.ext f args = none → ∀ (ρ : Ren) (w : World) (args' : Array Value), HR P ρ h w → GR E ρ → VRL ρ args args'.toList →
    (callFunc f args').run P w = .ok (.enter f args') w ∧ Calls P f args' w (EndOK P ρ h w v h')

/-- a block that no id names -/
theorem Stp.push0 {ρ : Ren} {h : Heap} {w : World} (hr : HR P ρ h w) (o : Obj) : Stp P ρ h w ρ h (w.alloc o) where
  le := Ren.le_refl _
  hr := {
    dom := fun i b c e => by
      have := hr.dom i b c e
      exact ⟨this.1, by simp; omega⟩
    blk := fun i b c e => by
      obtain ⟨k, o', e1, e2, e3⟩ := hr.blk i b c e
      have hlt := (hr.dom i b c e).2
      refine ⟨k, o', e1, ?_, e3⟩
      show (w.heap.push o)[b]? = _
      rw [Array.getElem?_push, if_neg (by omega)]; exact e2
    inj := hr.inj }
  n := Nat.le_refl _
  new i x e e0 := by rw [e] at e0; cases e0
  keep _ _ _ := rfl
  os := rfl
  tape := rfl
  output := rfl
  size := by simp
  frame b hb _ := by
    show (w.heap.push o)[b]? = _
    rw [Array.getElem?_push, if_neg (by omega)]
  img i b c e _ := ⟨i, c, e, .inl rfl⟩
  stays _ _ _ := ⟨id, fun _ e => e⟩

/-- the mark that is laid -/
theorem DR.mark {B : Nat} {ρ : Ren} {h : Heap} {w : World} {ds : List Deferred} (hr : HR P ρ h w) (hd : DR B ρ w ds) (hB : B ≤ w.heap.size) :
    DR B ρ (w.alloc (.deferred (some []))) ({ target := .collected w.heap.size, args := #[] } :: ds) := by
  have hst := hd.step (Stp.push0 hr (.deferred (some [])))
  refine ⟨List.nodup_cons.2 ⟨fun hm => ?_, hd.nd⟩, fun d hm => ?_⟩
  · obtain ⟨D, e, _, hD, _⟩ := hd.each _ hm
    have hlt := (Array.getElem?_eq_some_iff.1 hD).1
    injection e with e1 _
    injection e1 with e2
    omega
  · rcases List.mem_cons.1 hm with rfl | hm
    · exact ⟨_, rfl, hB, World.alloc_heap_new _ _, fun i c e => by have := (hr.dom _ _ _ e).2; omega⟩
    · exact hst.each d hm

/-- behind the function that was ranged over -/
theorem endLoop_sim {ρ : Ren} {h : Heap} {w : World} {i l : Nat} {c : Nat} {fr fr' : Fr} {ex : Ex} {h' : Heap} (hr : HR P ρ h w) (hl : ρ i = some (l, c)) (e : endLoopA h i fr = some (ex, fr', h')) :
    fr' = fr ∧ ∃ jump w', (Instr.endLoop l).run P w = .ok jump w' ∧ Stp P ρ h w ρ h' w' ∧
      ((jump = none ∧ ex = .normal) ∨ (jump = some .ret ∧ ex = .ret) ∨ ∃ id, jump = some (.exit id) ∧ ex = .exit id) := by
  have hlt := (hr.dom _ _ _ hl).1
  obtain ⟨k, o, k1, k2, k3⟩ := hr.blk _ _ _ hl
  unfold endLoopA at e
  simp only [getBlk, blt_eq, hlt, decide_true, cond_true, k1] at e
  cases k3 with
  | loop fr0 r0 hfr0 =>
    have hsz := (Array.getElem?_eq_some_iff.1 k2).1
    have fin : r0.state ≠ .busy → Stp P ρ h w ρ (setBlk h i (.loop .exhausted r0.pending fr0 r0.tmps.size r0.params.toList r0.assign r0.body)) (w.putObj l (.loop { r0 with state := .exhausted })) := fun _ =>
      Stp.write hr hl k1 (by simp [soft]) (BR.loop (P := P) (c := c) fr0 { r0 with state := .exhausted } hfr0) (by simp) (World.putObj_heap_same hsz) (fun j hj => World.putObj_heap_other hj) rfl rfl rfl
    have run := fun hb => run_endLoop (P := P) k2 hb
    obtain ⟨st, pend, fnn, tmps, prms, asg, bdy, dfs⟩ := r0
    simp only at e fin run
    cases st with
    | busy => cases e
    | _ =>
      have fin := fin (by simp)
      have run := run (by simp)
      cases pend with
      | none =>
        simp only [Option.some.injEq, Prod.mk.injEq] at e
        obtain ⟨rfl, rfl, rfl⟩ := e
        exact ⟨rfl, _, _, run, fin, .inl ⟨rfl, rfl⟩⟩
      | some p =>
        cases p with
        | ret =>
          simp only [Option.some.injEq, Prod.mk.injEq] at e
          obtain ⟨rfl, rfl, rfl⟩ := e
          exact ⟨rfl, _, _, run, fin, .inr (.inl ⟨rfl, rfl⟩)⟩
        | exit id =>
          simp only [Option.some.injEq, Prod.mk.injEq] at e
          obtain ⟨rfl, rfl, rfl⟩ := e
          exact ⟨rfl, _, _, run, fin, .inr (.inr ⟨id, rfl, rfl⟩)⟩
        | _ => cases e
  | _ => simp at e

theorem code_sim (hE : EnvOK P E) {B : Nat} {F : Fence} {n : Nat} (hF : FOK F) (rd : Option Nat) (hc : CallSound P E call) (hcs : EnterSound P E call) : ∀ (c : Code) (ρ : Ren) (h : Heap) (w : World) (fr : Fr) (a : Act) (ex : Ex) (fr' : Fr) (h' : Heap) (Q : Exit → Act → World → Prop),
    FR E ρ fr a → HR P ρ h w → a.tmps.size = nt → DR B ρ w a.defers → RdR F ρ rd → B ≤ w.heap.size → code E call nt rd c fr h = some (ex, fr', h') →
    (∀ a' w', After B P E ρ h w nt fr' h' a' w' → Q (toExit ex) a' w') → c.wpIn F n P Q a w
  | .skip, ρ, h, w, fr, a, ex, fr', h', Q, hf, hr, hnt, hd, hrd, hB, e, hq => by
    simp only [code, Option.some.injEq, Prod.mk.injEq] at e
    obtain ⟨rfl, rfl, rfl⟩ := e
    exact wpIn_skip (hq a w ⟨ρ, hf, Stp.refl hr, hnt, hd⟩)
  | .label _, ρ, h, w, fr, a, ex, fr', h', Q, hf, hr, hnt, hd, hrd, hB, e, hq => by
    simp only [code, Option.some.injEq, Prod.mk.injEq] at e
    obtain ⟨rfl, rfl, rfl⟩ := e
    exact wpIn_label (hq a w ⟨ρ, hf, Stp.refl hr, hnt, hd⟩)
  | .exit id, ρ, h, w, fr, a, ex, fr', h', Q, hf, hr, hnt, hd, hrd, hB, e, hq => by
    simp only [code, Option.some.injEq, Prod.mk.injEq] at e
    obtain ⟨rfl, rfl, rfl⟩ := e
    exact wpIn_exit (hq a w ⟨ρ, hf, Stp.refl hr, hnt, hd⟩)
  | .ret, ρ, h, w, fr, a, ex, fr', h', Q, hf, hr, hnt, hd, hrd, hB, e, hq => by
    simp only [code, Option.some.injEq, Prod.mk.injEq] at e
    obtain ⟨rfl, rfl, rfl⟩ := e
    exact wpIn_ret (hq a w ⟨ρ, hf, Stp.refl hr, hnt, hd⟩)
  | .region id ops false, ρ, h, w, fr, a, ex, fr', h', Q, hf, hr, hnt, hd, hrd, hB, e, hq => by
    simp only [code, Option.map_eq_some_iff, Prod.mk.injEq] at e
    obtain ⟨⟨f1, h1⟩, e, rfl, rfl, rfl⟩ := e
    refine wpIn_region ?_
    have := text_sim (n := n) hE hF hc (Q := Q) ops.toList 0 ρ fr f1 a h h1 w (fun i => by simp) hf hr hnt hd e hq
    rw [List.range_eq_range']
    simpa using this
  | .region id ops true, ρ, h, w, fr, a, ex, fr', h', Q, hf, hr, hnt, hd, hrd, hB, e, hq => by
    simp only [code] at e
    split at e
    · rename_i pl hpl
      simp only [Option.map_eq_some_iff, Prod.mk.injEq] at e
      obtain ⟨⟨f1, h1⟩, e, rfl, rfl, rfl⟩ := e
      exact region_sim hE hF hc hpl e hf hr hnt hd hq
    · cases e
  | .seq x y, ρ, h, w, fr, a, ex, fr', h', Q, hf, hr, hnt, hd, hrd, hB, e, hq => by
    simp only [code] at e
    refine wpIn_seq ?_
    split at e
    · rename_i f1 h1 e1
      refine code_sim hE hF rd hc hcs x ρ h w fr a _ f1 h1 _ hf hr hnt hd hrd hB e1 fun a1 w1 hA => ?_
      obtain ⟨ρ1, hf1, hs, hnt1, hd1⟩ := hA
      exact code_sim hE hF rd hc hcs y ρ1 h1 w1 f1 a1 ex fr' h' Q hf1 hs.hr hnt1 hd1 (hrd.mono hs.le) (Nat.le_trans hB hs.size) e fun a2 w2 hA => hq a2 w2 (hA.trans hs)
    · rename_i hno
      refine code_sim hE hF rd hc hcs x ρ h w fr a ex fr' h' _ hf hr hnt hd hrd hB e fun a1 w1 hA => ?_
      cases ex with
      | normal => exact absurd e (hno _ _)
      | exit id => exact hq a1 w1 hA
      | ret => exact hq a1 w1 hA
  | .cond c x y, ρ, h, w, fr, a, ex, fr', h', Q, hf, hr, hnt, hd, hrd, hB, e, hq => by
    simp only [code] at e
    split at e
    · rename_i hc'
      have r := ev_sim hf hc'
      generalize hce : a.eval c = u at r
      cases r
      exact wpIn_cond_true hce (code_sim hE hF rd hc hcs x ρ h w fr a ex fr' h' Q hf hr hnt hd hrd hB e hq)
    · rename_i hc'
      have r := ev_sim hf hc'
      generalize hce : a.eval c = u at r
      cases r
      exact wpIn_cond_false hce (code_sim hE hF rd hc hcs y ρ h w fr a ex fr' h' Q hf hr hnt hd hrd hB e hq)
    · cases e
  | .block id b, ρ, h, w, fr, a, ex, fr', h', Q, hf, hr, hnt, hd, hrd, hB, e, hq => by
    simp only [code] at e
    refine wpIn_block ?_
    split at e
    · rename_i j f1 h1 e1
      simp only [Option.some.injEq, Prod.mk.injEq] at e
      obtain ⟨rfl, rfl, rfl⟩ := e
      refine code_sim hE hF rd hc hcs b ρ h w fr a _ f1 h1 _ hf hr hnt hd hrd hB e1 fun a1 w1 hA => ?_
      have := hq a1 w1 hA
      show Exit.inBlock id Q (.exit j) a1 w1
      simp only [Exit.inBlock]
      rw [cond_beq] at this
      by_cases hj : j = id
      · rw [if_pos hj] at this ⊢; exact this
      · rw [if_neg hj] at this ⊢; exact this
    · rename_i hno
      refine code_sim hE hF rd hc hcs b ρ h w fr a ex fr' h' _ hf hr hnt hd hrd hB e fun a1 w1 hA => ?_
      cases ex with
      | normal => exact hq a1 w1 hA
      | exit id => exact absurd e (hno _ _ _)
      | ret => exact hq a1 w1 hA
  | .loop b, ρ, h, w, fr, a, ex, fr', h', Q, hf, hr, hnt, hd, hrd, hB, e, hq => by
    simp only [code] at e
    refine wpIn_loop_rounds 1000000 ?_
    generalize 1000000 = m at e ⊢
    induction m generalizing ρ h w fr a with
    | zero => simp [iter] at e
    | succ m ih =>
      simp only [iter] at e
      show b.wpIn F n P (Exit.then (roundsIn F n P b Q m) Q) a w
      split at e
      · rename_i f1 h1 e1
        refine code_sim hE hF rd hc hcs b ρ h w fr a _ f1 h1 _ hf hr hnt hd hrd hB e1 fun a1 w1 hA => ?_
        obtain ⟨ρ1, hf1, hs, hnt1, hd1⟩ := hA
        exact ih ρ1 h1 w1 f1 a1 hf1 hs.hr hnt1 hd1 (hrd.mono hs.le) (Nat.le_trans hB hs.size) (fun a2 w2 hA => hq a2 w2 (hA.trans hs)) e
      · rename_i hno
        refine code_sim hE hF rd hc hcs b ρ h w fr a ex fr' h' _ hf hr hnt hd hrd hB e fun a1 w1 hA => ?_
        cases ex with
        | normal => exact absurd e (hno _ _)
        | exit id => exact hq a1 w1 hA
        | ret => exact hq a1 w1 hA
  | .scope b, ρ, h, w, fr, a, ex, fr', h', Q, hf, hr, hnt, hd, hrd, hB, e, hq => by
    simp only [code] at e
    refine wpIn_scope_straight (code_sim hE hF rd hc hcs b ρ h w fr a ex fr' h' _ hf hr hnt hd hrd hB e fun a1 w1 hA => ?_)
    have := hq a1 w1 hA
    cases ex <;> exact this
  | .rangeFunc g ps assign bd, ρ, h, w, fr, a, ex, fr', h', Q, hf, hr, hnt, hd, hrd, hB, e, hq => by
    subst hnt
    simp only [code] at e
    cases hin : inRound h rd with
    | false => rw [hin] at e; cases e
    | true =>
      rw [hin] at e
      simp only [cond_true] at e
      split at e
      · rename_i f first cap hg
        split at e
        · cases e
        · rename_i hext
          split at e
          · rename_i v2 h2 hcall
            refine wpIn_rangeFunc fun fn _ => ?_
            obtain ⟨l, mark, w1, ρ1, henter, hst, hl, hdr⟩ : ∃ (l : Nat) (mark : List Deferred) (w1 : World) (ρ1 : Ren), (Instr.enterLoop fn a.tmps ps assign bd F.round).run P w = .ok (l, mark) w1 ∧
                Stp P ρ h w ρ1 (newBlk h (.loop .ready none fr a.tmps.size ps.toList assign bd)) w1 ∧ ρ1 h.n = some (l, 0) ∧ DR B ρ1 w1 (mark ++ a.defers) := by
              cases rd with
              | none =>
                have hrd : F.round = none := hrd
                rw [hrd]
                have h0 := Stp.push0 hr (.deferred (some []))
                have hdm := DR.mark hr hd hB
                have h1 := Stp.alloc (c := 0) h0.hr (BR.loop (P := P) (c := 0) fr { state := .ready, pending := none, fn, tmps := a.tmps, params := ps, assign, body := bd, defers := w.heap.size } hf.tmp)
                  (w' := (w.alloc (.deferred (some []))).alloc (.loop { state := .ready, pending := none, fn, tmps := a.tmps, params := ps, assign, body := bd, defers := w.heap.size })) rfl rfl rfl rfl
                refine ⟨_, _, _, _, run_enterLoop_outer fn a.tmps ps assign bd, h0.trans h1, by rw [Ren.upd_same]; simp, hdm.step h1⟩
              | some l0 =>
                obtain ⟨b, c, e1, e2⟩ := hrd
                rw [e2]
                obtain ⟨k, o, k1, k2, k3⟩ := hr.blk l0 b c e1
                have hlt := (hr.dom l0 b c e1).1
                simp only [inRound, getBlk, blt_eq, hlt, decide_true, cond_true, k1] at hin
                cases k3 with
                | loop fr0 r0 _ =>
                  have h1 := Stp.alloc (c := 0) hr (BR.loop (P := P) (c := 0) fr { state := .ready, pending := none, fn, tmps := a.tmps, params := ps, assign, body := bd, defers := r0.defers } hf.tmp)
                    (w' := w.alloc (.loop { state := .ready, pending := none, fn, tmps := a.tmps, params := ps, assign, body := bd, defers := r0.defers })) rfl rfl rfl rfl
                  exact ⟨_, _, _, _, run_enterLoop_inner k2 fn a.tmps ps assign bd, h1, by rw [Ren.upd_same], by simpa using hd.step h1⟩
                | _ => simp at hin
            have r := ev_sim hf hg
            generalize hge : a.eval g = gv at r
            cases r with
            | func _ _ _ first' cap' _ r1 r2 =>
              have rargs : VRL ρ1 (first.toList ++ Value.func (.yield h.n) #[] #[] :: cap.toList) (first' ++ #[Value.func (.yield l) #[] #[]] ++ cap').toList := by
                simp only [Array.toList_append]
                have := ((r1.mono hst.le).append (.cons (.yield hl) .nil)).append (r2.mono hst.le)
                simpa using this
              obtain ⟨hent, hcalls⟩ := hcs _ _ _ _ _ hcall hext ρ1 w1 _ hst.hr (GR.mono hf.glob hst.le) rargs
              refine ⟨l, mark, w1, { target := .fn (.func f) cap', args := first' ++ #[.func (.yield l) #[] #[]] }, w1, f, first' ++ #[.func (.yield l) #[] #[]] ++ cap', w1, henter, ?_, fun f' _ => hF.fn f', ?_, fun hdep => (by rw [hF.depth] at hdep; cases hdep), ?_⟩
              · simp only [resolve, hge, Deferred.ofValue]
                simp [Act.eval]
              · exact hent
              refine CallsIn.mono (hF.calls (n - 1) P f _ w1 _ hcalls) ?_
              intro en w3 hh
              · obtain ⟨v', ρ2, rfl, _, hs2⟩ := hh
                have hl2 := hs2.le _ _ hl
                have hst2 := hst.trans hs2
                obtain ⟨rfl, jump, w4, hend, hs3, hj⟩ := endLoop_sim hs2.hr hl2 e
                have hall := hst2.trans hs3
                have haft : After B P E ρ h w a.tmps.size fr' h' { a with defers := mark ++ a.defers } w4 :=
                  ⟨ρ2, ⟨GR.mono hf.glob hall.le, fun t => (hf.tmp t).mono hall.le⟩, hall, rfl, (hdr.step hs2).step hs3⟩
                refine ⟨jump, w4, hend, ?_⟩
                rcases hj with ⟨rfl, rfl⟩ | ⟨rfl, rfl⟩ | ⟨id, rfl, rfl⟩
                · exact hq _ _ haft
                · exact wpIn_ret (hq _ _ haft)
                · exact wpIn_exit (hq _ _ haft)
          · cases e
      · cases e
  | .goto .., ρ, h, w, fr, a, ex, fr', h', Q, hf, hr, hnt, hd, hrd, hB, e, hq => by simp [code] at e
  | .refuse .., ρ, h, w, fr, a, ex, fr', h', Q, hf, hr, hnt, hd, hrd, hB, e, hq => by simp [code] at e

/-! results -/
theorem mapOpt_cons {α β : Type} {f : α → Option β} {x : α} {l : List α} {r : List β} (h : mapOpt f (x :: l) = some r) : ∃ y ys, f x = some y ∧ mapOpt f l = some ys ∧ r = y :: ys := by
  simp only [mapOpt] at h
  split at h
  · rename_i y ys h1 h2; cases h; exact ⟨y, ys, h1, h2, rfl⟩
  · cases h

def resR (tmps : Array Value) (r : ResultVar) : Sem Value :=
  match r with
  | .tmp t => pure (tmps.getD t undef)
  | .cell b t => do loadVar t (← asAddr (tmps.getD b undef))
theorem results_eq (fn : Func) (tmps : Array Value) : results fn tmps = ((fn.results.mapM (resR tmps)) >>= fun vs => pure (if h : vs.size = 1 then vs[0] else .tuple vs)) := by
  have : (resR tmps) = (fun | .tmp t => pure (tmps.getD t undef) | .cell a t => do loadVar t (← asAddr (tmps.getD a undef)) : ResultVar → Sem Value) := by funext r; cases r <;> rfl
  rw [this]
  rfl

theorem res_sim (hE : EnvOK P E) {ρ : Ren} {h : Heap} {w : World} {fr : Fr} {a : Act} (hf : FR E ρ fr a) (hr : HR P ρ h w) {r : ResultVar} {v : Value} (e : resOf E fr h r = some v) :
    ∃ v', (resR a.tmps r).run P w = .ok v' w ∧ VR ρ v v' := by
  cases r with
  | tmp t =>
    simp only [resOf] at e
    exact ⟨a.eval (.tmp t), by simp [resR, Act.eval], ev_sim hf e⟩
  | cell b t =>
    simp only [resOf] at e
    split at e
    · rename_i x hx
      have rx := hf.tmp b
      rw [hx] at rx
      simp only [Option.getD_some] at rx
      obtain ⟨v', hrun, r⟩ := loadAt_sim hE hr e rx
      refine ⟨v', ?_, r⟩
      have hptr : ∃ p, a.tmps.getD b undef = .pointer (some p) := by
        unfold loadAt at e
        split at e
        · generalize a.tmps.getD b undef = u at rx
          cases rx with
          | ptr off hh => exact ⟨_, rfl⟩
        · cases e
      obtain ⟨p, hp⟩ := hptr
      simp only [resR]
      rw [hp] at hrun ⊢
      simpa [Instr.loadAt, Instr.sureAddr, asAddr] using hrun
    · cases e

theorem resL_sim (hE : EnvOK P E) {ρ : Ren} {h : Heap} {w : World} {fr : Fr} {a : Act} (hf : FR E ρ fr a) (hr : HR P ρ h w) : ∀ (rs : List ResultVar) (vs : List Value), mapOpt (resOf E fr h) rs = some vs →
    ∃ vs', (rs.mapM (resR a.tmps)).run P w = .ok vs' w ∧ VRL ρ vs vs'
  | [], vs, e => by simp [mapOpt] at e; subst e; exact ⟨[], by simp, .nil⟩
  | r :: rs, vs, e => by
    obtain ⟨y, ys, h1, h2, rfl⟩ := mapOpt_cons e
    obtain ⟨v', e1, r1⟩ := res_sim hE hf hr h1
    obtain ⟨vs', e2, r2⟩ := resL_sim hE hf hr rs ys h2
    refine ⟨v' :: vs', ?_, .cons r1 r2⟩
    rw [List.mapM_cons]
    simp only [Sem.run_bind, Sem.run_pure]
    rw [e1]
    simp only [Result.andThen_ok, e2]

def resVal : List Value → Value
  | [v] => v
  | vs => .tuple vs.toArray
theorem results_sim (hE : EnvOK P E) {ρ : Ren} {h : Heap} {w : World} {fr : Fr} {a : Act} (hf : FR E ρ fr a) (hr : HR P ρ h w) {fn : Func} {vs : List Value} (e : mapOpt (resOf E fr h) fn.results.toList = some vs) :
    ∃ v', (results fn a.tmps).run P w = .ok v' w ∧ VR ρ (resVal vs) v' := by
  obtain ⟨vs', e1, r⟩ := resL_sim hE hf hr _ _ e
  have hm : (results fn a.tmps).run P w = .ok (if h : vs'.toArray.size = 1 then vs'.toArray[0] else .tuple vs'.toArray) w := by
    rw [results_eq, Array.mapM_eq_mapM_toList]
    simp only [Sem.run_bind, Sem.run_map, Sem.run_pure]
    rw [e1]
    simp only [Result.andThen_ok]
  refine ⟨_, hm, ?_⟩
  cases r with
  | nil => exact .tuple _ _ .nil
  | cons r1 r2 =>
    cases r2 with
    | nil => exact r1
    | cons r3 r4 =>
      simp only [List.size_toArray, List.length_cons]
      rw [dif_neg (by omega)]
      exact .tuple _ _ (.cons r1 (.cons r3 r4))
end

theorem setAll_get : ∀ (l : List Value) (i : Nat) (fr : Fr) (t : Nat), (setAll l i fr).get t = if i ≤ t ∧ t < i + l.length then l[t - i]? else fr.get t
  | [], i, fr, t => by simp [setAll]; omega
  | v :: l, i, fr, t => by
    rw [setAll, setAll_get l]
    by_cases h : i = t
    · subst h; rw [if_neg (by omega), if_pos (by simp), T.get_set_same]; simp
    · by_cases h2 : i + 1 ≤ t ∧ t < i + 1 + l.length
      · rw [if_pos h2, if_pos (by simp; omega), show t - i = (t - (i + 1)) + 1 by omega]; simp
      · rw [if_neg h2, T.get_set_ne _ _ h, if_neg (by simp; omega)]

def ExtOK (P : Program) (E : Env) : Prop := ∀ f args v, E.ext f args = some (some v) → ∀ (ρ : Ren) (h : Heap) (w : World) (args' : Array Value), HR P ρ h w → GR E ρ → VRL ρ args args'.toList → CallOK P ρ h w (.func f) args' v h
def NamesOK (P : Program) : Prop := ∀ (f : FuncId) (fn : Func), P.funcs[f]? = some fn → fn.body.isSome = true → fn.name ≠ "runtime.NumGoroutine"

theorem run_callFunc {f : FuncId} {fn : Func} {c : Code} (hf : P.funcs[f]? = some fn) (hn : NamesOK P) (hb : fn.body = some c) (args : Array Value) (w : World) : (callFunc f args).run P w = .ok (.enter f args) w := by
  have := hn f fn hf (by rw [hb]; rfl)
  simp [callFunc, hf, this, hb]

/-- a mark is taken: its block is nobody's -/
theorem Stp.take {ρ ρ' : Ren} {h h' : Heap} {w w' : World} (hs : Stp P ρ h w ρ' h' w') {D : Nat} {o : Obj} (hB : w.heap.size ≤ D) (hi : ∀ i c, ρ' i ≠ some (D, c)) : Stp P ρ h w ρ' h' (w'.putObj D o) where
  le := hs.le
  hr := {
    dom := fun i b c e => by rw [World.putObj_size]; exact hs.hr.dom i b c e
    blk := fun i b c e => by
      obtain ⟨k, o', e1, e2, e3⟩ := hs.hr.blk i b c e
      have hne : b ≠ D := by intro hb; subst hb; exact hi i c e
      exact ⟨k, o', e1, by rw [World.putObj_heap_other hne]; exact e2, e3⟩
    inj := hs.hr.inj }
  n := hs.n
  new := hs.new
  keep := hs.keep
  os := hs.os
  tape := hs.tape
  output := hs.output
  size := by rw [World.putObj_size]; exact hs.size
  frame b hb hn := by
    have hne : b ≠ D := by omega
    rw [World.putObj_heap_other hne]; exact hs.frame b hb hn
  img := hs.img
  stays := hs.stays

theorem leaves_marks {F : Fence} {n : Nat} {fn : Func} {tmps : Array Value} {R : Ending → World → Prop} {ρ ρ' : Ren} {h h' : Heap} {w : World}
    (hlast : ∀ w', Stp P ρ h w ρ' h' w' → ∃ v, (results fn tmps).run P w' = .ok v w' ∧ R (.returned v) w') :
    ∀ (ds : List Deferred) (w' : World), Stp P ρ h w ρ' h' w' → DR w.heap.size ρ' w' ds → LeavesInM F n P fn tmps R ds .returning w'
  | [], w', hs, _ => hlast w' hs
  | d :: ds, w', hs, hd => by
    obtain ⟨D, rfl, hB, hD, hi⟩ := hd.each d (List.mem_cons_self ..)
    refine ⟨by simp, .inl ⟨D, _, rfl, run_takeDeferred hD, ?_⟩⟩
    refine leaves_marks hlast ds _ (hs.take hB hi) ⟨(List.nodup_cons.1 hd.nd).2, fun d hm => ?_⟩
    obtain ⟨D', e, hB', hD', hi'⟩ := hd.each d (List.mem_cons_of_mem _ hm)
    have hne : D' ≠ D := by
      intro hx
      subst hx
      exact (List.nodup_cons.1 hd.nd).1 (by rw [← e]; exact hm)
    exact ⟨D', e, hB', by rw [World.putObj_heap_other hne]; exact hD', hi'⟩

/-- yield's parameters -/
theorem setPs_sim {ρ : Ren} {nt : Nat} : ∀ (ps : List Nat) (vs : List Value) (vs' : List Value) (fr fr1 : Fr) (tmps : Array Value), setPs nt ps vs fr = some fr1 → VRL ρ vs vs' → tmps.size = nt →
    (∀ t, VR ρ ((fr.get t).getD undef) (tmps.getD t undef)) →
    vs'.length = ps.length ∧ ((ps.zip vs').foldl (fun (tmps : Array Value) (x : Nat × Value) => tmps.setIfInBounds x.1 x.2) tmps).size = nt ∧ ∀ t, VR ρ ((fr1.get t).getD undef) (((ps.zip vs').foldl (fun (tmps : Array Value) (x : Nat × Value) => tmps.setIfInBounds x.1 x.2) tmps).getD t undef)
  | [], [], vs', fr, fr1, tmps, e, r, hnt, hf => by
    cases r
    simp only [setPs, Option.some.injEq] at e
    subst e
    exact ⟨rfl, hnt, hf⟩
  | t :: ps, v :: vs, vs', fr, fr1, tmps, e, r, hnt, hf => by
    cases r with
    | @cons _ v' _ l' hv hl =>
      simp only [setPs, blt_eq] at e
      by_cases hlt : t < nt
      · simp only [hlt, decide_true, cond_true] at e
        have := setPs_sim ps vs l' (fr.set t v) fr1 (tmps.setIfInBounds t v') e hl (by simpa using hnt) (fun u => by
          have := getD_put (a := { tmps := tmps, defers := [] }) (d := t) (v := v') (by rw [hnt]; exact hlt) u
          simp only [Act.put] at this
          rw [this, T.get_set]
          by_cases h : t = u
          · subst h; simpa using hv
          · simp only [h, if_false]; exact hf u)
        refine ⟨by simp [this.1], ?_⟩
        simpa using this.2
      · simp [hlt] at e
  | [], _ :: _, _, _, _, _, e, _, _, _ => by simp [setPs] at e
  | _ :: _, [], _, _, _, _, e, _, _, _ => by simp [setPs] at e

theorem endRound_sim {ρ : Ren} {h : Heap} {w : World} {i l c : Nat} {ex : Ex} {v : Value} {h' : Heap} (hr : HR P ρ h w) (hl : ρ i = some (l, c)) (e : endRoundA h i ex = some (v, h')) :
    ∃ j : Option Code, (match ex with | .normal => j = none | .exit id => j = some (.exit id) | .ret => j = some .ret) ∧ ∃ w', (Instr.endRound l j).run P w = .ok v w' ∧ VR ρ v v ∧ Stp P ρ h w ρ h' w' := by
  have hlt := (hr.dom _ _ _ hl).1
  obtain ⟨k, o, k1, k2, k3⟩ := hr.blk _ _ _ hl
  unfold endRoundA at e
  simp only [getBlk, blt_eq, hlt, decide_true, cond_true, k1] at e
  cases k3 with
  | loop fr0 r0 hfr0 =>
    have hsz := (Array.getElem?_eq_some_iff.1 k2).1
    obtain ⟨st, pend, fnn, tmps, prms, asg, bdy, dfs⟩ := r0
    have fin : ∀ (st' : LoopState) (p' : Option Code), Stp P ρ h w ρ (setBlk h i (.loop st' p' fr0 tmps.size prms.toList asg bdy)) (w.putObj l (.loop { state := st', pending := p', fn := fnn, tmps, params := prms, assign := asg, body := bdy, defers := dfs })) := fun st' p' =>
      Stp.write hr hl k1 (by simp [soft]) (BR.loop (P := P) (c := c) fr0 { state := st', pending := p', fn := fnn, tmps, params := prms, assign := asg, body := bdy, defers := dfs } hfr0) (by simp) (World.putObj_heap_same hsz) (fun j hj => World.putObj_heap_other hj) rfl rfl rfl
    simp only at e
    cases st with
    | busy =>
      cases pend with
      | none =>
        simp only at e
        cases ex with
        | normal =>
          simp only [Option.some.injEq, Prod.mk.injEq] at e
          obtain ⟨rfl, rfl⟩ := e
          exact ⟨none, rfl, _, run_endRound none k2, .bool _, fin .ready none⟩
        | exit id =>
          simp only [Option.some.injEq, Prod.mk.injEq] at e
          obtain ⟨rfl, rfl⟩ := e
          exact ⟨some (.exit id), rfl, _, run_endRound _ k2, .bool _, fin .done _⟩
        | ret =>
          simp only [Option.some.injEq, Prod.mk.injEq] at e
          obtain ⟨rfl, rfl⟩ := e
          exact ⟨some .ret, rfl, _, run_endRound _ k2, .bool _, fin .done _⟩
      | some p => cases e
    | _ => cases e
  | _ => simp at e

theorem beginRound_sim {ρ : Ren} {h : Heap} {w : World} {i l c : Nat} {h' : Heap} (hr : HR P ρ h w) (hl : ρ i = some (l, c)) (e : beginRoundA h i = some h') :
    ∃ w', (Instr.beginRound l).run P w = .ok () w' ∧ Stp P ρ h w ρ h' w' := by
  have hlt := (hr.dom _ _ _ hl).1
  obtain ⟨k, o, k1, k2, k3⟩ := hr.blk _ _ _ hl
  unfold beginRoundA at e
  simp only [getBlk, blt_eq, hlt, decide_true, cond_true, k1] at e
  cases k3 with
  | loop fr0 r0 hfr0 =>
    have hsz := (Array.getElem?_eq_some_iff.1 k2).1
    obtain ⟨st, pend, fnn, tmps, prms, asg, bdy, dfs⟩ := r0
    simp only at e
    cases st with
    | ready =>
      cases pend with
      | none =>
        simp only [Option.some.injEq] at e
        subst e
        exact ⟨_, run_beginRound k2 rfl, Stp.write hr hl k1 (by simp [soft]) (BR.loop (P := P) (c := c) fr0 { state := .busy, pending := none, fn := fnn, tmps, params := prms, assign := asg, body := bdy, defers := dfs } hfr0) (by simp) (World.putObj_heap_same hsz) (fun j hj => World.putObj_heap_other hj) rfl rfl rfl⟩
      | some p => cases e
    | _ => cases e
  | _ => simp at e

theorem callF_both (hE : EnvOK P E) (hx : ExtOK P E) (hn : NamesOK P) : ∀ d, CallSound P E (callF E d) ∧ EnterSound P E (callF E d)
  | 0 => ⟨fun fn args h v h' e => by simp [callF] at e, fun f args h v h' e => by simp [callF] at e⟩
  | d + 1 => by
    have ih := callF_both hE hx hn d
    have hent : EnterSound P E (callF E (d + 1)) := fun f args h v h' e hext ρ w args' hr hg ra => by
      rw [callF, hext] at e
      simp only at e
      split at e
      · cases e
      · rename_i fn hfn
        have hfn := hE.funs f fn hfn
        split at e
        · cases e
        · rename_i b hb
          refine ⟨run_callFunc hfn hn hb args' w, ?_⟩
          have hlen := ra.length
          have hnt : (args' ++ Array.replicate (fn.ntmps - args'.size) undef).size = max fn.ntmps args.length := by
            simp only [Array.length_toList] at hlen
            simp; omega
          have hfr : FR E ρ (setAll args 0 .leaf) { tmps := args' ++ Array.replicate (fn.ntmps - args'.size) undef, defers := [] } := by
            refine ⟨hg, fun t => ?_⟩
            simp only [Array.length_toList] at hlen
            rw [setAll_get]
            simp only [Nat.zero_le, true_and, Nat.zero_add, Nat.sub_zero, T.get_leaf, Array.getD_eq_getD_getElem?, Array.getElem?_append]
            by_cases ht : t < args.length
            · rw [if_pos ht, if_pos (by omega)]
              obtain ⟨v', e', r⟩ := ra.get t _ (List.getElem?_eq_getElem ht)
              rw [List.getElem?_eq_getElem ht, ← Array.getElem?_toList, e']
              exact r
            · rw [if_neg ht, if_neg (by omega)]
              simp only [Option.getD_none, Array.getElem?_replicate]
              split <;> exact VR.undef ρ
          split at e
          · cases e
          · rename_i ex fr1 h1 hnx hcode
            have fin : ∀ vs, mapOpt (resOf E fr1 h1) fn.results.toList = some vs → resVal vs = v → h1 = h' → Calls P f args' w (EndOK P ρ h w v h') := fun vs hvs hv hh => by
              subst hh
              refine (callsIn_wide (n := 0)).1 (callsIn_of_wp_marks hfn hb trivial (code_sim hE (B := w.heap.size) fokWide none ih.1 ih.2 b ρ h w _ _ _ _ _ _ hfr hr hnt (DR.nil _ _ _) rfl (Nat.le_refl _) hcode fun a' w' hA => ?_))
              obtain ⟨ρ', hf', hs, _, hd⟩ := hA
              have last : LeavesInM Fence.wide 0 P fn a'.tmps (EndOK P ρ h w v h1) a'.defers .returning w' := by
                refine leaves_marks (fun w2 hs2 => ?_) a'.defers w' hs hd
                obtain ⟨v', hrun, r⟩ := results_sim hE (a := a') hf' hs2.hr hvs
                rw [hv] at r
                exact ⟨v', hrun, v', ρ', rfl, r, hs2⟩
              cases ex with
              | normal => exact last
              | ret => exact last
              | exit id => exact absurd rfl (hnx id)
            split at e
            · rename_i v1 hres
              simp only [Option.some.injEq, Prod.mk.injEq] at e
              exact fin _ hres e.1 e.2
            · rename_i vs hvs hres
              simp only [Option.some.injEq, Prod.mk.injEq] at e
              refine fin _ hres ?_ e.2
              rw [← e.1]
              unfold resVal
              split
              · exact absurd rfl (hvs _)
              · rfl
            · cases e
          · cases e
    refine ⟨fun fn args h v h' e ρ w fn' args' hr hg rfn ra => ?_, hent⟩
    cases rfn with
    | func f =>
      cases hext : E.ext f args with
      | some r =>
        have e0 := e
        rw [callF, hext] at e0
        cases r with
        | none => cases e0
        | some v2 =>
          simp only [Option.map_some, Option.some.injEq, Prod.mk.injEq] at e0
          obtain ⟨rfl, rfl⟩ := e0
          exact hx f args v2 hext ρ h w args' hr hg ra
      | none =>
        obtain ⟨h1, h2⟩ := hent f args h v h' e hext ρ w args' hr hg ra
        exact .inr (.inl ⟨f, args', h1, h2⟩)
    | @yield i b c hi =>
      rw [callF] at e
      split at e
      · rename_i fr nt ps assign body hblk
        have hlt := (hr.dom _ _ _ hi).1
        obtain ⟨k, o, k1, k2, k3⟩ := hr.blk _ _ _ hi
        simp only [getBlk, blt_eq, hlt, decide_true, cond_true, k1, Option.some.injEq] at hblk
        subst hblk
        generalize hk : Blk.loop .ready none fr nt ps assign body = k at k3
        cases k3 with
        | loop fr0 r0 hfr0 =>
          obtain ⟨st, pend, fnn, tmps, prms, asg, bdy, dfs⟩ := r0
          simp only [Blk.loop.injEq] at hk
          obtain ⟨rfl, rfl, rfl, rfl, rfl, rfl, rfl⟩ := hk
          split at e
          · cases e
          · rename_i fr1 hps
            split at e
            · rename_i fr2 h2 hasg
              split at e
              · cases e
              · rename_i h3 hbeg
                split at e
                · rename_i ex fr4 h4 hbody
                  obtain ⟨p1, p2, p3⟩ := setPs_sim _ _ _ _ _ _ hps ra rfl hfr0
                  have hsz : args'.size = prms.size := by simpa using p1
                  have hzip : ((prms.zip args').foldl (fun (tmps : Array Value) (x : Tmp × Value) => tmps.setIfInBounds x.1 x.2) tmps) = ((prms.toList.zip args'.toList).foldl (fun (tmps : Array Value) (x : Nat × Value) => tmps.setIfInBounds x.1 x.2) tmps) := by
                    rw [← Array.foldl_toList, Array.toList_zip]
                  refine .inr (.inr ⟨b, fnn, _, _, _, run_yield k2 hsz, fun n => ?_⟩)
                  refine roundIn_of_wpIn trivial ?_
                  have hfr : FR E ρ fr1 { tmps := (prms.zip args').foldl (fun (tmps : Array Value) (x : Tmp × Value) => tmps.setIfInBounds x.1 x.2) tmps, defers := [] } := ⟨hg, fun t => by
                    rw [hzip]; exact p3 t⟩
                  refine code_sim hE (B := w.heap.size) (fokRound b) (some i) ih.1 ih.2 assign ρ h w fr1 _ .normal fr2 h2 _ hfr hr (by rw [hzip]; exact p2) (DR.nil _ _ _) ⟨b, c, hi, rfl⟩ (Nat.le_refl _) hasg fun a1 w1 hA => ?_
                  obtain ⟨ρ1, hf1, hs1, hnt1, hd1⟩ := hA
                  obtain ⟨w2, hrun, hs2⟩ := beginRound_sim hs1.hr (hs1.le _ _ hi) hbeg
                  refine ⟨w2, hrun, ?_⟩
                  refine code_sim hE (B := w.heap.size) (fokRound b) (some i) ih.1 ih.2 body ρ1 h3 w2 fr2 _ ex fr4 h4 _ hf1 hs2.hr hnt1 (hd1.step hs2) ⟨b, c, hs1.le _ _ hi, rfl⟩ (Nat.le_trans hs1.size hs2.size) hbody fun a3 w3 hA => ?_
                  obtain ⟨ρ3, hf3, hs3, hnt3, hd3⟩ := hA
                  obtain ⟨j, hj, w4, hrun4, r4, hs4⟩ := endRound_sim hs3.hr (hs3.le _ _ (hs1.le _ _ hi)) e
                  have all := ((hs1.trans hs2).trans hs3).trans hs4
                  cases ex with
                  | normal => subst hj; exact ⟨v, w4, hrun4, v, ρ3, rfl, r4, all⟩
                  | exit id => subst hj; exact ⟨v, w4, hrun4, v, ρ3, rfl, r4, all⟩
                  | ret => subst hj; exact ⟨v, w4, hrun4, v, ρ3, rfl, r4, all⟩
                · cases e
            · cases e
        | _ => cases hk
      · cases e
theorem callF_sim (hE : EnvOK P E) (hx : ExtOK P E) (hn : NamesOK P) (d : Nat) : CallSound P E (callF E d) := (callF_both hE hx hn d).1
end
end Go.Ev

