/- THE EVALUATOR, part 'Act': a deterministic reading of the program's code over an abstract heap, and that the model does what it says. Conditions: none beyond each theorem's own. -/
import Derived.Test.YtfneaaapgpgdeaaDoorZAlloc
set_option linter.unusedSimpArgs false
set_option linter.unusedVariables false
namespace Go.Ev
section
variable {P : Program} {E : Env} {ρ : Ren} {h : Heap} {w : World}

def nval : Next → Option Value
  | .value v => some v
  | .skip => some undef
  | _ => none

def ActOK (P : Program) (ρ : Ren) (h : Heap) (w : World) (s : Sem Next) (v : Value) (h' : Heap) : Prop :=
  ∃ n v' ρ' w', s.run P w = .ok n w' ∧ nval n = some v' ∧ VR ρ' v v' ∧ Stp P ρ h w ρ' h' w'

theorem over_get {cs xs r : List Value} {off : Nat} (hr : r = cs.take off ++ xs ++ cs.drop (off + xs.length)) (hl : off + xs.length ≤ cs.length) (i : Nat) :
    r[i]? = if i < off then cs[i]? else if i < off + xs.length then xs[i - off]? else cs[i]? := by
  subst hr
  have h1 : (cs.take off).length = off := by simp; omega
  rw [List.append_assoc, List.getElem?_append, h1]
  by_cases a : i < off
  · rw [if_pos a, if_pos a, List.getElem?_take_of_lt a]
  · rw [if_neg a, if_neg a, List.getElem?_append]
    by_cases b : i < off + xs.length
    · rw [if_pos (by omega), if_pos b]
    · rw [if_neg (by omega), if_neg b, List.getElem?_drop]
      congr 1; omega

theorem writeCells_sim (hr : HR P ρ h w) {i off b c : Nat} {xs xs' : List Value} {h' : Heap} (hi : ρ i = some (b, c)) (e : writeCells h ⟨i, off, none⟩ xs = some h') (hx : VRL ρ xs xs')
    (ho : xs.all Ev.oneCell = true) : ∃ w', (storeCells ⟨b, off, none⟩ xs').run P w = .ok () w' ∧ Stp P ρ h w ρ h' w' := by
  unfold writeCells at e
  simp only at e
  split at e
  · cases e; cases hx
    exact ⟨w, by simp [storeCells], Stp.refl hr⟩
  · rename_i hne
    obtain ⟨k, o, e1, e2, e3⟩ := hr.blk i b c hi
    rw [e1] at e
    cases e3 with
    | cells cs ys el exact hc hs =>
      simp only [Option.map_eq_some_iff] at e
      obtain ⟨cs', hov, rfl⟩ := e
      obtain ⟨h1, hcs'⟩ := over_eq _ _ _ _ hov
      have h1 : off + xs.length ≤ cs.length := by
        rcases h1 with h1 | h1
        · exact (hne h1).elim
        · exact h1
      have hlen := hx.length
      have hfit : cs.length ≤ ys.size := by
        by_cases hz : cs.length = 0
        · omega
        · obtain ⟨v', e', _⟩ := hc (cs.length - 1) _ (List.getElem?_eq_getElem (by omega))
          have := (Array.getElem?_eq_some_iff.1 e').1
          omega
      have hrun := run_storeCells_at (P := P) b off el xs' 0 ys w e2 (by omega) (hx.oneCell ho)
      simp only [Nat.add_zero] at hrun
      refine ⟨_, hrun, ?_⟩
      refine Stp.write hr hi e1 (by simp [soft]) (o' := .cells (ys.toList.take off ++ xs' ++ ys.toList.drop (off + xs'.length)).toArray el (0, 0)) ?_ ?_ (setRow_heap w b ys _ el (0, 0) e2) (fun j hj => setRow_other w b j _ hj) rfl rfl rfl
      · refine .cells _ _ _ _ (fun j v hv => ?_) ?_
        · rw [over_get hcs' h1] at hv
          have := over_get (cs := ys.toList) (xs := xs') (off := off) rfl (by simp; omega) j
          simp only [List.getElem?_toArray]
          rw [this]
          by_cases a1 : j < off
          · rw [if_pos a1] at hv ⊢
            obtain ⟨v', e', r⟩ := hc j v hv
            exact ⟨v', by simpa using e', r⟩
          · rw [if_neg a1] at hv ⊢
            rw [hlen] at hv
            by_cases a2 : j < off + xs'.length
            · rw [if_pos a2] at hv ⊢
              exact hx.get _ _ hv
            · rw [if_neg a2] at hv ⊢
              obtain ⟨v', e', r⟩ := hc j v hv
              exact ⟨v', by simpa using e', r⟩
        · have : (ys.toList.take off ++ xs' ++ ys.toList.drop (off + xs'.length)).toArray.size = ys.size := by simp; omega
          rw [this]
          have : cs'.length = cs.length := by rw [hcs']; simp; omega
          rw [this]; exact hs
      · simp [World.setRow]
    | _ => simp at e

theorem storeAt_sim (hE : EnvOK P E) (hr : HR P ρ h w) {t : TypeId} {x x' v v' : Value} {h' : Heap} (e : storeAt E t x v h = some h') (hx : VR ρ x x') (hv : VR ρ v v') :
    ∃ w', (Instr.storeAt t x' v').run P w = .ok () w' ∧ Stp P ρ h w ρ h' w' := by
  unfold storeAt at e
  split at e
  · rename_i a n hs
    cases hx with
    | @ptr i b c off hi =>
      by_cases hc : v.cells.toList.length = n ∧ v.cells.toList.all Ev.oneCell = true
      · obtain ⟨c1, c2⟩ := hc
        simp only [beq_eq', c1, c2, decide_true, Bool.and_self, cond_true] at e
        obtain ⟨w', hrun, hst⟩ := writeCells_sim hr hi e hv.cells c2
        refine ⟨w', ?_, hst⟩
        have hsz : v'.cells.size = n := by rw [← Array.length_toList, ← hv.cells.length, c1]
        simp [Instr.storeAt, Instr.sureAddr, storeVar, hE.run_size hs, hsz, hrun]
      · exfalso
        have : (Nat.beq v.cells.toList.length n && v.cells.toList.all Ev.oneCell) = false := by
          rw [Bool.eq_false_iff]; intro hh
          rw [beq_eq'] at hh
          simp only [Bool.and_eq_true, decide_eq_true_eq] at hh
          exact hc hh
        simp only [this, cond_false] at e
        cases e
  · cases e

theorem run_setObj {b : Nat} {o o' : Obj} (hb : w.heap[b]? = some o) (hn : ∀ c e f, o ≠ .cells c e f) : (setObj b o').run P w = .ok () { w with heap := w.heap.setIfInBounds b o' } := by
  cases o <;> first | exact (hn _ _ _ rfl).elim | (simp only [setObj, Sem.run, hb])
theorem heap_set {b : Nat} {o o' : Obj} (hb : w.heap[b]? = some o) : ({ w with heap := w.heap.setIfInBounds b o' } : World).heap[b]? = some o' := by
  have := (Array.getElem?_eq_some_iff.1 hb).1
  simp [this]
theorem heap_set_ne {b j : Nat} {o' : Obj} (hj : j ≠ b) : ({ w with heap := w.heap.setIfInBounds b o' } : World).heap[j]? = w.heap[j]? := by
  simp [Ne.symm hj]

/-- an object that is no row is written -/
theorem obj_write (hr : HR P ρ h w) {i b c : Nat} {k k' : Blk} {o o' : Obj} (hi : ρ i = some (b, c)) (hk : h.b.get i = some k) (hd : ¬ soft (some k)) (hb : w.heap[b]? = some o) (hn : ∀ c e f, o ≠ .cells c e f)
    (hbr : BR P ρ c k' o') : (setObj b o').run P w = .ok () { w with heap := w.heap.setIfInBounds b o' } ∧ Stp P ρ h w ρ { h with b := h.b.set i k' } { w with heap := w.heap.setIfInBounds b o' } :=
  ⟨run_setObj hb hn, Stp.write hr hi hk hd hbr (by simp) (heap_set hb) (fun _ hj => heap_set_ne hj) rfl rfl rfl⟩

theorem MR.get {es : List (Value × Value × Nat)} {es' : List MapEntry} (hm : MR ρ es es') : ∀ (i : Nat) (x : Value × Value × Nat), es[i]? = some x → ∃ y, es'[i]? = some y ∧ VR ρ x.1 y.key ∧ VR ρ x.2.1 y.val ∧ x.2.2 = y.born := by
  induction hm with
  | nil => intro i x h; simp at h
  | cons h1 h2 t ih =>
    intro i x h
    cases i with
    | zero => simp at h; subst h; exact ⟨_, rfl, h1, h2, rfl⟩
    | succ i => simpa using ih i x (by simpa using h)
theorem MR.append {es fs : List (Value × Value × Nat)} {es' fs' : List MapEntry} (hm : MR ρ es es') (hf : MR ρ fs fs') : MR ρ (es ++ fs) (es' ++ fs') := by
  induction hm with
  | nil => exact hf
  | cons h1 h2 t ih => exact .cons h1 h2 ih
theorem MR.setVal {es : List (Value × Value × Nat)} {es' : List MapEntry} (hm : MR ρ es es') {v v' : Value} (hv : VR ρ v v') : ∀ (i : Nat) (k' : Value), (∀ x, es[i]? = some x → VR ρ x.1 k') → MR ρ (Ev.setVal es i v) (es'.modify i fun e => { e with key := k', val := v' }) := by
  induction hm with
  | nil => intro i k' _; simp only [Ev.setVal, List.modify_nil]; exact .nil
  | cons h1 h2 t ih =>
    intro i k' hk
    rw [Ev.setVal, cond_beq]
    cases i with
    | zero => simp only [if_true, List.modify_zero_cons]; exact .cons (hk _ rfl) hv t
    | succ i =>
      rw [if_neg (by omega)]
      simp only [Nat.add_sub_cancel, List.modify_succ_cons]
      exact .cons h1 h2 (ih i k' (fun x hx => hk x (by simpa using hx)))

theorem findKey_lt {kt : TypeId} {k : Value} {d : TypeDesc} : ∀ {es : List (Value × Value × Nat)} {i j : Nat} {v : Value}, afind E kt d k es i = some (some (j, v)) → ∃ x, es[j - i]? = some x ∧ i ≤ j ∧ x.2.1 = v ∧ cond (keyOk d) (akeyEq d k x.1) (aeq E 100 kt k x.1) = some true
  | [], i, j, v, h => by simp [afind] at h
  | (kk, u, n) :: es, i, j, v, h => by
    simp only [afind] at h
    split at h
    · rename_i he
      cases h
      exact ⟨(kk, u, n), by simp, Nat.le_refl _, rfl, he⟩
    · obtain ⟨x, e, hle, e2, e3⟩ := findKey_lt h
      refine ⟨x, ?_, by omega, e2, e3⟩
      rw [show j - i = (j - (i + 1)) + 1 by omega]
      simpa using e
    · cases h

theorem sameV_go {n : Nat} (key : ∀ (a b : Value), sameV n a b = true → a = b) : ∀ (l r : List Value), sameV.go n l r = true → l = r
  | [], [], _ => rfl
  | [], _ :: _, h => by simp [sameV.go] at h
  | _ :: _, [], h => by simp [sameV.go] at h
  | x :: l, y :: r, h => by
    simp only [sameV.go, Bool.and_eq_true] at h
    rw [key _ _ h.1, sameV_go key _ _ h.2]
theorem addr_eq {a b : Addr} (h : (Nat.beq a.block b.block && Nat.beq a.off b.off && a.spot.isNone && b.spot.isNone) = true) : a = b := by
  simp only [beq_eq', Bool.and_eq_true, decide_eq_true_eq, Option.isNone_iff_eq_none] at h
  obtain ⟨⟨⟨h1, h2⟩, h3⟩, h4⟩ := h
  cases a; cases b; simp_all
theorem sameV_eq : ∀ (n : Nat) (a b : Value), sameV n a b = true → a = b
  | 0, a, b, h => by
    unfold sameV at h
    split at h
    · simpa using h
    · simp only [Bool.and_eq_true, decide_eq_true_eq, beq_iff_eq] at h; rw [h.1, h.2]
    · simp only [Bool.and_eq_true, decide_eq_true_eq, beq_iff_eq] at h; rw [h.1, h.2]
    · rw [eqStr_true h]
    · rfl
    · rw [addr_eq h]
    · simp only [beq_eq', Bool.and_eq_true, decide_eq_true_eq] at h; rw [h.1, h.2]
    · simp only [Bool.and_eq_true, beq_eq', decide_eq_true_eq, Option.isNone_iff_eq_none] at h
      obtain ⟨⟨⟨⟨⟨h1, h2⟩, h3⟩, h4⟩, h5⟩, h6⟩ := h
      rename_i x _ _ y _ _
      cases x; cases y; simp_all
    · rfl
    · simp only [beq_eq', decide_eq_true_eq] at h; rw [h]
    · rfl
    · rfl
    · rename_i e; cases e
    · rename_i e; cases e
    · rename_i e; cases e
    · rename_i e; cases e
    · cases h
  | n + 1, a, b, h => by
    have ih := sameV_eq n
    have ihl := sameV_go ih
    unfold sameV at h
    split at h
    · simpa using h
    · simp only [Bool.and_eq_true, decide_eq_true_eq, beq_iff_eq] at h; rw [h.1, h.2]
    · simp only [Bool.and_eq_true, decide_eq_true_eq, beq_iff_eq] at h; rw [h.1, h.2]
    · rw [eqStr_true h]
    · rfl
    · rw [addr_eq h]
    · simp only [beq_eq', Bool.and_eq_true, decide_eq_true_eq] at h; rw [h.1, h.2]
    · simp only [Bool.and_eq_true, beq_eq', decide_eq_true_eq, Option.isNone_iff_eq_none] at h
      obtain ⟨⟨⟨⟨⟨h1, h2⟩, h3⟩, h4⟩, h5⟩, h6⟩ := h
      rename_i x _ _ y _ _
      cases x; cases y; simp_all
    · rfl
    · simp only [beq_eq', decide_eq_true_eq] at h; rw [h]
    · rfl
    · rfl
    · rename_i e; cases e
      simp only [Bool.and_eq_true, beq_eq', decide_eq_true_eq] at h
      obtain ⟨⟨h1, h2⟩, h3⟩ := h
      rw [h1, Array.toList_inj.1 (ihl _ _ h2), Array.toList_inj.1 (ihl _ _ h3)]
    · rename_i e; cases e
      simp only [Bool.and_eq_true, beq_eq', decide_eq_true_eq] at h
      rw [h.1, ih _ _ h.2]
    · rename_i e; cases e
      rw [Array.toList_inj.1 (ihl _ _ h)]
    · rename_i e; cases e
      rw [Array.toList_inj.1 (ihl _ _ h)]
    · cases h
end
end Go.Ev
