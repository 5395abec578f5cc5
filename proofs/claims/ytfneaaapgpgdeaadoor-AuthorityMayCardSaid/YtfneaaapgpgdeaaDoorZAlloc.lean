/- THE EVALUATOR, part 'Alloc': a deterministic reading of the program's code over an abstract heap, and that the model does what it says. Conditions: none beyond each theorem's own. -/
import Derived.Test.YtfneaaapgpgdeaaDoorZRead
import Derived.IntWalk
set_option linter.unusedSimpArgs false
set_option linter.unusedVariables false
namespace Go.Ev
section
variable {P : Program} {E : Env} {ρ : Ren}

theorem rep_get {α : Type} : ∀ (n : Nat) (l : List α) (i : Nat), (rep n l)[i]? = if i < n * l.length then l[i % l.length]? else none
  | 0, l, i => by simp [rep]
  | n + 1, l, i => by
    rw [rep, List.getElem?_append]
    by_cases h : i < l.length
    · rw [if_pos h, if_pos (by rw [Nat.succ_mul]; omega), Nat.mod_eq_of_lt h]
    · rw [if_neg h, rep_get n l, Nat.succ_mul]
      by_cases h2 : i < n * l.length + l.length
      · rw [if_pos (by omega), if_pos h2, ← Nat.mod_eq_sub_mod (by omega)]
      · rw [if_neg (by omega), if_neg h2]
theorem rep_zero (z : Array Value) (n : Nat) (hz : 0 < z.size) : ((Array.range (n * z.size)).map (z[· % z.size]!)).toList = rep n z.toList := by
  apply List.ext_getElem?
  intro i
  rw [rep_get]
  simp only [Array.toList_map, Array.toList_range, List.getElem?_map, Array.length_toList]
  by_cases h : i < n * z.size
  · have hm : i % z.size < z.size := Nat.mod_lt _ hz
    simp [h, hm]
  · simp [h]
theorem all_oneCell {ρ : Ren} {l l' : List Value} (h : VRL ρ l l') (ho : l.all Ev.oneCell = true) : l'.all Value.oneCell' = true := List.all_eq_true.2 (h.oneCell ho)

theorem BR.of_list {l : List Value} {xs : Array Value} (h : VRL ρ l xs.toList) (e : TypeId) (c : Nat) : BR P ρ c (.cells l e true) (.cells xs e (0, 0)) :=
  .cells _ _ _ _ (fun i v hv => by obtain ⟨v', e, r⟩ := h.get i v hv; exact ⟨v', by simpa using e, r⟩) (by simp [h.length])

theorem const0_oneCell {v : Value} (h : constOk0 v = true) : Ev.oneCell v = true := by
  cases v <;> first | rfl | (simp [constOk0] at h)

def AllocOK (P : Program) (ρ : Ren) (s : Sem Next) (k : Blk) (mk : Nat → Value) : Prop :=
  ∃ (obj : Obj) (mk' : Nat → Value), (∀ w : World, s.run P w = .ok (.value (mk' w.heap.size)) { w with heap := w.heap.push obj }) ∧ BR P ρ 0 k obj ∧ k ≠ .dead ∧
      ∀ (ρ' : Ren) (i b : Nat), ρ' i = some (b, 0) → VR ρ' (mk i) (mk' b)

theorem empty_map (b : Bool) : BR P ρ 0 (cond b (.smap []) (.map [] 0)) (.map #[] 0) := by
  cases b
  · exact .map _ _ _ .nil
  · exact .smap _ _ _ ⟨fun e he => by simp at he, fun e he => by cases he⟩
theorem empty_ne (b : Bool) : cond b (.smap []) (.map [] 0) ≠ Blk.dead := by cases b <;> simp

theorem alloc_sim (hE : EnvOK P E) {fr : Fr} {a : Act} {o : Oper} {k : Blk} {mk : Nat → Value} (hf : FR E ρ fr a) (e : allocOp E fr o = some (k, mk)) :
    AllocOK P ρ (execOp a.eval o) k mk := by
  have var : ∀ (t : TypeId) (v v' : Value), varBlk t v = some (k, mk) → VR ρ v v' → (∀ w : World, (execOp a.eval o).run P w = ((newVar t v').run P w).andThen fun r w' => .ok (.value (.pointer (some r))) w') →
      AllocOK P ρ (execOp a.eval o) k mk := by
    intro t v v' hv r hrun
    unfold varBlk at hv
    cases hall : v.cells.toList.all Ev.oneCell with
    | false => simp [hall] at hv
    | true =>
      simp only [hall, cond_true] at hv; cases hv
      exact ⟨.cells v'.cells t (0, 0), fun b => .pointer (some ⟨b, 0, none⟩), fun w => by rw [hrun]; simp [newVar, newRow], BR.of_list r.cells t 0, by simp, fun ρ' i b h => .ptr 0 h⟩
  unfold allocOp at e
  split at e
  · rename_i t ho
    split at e
    · rename_i z hz
      exact var t z z e (VR.const ρ (hE.zero hz).2) (fun w => by simp [execOp, ho, Instr.alloc, hE.run_zero hz, newVar, newRow])
    · cases e
  · rename_i t x ho
    split at e
    · rename_i v hv
      exact var t v (a.eval x) e (ev_sim hf hv) (fun w => by simp [execOp, ho, Instr.box, newVar, newRow])
    · cases e
  · rename_i t len ps ho
    split at e
    · rename_i l hl
      obtain ⟨h1, h2⟩ := evp_sim hf hl
      unfold abuildSlice at e
      split at e
      · rename_i elem hu
        have hu := hE.und hu (by simp)
        split at e
        · rename_i i hi
          split at e
          · rename_i z hz
            rw [ble_eq, beq_eq', beq_eq'] at e
            by_cases hc : len * i.size ≤ 100000 ∧ z.cells.toList.length = i.size ∧ ¬ i.size = 0
            · obtain ⟨c1, c2, c3⟩ := hc
              simp only [c1, c2, c3, decide_true, decide_false, Bool.not_false, Bool.and_self, cond_true] at e
              split at e
              · rename_i cs hcs
                cases e
                obtain ⟨info, i1, i2, i3, i4, i5, i6, i7⟩ := hE.tab elem i hi
                have hzz := i6 z hz
                have rz := (VR.const ρ hzz.2).cells
                have hsz : z.cells.size = i.size := by simpa using c2
                have hzr : ∀ w : World, (zeroValue elem).run P w = .ok z w := fun w => by simp [zeroValue, Go.run_typeInfo w i1, hzz.1]
                have rrep : VRL ρ (rep len z.cells.toList) ((Array.range (len * i.size)).map (z.cells[· % z.cells.size]!)).toList := by
                  rw [← hsz, rep_zero z.cells len (by omega)]
                  have : ∀ n, VRL ρ (rep n z.cells.toList) (rep n z.cells.toList) := by
                    intro n
                    induction n with
                    | zero => exact .nil
                    | succ n ih => exact rz.append ih
                  exact this len
                obtain ⟨l', e, r⟩ := fill_sim (ρ := ρ) (place := fun k => some (k * i.size, i.size)) (place' := fun k => some (k * i.size, i.size)) (fun i x hx => hx) hcs rrep (ps' := ps.toList.map fun p => (p.1, a.eval p.2)) (by simpa using h1) (by simpa using h2)
                refine ⟨.cells l'.toArray elem (0, 0), fun b => .slice (some ⟨b, 0, none⟩) len len, fun w => ?_, BR.of_list (by simpa using r) elem 0, by simp, fun ρ' j b h => .slice 0 len len h ?_⟩
                · have hs : (sizeOf elem).run P w = .ok i.size w := by simp [sizeOf, Go.run_typeInfo w i1, i3]
                  have e1 : Instr.fill (fun k => some (k * i.size, i.size)) ((Array.range (len * i.size)).map (z.cells[· % z.cells.size]!)) (ps.map fun p => (p.1, a.eval p.2)).toList = some l'.toArray := by
                    rw [Array.toList_map, ← Array.toArray_toList (xs := (Array.range (len * i.size)).map _)]; exact e
                  simp only [execOp, ho, Sem.run_bind, Instr.buildSlice, run_underlying hu, Result.andThen_ok, hs, Sem.run_ite]
                  rw [if_neg (by omega)]
                  by_cases h0 : len * i.size = 0
                  · rw [if_pos h0]
                    have hr0 : Array.range (len * i.size) = #[] := by rw [h0]; rfl
                    rw [hr0] at e1 ⊢
                    simp only [Array.map_empty] at e1 ⊢
                    simp only [Sem.run_pure, Result.andThen_ok, e1, newRow, Sem.run_bind, run_newObj]
                  · rw [if_neg h0]
                    simp only [Sem.run_bind, hzr, Sem.run_pure, Result.andThen_ok, e1, newRow, run_newObj]
                · have hlen : len ≤ len * i.size := Nat.le_mul_of_pos_right _ (by omega)
                  exact Nat.lt_of_le_of_lt (Nat.le_trans hlen c1) (show 100000 < UNK by decide)
              · cases e
            · exfalso
              have : (decide (len * i.size ≤ 100000) && decide (z.cells.toList.length = i.size) && !decide (i.size = 0)) = false := by
                rw [Bool.eq_false_iff]
                intro hh
                simp only [Bool.and_eq_true, decide_eq_true_eq, Bool.not_eq_true', decide_eq_false_iff_not] at hh
                exact hc ⟨hh.1.1, hh.1.2, hh.2⟩
              rw [this] at e; cases e
          · cases e
        · cases e
      · cases e
    · cases e
  · rename_i t lo co ho
    split at e
    · rename_i lv cv hl hc
      unfold amakeSlice at e
      split at e
      · rename_i elem k1 l k2 c hu
        have hu := hE.und hu (by simp)
        have rl := ev_sim hf hl
        have rc := ev_sim hf hc
        generalize hlo : a.eval lo = lv' at rl
        generalize hco : a.eval co = cv' at rc
        cases rl; cases rc
        by_cases hb : 0 ≤ l ∧ l ≤ c ∧ c < 100000
        · obtain ⟨b1, b2, b3⟩ := hb
          simp only [b1, b2, b3, decide_true, Bool.and_self, cond_true] at e
          split at e
          · rename_i i hi
            split at e
            · rename_i z hz
              rw [ble_eq, beq_eq', beq_eq'] at e
              by_cases hcc : i.bytes ≤ 10000 ∧ z.cells.toList.length = i.size ∧ ¬ i.size = 0
              · obtain ⟨c1, c2, c3⟩ := hcc
                simp only [c1, c2, c3, decide_true, decide_false, Bool.not_false, Bool.and_self, cond_true] at e
                cases e
                obtain ⟨info, i1, i2, i3, i4, i5, i6, i7⟩ := hE.tab elem i hi
                have hzz := i6 z hz
                have rz := (VR.const ρ hzz.2).cells
                have hsz : z.cells.size = i.size := by simpa using c2
                have hzr : ∀ w : World, (zeroValue elem).run P w = .ok z w := fun w => by simp [zeroValue, Go.run_typeInfo w i1, hzz.1]
                have rrep : VRL ρ (rep c.toNat z.cells.toList) (rep c.toNat z.cells.toList) := by
                  have : ∀ n, VRL ρ (rep n z.cells.toList) (rep n z.cells.toList) := by
                    intro n
                    induction n with
                    | zero => exact .nil
                    | succ n ih => exact rz.append ih
                  exact this _
                refine ⟨.cells (rep c.toNat z.cells.toList).toArray elem (0, 0), fun b => .slice (some ⟨b, 0, none⟩) l.toNat c.toNat, fun w => ?_, BR.of_list (by simpa using rrep) elem 0, by simp, fun ρ' j b h => .slice 0 _ _ h ?_⟩
                · have hs : (sizeOf elem).run P w = .ok i.size w := by simp [sizeOf, Go.run_typeInfo w i1, i3]
                  have w1 : IntKind.i64.wrap l = l := IntWalk.i64_in l (by omega)
                  have w2 : IntKind.i64.wrap c = c := IntWalk.i64_in c (by omega)
                  have hbytes : (info.bytes : Int) * c ≤ 10000 * 100000 := Int.mul_le_mul (by omega) (by omega) (by omega) (by omega)
                  have hbytes2 : (info.bytes : Int) * l ≤ 10000 * 100000 := Int.mul_le_mul (by omega) (by omega) (by omega) (by omega)
                  have hlarge : ((decide (c < 0) || decide ((info.bytes : Int) * c > 2 ^ 48)) || decide (l < 0) || decide (l > c)) = false := by
                    simp only [Bool.or_eq_false_iff, decide_eq_false_iff_not]; omega
                  have hcells : (Array.range (c.toNat * i.size)).map (z.cells[· % z.cells.size]!) = (rep c.toNat z.cells.toList).toArray := by
                    apply Array.ext'
                    rw [← hsz, rep_zero z.cells c.toNat (by omega)]
                  simp only [execOp, ho, hlo, hco, Sem.run_bind, Instr.makeSlice, run_underlying hu, Result.andThen_ok, asInt, asIntOf, Sem.run_pure, Go.run_typeInfo w i1, w1, w2, hs, hlarge, Bool.false_eq_true, if_false, run_askRoom, Sem.run_ite]
                  by_cases h0 : c.toNat * i.size = 0
                  · rw [if_pos h0]
                    have hr0 : Array.range (c.toNat * i.size) = #[] := by rw [h0]; rfl
                    rw [hr0] at hcells ⊢
                    simp only [Array.map_empty] at hcells ⊢
                    simp only [Result.andThen_ok, newRow, Sem.run_bind, run_newObj, Sem.run_pure, hcells]
                  · rw [if_neg h0]
                    simp only [hzr, Result.andThen_ok, newRow, Sem.run_bind, run_newObj, Sem.run_pure, hcells]
                · have : c.toNat < 100000 := by omega
                  exact Nat.lt_trans this (by decide)
              · exfalso
                have : (decide (i.bytes ≤ 10000) && decide (z.cells.toList.length = i.size) && !decide (i.size = 0)) = false := by
                  rw [Bool.eq_false_iff]
                  intro hh
                  simp only [Bool.and_eq_true, decide_eq_true_eq, Bool.not_eq_true', decide_eq_false_iff_not] at hh
                  exact hcc ⟨hh.1.1, hh.1.2, hh.2⟩
                rw [this] at e; cases e
            · cases e
          · cases e
        · exfalso
          have : (decide (0 ≤ l) && decide (l ≤ c) && decide (c < 100000)) = false := by
            rw [Bool.eq_false_iff]
            intro hh
            simp only [Bool.and_eq_true, decide_eq_true_eq] at hh
            exact hb ⟨hh.1.1, hh.1.2, hh.2⟩
          rw [this] at e; cases e
      · cases e
    · cases e
  · rename_i t r ho
    split at e
    · cases e
      exact ⟨.map #[] 0, fun b => .map (some b), fun w => by simp [execOp, ho, Instr.makeMap], empty_map _, empty_ne _, fun ρ' i b h => .map h⟩
    · rename_i x kt et hu
      have hu := hE.und hu (by simp)
      split at e
      · rename_i k1 n hx
        cases e
        have rx := ev_sim hf hx
        generalize hxe : a.eval x = xe at rx
        cases rx
        exact ⟨.map #[] 0, fun b => .map (some b), fun w => by simp [execOp, ho, Instr.makeMap, hxe, run_underlying hu, asInt, asIntOf], empty_map _, empty_ne _, fun ρ' i b h => .map h⟩
      · cases e
    · cases e
  · cases e
end
end Go.Ev
