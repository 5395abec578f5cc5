/- THE EVALUATOR, part 'Act3': a deterministic reading of the program's code over an abstract heap, and that the model does what it says. Conditions: none beyond each theorem's own. -/
import Derived.Test.YtfneaaapgpgdeaaDoorZAct2
set_option linter.unusedSimpArgs false
set_option linter.unusedVariables false
namespace Go.Ev
section
variable {P : Program} {E : Env} {ρ : Ren} {h : Heap} {w : World}

theorem new_sim (hr : HR P ρ h w) {k : Blk} {o : Obj} (hb : BR P ρ 0 k o) : (newObj o).run P w = .ok w.heap.size { w with heap := w.heap.push o } ∧
    Stp P ρ h w (ρ.upd h.n (w.heap.size, 0)) (newBlk h k) { w with heap := w.heap.push o } ∧ VR (ρ.upd h.n (w.heap.size, 0)) (.pointer (some ⟨h.n, 0, none⟩)) (.pointer (some ⟨w.heap.size, 0, none⟩)) :=
  ⟨rfl, Stp.alloc hr hb rfl rfl rfl rfl, .ptr 0 (Ren.upd_same _ _ _)⟩

theorem arange_sim (hE : EnvOK P E) (hr : HR P ρ h w) {t : TypeId} {x x' v : Value} {h' : Heap} (e : arange E t x h = some (v, h')) (hx : VR ρ x x') :
    ∃ v' ρ' w', (Instr.range t x').run P w = .ok v' w' ∧ VR ρ' v v' ∧ Stp P ρ h w ρ' h' w' := by
  unfold arange at e
  split at e
  · rename_i s hu
    have hu := hE.und hu (by simp)
    cases e; cases hx
    obtain ⟨h1, h2, h3⟩ := new_sim hr (BR.siter (P := P) (ρ := ρ) (c := 0) s 0)
    exact ⟨_, _, _, by simp [Instr.range, run_underlying hu], h3, h2⟩
  · rename_i kt et hu
    have hu := hE.und hu (by simp)
    cases e; cases hx
    obtain ⟨h1, h2, h3⟩ := new_sim hr (BR.miterN (P := P) (ρ := ρ) (c := 0) 0 [] 0)
    exact ⟨_, _, _, by simp [Instr.range, run_underlying hu], h3, h2⟩
  · rename_i kt et m hu
    have hu := hE.und hu (by simp)
    split at e
    · rename_i es c hg
      cases e
      obtain ⟨i, b, c', es', hmi, rfl, hi, e1, e2, hmr⟩ := getMap_sim hr hg hx
      cases hmi
      obtain ⟨h1, h2, h3⟩ := new_sim hr (BR.miter (P := P) (c := 0) hi c [] c)
      exact ⟨_, _, _, by simp [Instr.range, run_underlying hu, run_getObj_map e2], h3, h2⟩
    · cases e
  · cases e

theorem MR.filter {es : List (Value × Value × Nat)} {es' : List MapEntry} (hm : MR ρ es es') (p : Nat → Bool) : MR ρ (es.filter fun e => p e.2.2) (es'.filter fun e => p e.born) := by
  induction hm with
  | nil => exact .nil
  | cons h1 h2 t ih =>
    rename_i n _ _
    simp only [List.filter_cons]
    cases p n
    · exact ih
    · exact .cons h1 h2 ih
theorem MR.all {es : List (Value × Value × Nat)} {es' : List MapEntry} (hm : MR ρ es es') (p : Nat → Bool) : (es'.all fun e => p e.born) = (es.all fun e => p e.2.2) := by
  induction hm with
  | nil => rfl
  | cons h1 h2 t ih => simp [ih]

theorem run_getObj {b : Nat} {o : Obj} (hb : w.heap[b]? = some o) (hn : ∀ c e f, o ≠ .cells c e f) : (getObj b).run P w = .ok o w := by
  cases o <;> first | exact (hn _ _ _ rfl).elim | (simp only [getObj, Sem.run, hb])

theorem anext_sim (hr : HR P ρ h w) {it it' v : Value} {str : Bool} {ty : TypeId} {h' : Heap} (e : anext it str h = some (v, h')) (hx : VR ρ it it') :
    ∃ v' w', (Instr.next it' str ty).run P w = .ok v' w' ∧ VR ρ v v' ∧ Stp P ρ h w ρ h' w' := by
  unfold anext at e
  split at e
  · rename_i r sp
    cases hx with
    | @ptr _ b c _ hi =>
      obtain ⟨k, o, e1, e2, e3⟩ := hr.blk r b c hi
      rw [e1] at e
      cases e3 with
      | siter s pos =>
        cases str with
        | false => simp at e
        | true =>
          simp only [blt_eq] at e
          have hg := run_getObj (P := P) e2 (by simp)
          by_cases hp : pos < s.size
          · simp only [hp, decide_true, cond_true] at e
            cases e
            have hbr : BR P ρ c (.siter s (pos + (Utf8.decode s pos).2)) (.stringIter s (pos + (Utf8.decode s pos).2)) := .siter _ _
            obtain ⟨o1, o2⟩ := obj_write (P := P) hr hi e1 (by simp [soft]) e2 (by simp) hbr
            refine ⟨.tuple #[.bool true, goInt pos, .int .i32 (Utf8.decode s pos).1], _, ?_, .tuple _ _ (.cons (.bool _) (.cons (.int _ _) (.cons (.int _ _) .nil))), o2⟩
            simp only [Instr.next, Sem.run_bind, hg, Result.andThen_ok, hp, if_true, o1, Sem.run_pure]
          · simp only [hp, decide_false, cond_false] at e
            cases e
            refine ⟨.tuple #[.bool false], w, ?_, .tuple _ _ (.cons (.bool _) .nil), Stp.refl hr⟩
            simp only [Instr.next, Sem.run_bind, hg, Result.andThen_ok, hp, if_false, Sem.run_pure]
      | miterN since seen last =>
        cases str with
        | true => simp at e
        | false =>
          simp only at e; cases e
          have hg := run_getObj (P := P) e2 (by simp)
          refine ⟨.tuple #[.bool false], w, ?_, .tuple _ _ (.cons (.bool _) .nil), Stp.refl hr⟩
          simp only [Instr.next, Sem.run_bind, hg, Result.andThen_ok, Sem.run_pure]
      | @miter m bm cm hm since seen last =>
        cases str with
        | true => simp at e
        | false =>
          simp only at e
          have hg := run_getObj (P := P) e2 (by simp)
          split at e
          · rename_i es clk hgm
            obtain ⟨i, b', c', es', hmi, hmi', hi', e1', e2', hmr⟩ := getMap_sim hr hgm (.map hm)
            cases hmi; cases hmi'
            have hlenE : es.isEmpty = es'.isEmpty := by
              have hl := hmr.length
              cases es' with
              | mk l => cases es <;> cases l <;> simp_all
            cases hcond : (!seen.isEmpty && !es.isEmpty && es.all fun e => Nat.ble last e.2.2) with
            | true => simp [hcond] at e
            | false =>
              simp only [hcond, cond_false] at e
              have hcond' : (!seen.toArray.isEmpty && !es'.isEmpty && es'.all (·.born ≥ last)) = false := by
                rw [← hlenE, ← hcond]
                congr 1
                · simp
                · rw [← Array.all_toList, hmr.all (fun n => decide (n ≥ last))]
                  congr 1
                  funext x
                  rw [ble_eq]
              have hfil := hmr.filter (fun n => !seen.contains n)
              have hleft : (es'.filter fun e => !seen.toArray.contains e.born).toList = es'.toList.filter fun e => !seen.contains e.born := by simp
              split at e
              · rename_i hl
                cases e
                rw [hl] at hfil
                refine ⟨.tuple #[.bool false], w, ?_, .tuple _ _ (.cons (.bool _) .nil), Stp.refl hr⟩
                have hl' : (es'.filter fun e => !seen.toArray.contains e.born) = #[] := by
                  apply Array.ext'
                  rw [hleft]
                  cases hq : es'.toList.filter fun e => !seen.contains e.born with
                  | nil => rfl
                  | cons x l => rw [hq] at hfil; cases hfil
                have hf : (Question.mapNext 1).forced = true := rfl
                simp only [Instr.next, Sem.run_bind, hg, run_getObj_map e2', Result.andThen_ok, hcond', Bool.false_eq_true, if_false, hl']
                simp [hf]
              · rename_i k0 v0 b0 hl
                rw [hl] at hfil
                rw [blt_eq] at e
                by_cases hb0 : b0 < since
                · simp only [hb0, decide_true, cond_true] at e
                  cases e
                  cases hq : es'.toList.filter fun e => !seen.contains e.born with
                  | nil => rw [hq] at hfil; cases hfil
                  | cons x l =>
                    rw [hq] at hfil
                    cases hfil with
                    | cons rk rv t =>
                      cases t
                      rename_i kk vv
                      have hl' : (es'.filter fun e => !seen.toArray.contains e.born) = #[{ key := kk, val := vv, born := b0 }] := by
                        apply Array.ext'
                        rw [hleft, hq]
                      have hf : (Question.mapNext 1).forced = true := rfl
                      have hnb : ¬ b0 ≥ since := by omega
                      have hbr : BR P ρ c (.miter (some m) since (seen ++ [b0]) clk) (.mapIter (some bm) since (seen ++ [b0]).toArray clk) := .miter hm since (seen ++ [b0]) clk
                      obtain ⟨o1, o2⟩ := obj_write (P := P) hr hi e1 (by simp [soft]) e2 (by simp) hbr
                      refine ⟨.tuple #[.bool true, kk, vv], _, ?_, .tuple _ _ (.cons (.bool _) (.cons rk (.cons rv .nil))), o2⟩
                      simp only [Instr.next, Sem.run_bind, hg, run_getObj_map e2', Result.andThen_ok, hcond', Bool.false_eq_true, if_false, hl']
                      simp [hf, hb0, hnb, o1]
                · simp [hb0] at e
              · cases e
          · cases e
      | _ => simp at e
  · cases e

/-! rows -/
theorem lenOf_sim {x x' : Value} {n : Nat} (e : lenOf x = some n) (hx : VR ρ x x') (w : World) : (Builtin.lenOf x').run P w = .ok n w := by
  unfold lenOf at e
  split at e
  · cases e; cases hx <;> simp [Builtin.lenOf]
  · cases e; cases hx; simp [Builtin.lenOf]
  · cases e

theorem base_sim {ρ : Ren} {a : Addr} {n c : Nat} {x' : Value} (hx : VR ρ (.slice (some a) n c) x') :
    (∃ b d c', ρ a.block = some (b, d) ∧ a.spot = none ∧ x' = .slice (some ⟨b, a.off, none⟩) n c') ∨ (n = 0 ∧ c = UNK2 ∧ ∃ a' c', x' = .slice (some a') 0 c') := by
  cases hx with
  | slice off _ _ h hc => exact .inl ⟨_, _, _, h, rfl, rfl⟩
  | sliceU off _ _ h _ _ _ => exact .inl ⟨_, _, _, h, rfl, rfl⟩
  | sliceE _ a' c' => exact .inr ⟨rfl, rfl, a', c', rfl⟩

theorem firstCells_sim (hr : HR P ρ h w) {sz n : Nat} {x x' : Value} {l : List Value} (e : firstCells h sz n x = some l) (hx : VR ρ x x') (hn : ∀ a c, x = .slice a 0 c → n = 0) :
    ∃ l' : List Value, (∀ w2 : World, w2.heap = w.heap → (Builtin.firstCells sz n x').run P w2 = .ok l'.toArray w2) ∧ VRL ρ l l' ∧ l.length = n * sz := by
  unfold firstCells at e
  split at e
  · rename_i a len cap
    rcases base_sim hx with ⟨b, d, c', hb, hs, rfl⟩ | ⟨h0, _, a', c', rfl⟩
    · obtain ⟨bl, off, sp⟩ := a
      simp only at hs; subst hs
      obtain ⟨l', r, hlen, hc⟩ := cellsAt_sim hr hb e
      refine ⟨l', fun w2 hw2 => ?_, r, hlen⟩
      have := run_loadCells_list (P := P) w2 _ l' (fun j v' e => by have := hc j v' e; simpa [World.cell?, hw2] using this)
      rw [← r.length, hlen] at this
      simpa [Builtin.firstCells] using this
    · subst h0
      have := hn _ _ rfl
      subst this
      simp [cellsAt] at e
      subst e
      exact ⟨[], fun w2 _ => by simp [Builtin.firstCells, loadCells, loadCellsFrom], .nil, by simp⟩
  · rename_i len cap
    rw [cond_beq] at e
    split at e
    · rename_i h0
      cases e; cases hx; subst h0
      exact ⟨[], fun w2 _ => by simp [Builtin.firstCells], .nil, by simp⟩
    · cases e
  · rename_i s
    rw [cond_beq] at e
    split at e
    · rename_i h1
      subst h1
      simp only [Option.map_eq_some_iff] at e
      obtain ⟨q, hq, rfl⟩ := e
      obtain ⟨h1, rfl⟩ := takeN_eq _ _ _ hq
      cases hx
      refine ⟨(s.data.toList.take n).map fun b => .int .u8 b.toNat, fun w2 _ => ?_, ?_, ?_⟩
      · simp only [Builtin.firstCells, Sem.run_pure]
        congr 1
        apply Array.ext'
        simp only [Array.toList_map, ByteArray.data_extract, Array.toList_extract, List.extract_eq_take_drop, List.drop_zero, Nat.sub_zero]
      · refine VRL.of_get rfl fun i v hv => ⟨v, hv, ?_⟩
        simp only [List.getElem?_map, Option.map_eq_some_iff] at hv
        obtain ⟨b, _, rfl⟩ := hv
        exact .int _ _
      · simp at h1 ⊢; omega
    · cases e
  · cases e
end
end Go.Ev
