/- THE EVALUATOR, part 'Pure3': a deterministic reading of the program's code over an abstract heap, and that the model does what it says. Conditions: none beyond each theorem's own. -/
import Derived.Test.YtfneaaapgpgdeaaDoorZPure2
set_option linter.unusedSimpArgs false
set_option linter.unusedVariables false
namespace Go.Ev
section
variable {P : Program} {E : Env} {ρ : Ren}

theorem run_mapM_list {α β : Type} (f : α → Sem β) (g : α → β) (w : World) : ∀ (l : List α), (∀ x ∈ l, (f x).run P w = .ok (g x) w) → (l.mapM f).run P w = .ok (l.map g) w
  | [], _ => by simp
  | x :: l, h => by
    have h1 := h x (by simp)
    have h2 := run_mapM_list f g w l (fun y hy => h y (by simp [hy]))
    simp [List.mapM_cons, h1, h2]
theorem run_mapM_array {α β : Type} (f : α → Sem β) (g : α → β) (w : World) (xs : Array α) (h : ∀ x ∈ xs.toList, (f x).run P w = .ok (g x) w) : (xs.mapM f).run P w = .ok (xs.map g) w := by
  rw [Array.mapM_eq_mapM_toList]
  simp only [Sem.run_map, run_mapM_list f g w xs.toList h, Result.andThen_ok]
  congr 1
  apply Array.ext'; simp

theorem abuild_sim (hE : EnvOK P E) {t : TypeId} {ps : List (Nat × Value)} {ps' : Array (Nat × Value)} {v : Value} (h : abuild E t ps = some v)
    (hi : ps'.toList.map (·.1) = ps.map (·.1)) (hv : VRL ρ (ps.map (·.2)) (ps'.toList.map (·.2))) :
    ∃ v', (∀ w : World, (Instr.build t ps').run P w = .ok v' w) ∧ VR ρ v v' := by
  unfold abuild at h
  split at h
  · rename_i z fields hz hu
    have hu := hE.und hu (by simp)
    split at h
    · rename_i places hp
      simp only [Option.map_eq_some_iff] at h
      obtain ⟨l, hl, rfl⟩ := h
      have hz' := VR.const ρ (hE.zero hz).2
      obtain ⟨hlen, hall⟩ := mapOpt_some hp
      have hmap : ∀ w : World, (fields.mapM fun (f : Field) => (do pure (f.offset, ← sizeOf f.type) : Sem (Nat × Nat))).run P w = .ok (fields.map fun (f : Field) => (f.offset, P.cellsOf f.type)) w := by
        intro w
        refine run_mapM_array _ _ w fields fun f hf => ?_
        obtain ⟨i, hi', e⟩ := List.getElem_of_mem hf
        obtain ⟨y, hy, _⟩ := hall i f (by rw [List.getElem?_eq_getElem hi', e])
        simp only [Option.map_eq_some_iff] at hy
        obtain ⟨n, hn, rfl⟩ := hy
        simp [hE.run_size hn, hE.cellsOf hn]
      obtain ⟨l', e, r⟩ := fill_sim (ρ := ρ) (place := nth places) (place' := ((fields.map fun (f : Field) => (f.offset, P.cellsOf f.type))[·]?)) (fun i x hx => by
        rw [nth_eq] at hx
        have hlt : i < fields.toList.length := by rw [← hlen]; exact (List.getElem?_eq_some_iff.1 hx).1
        obtain ⟨y, hy, hy2⟩ := hall i _ (List.getElem?_eq_getElem hlt)
        rw [hx] at hy2; cases hy2
        simp only [Option.map_eq_some_iff] at hy
        obtain ⟨n, hn, rfl⟩ := hy
        have hlt' : i < fields.size := by simpa using hlt
        have hn : Ev.size E fields[i].type = some n := by simpa using hn
        simp [hlt', hE.cellsOf hn]) hl hz'.cells hi hv
      refine ⟨.agg l'.toArray, fun w => ?_, .agg _ _ (by simpa using r)⟩
      have e : Instr.fill (fun x => (fields.map fun (f : Field) => (f.offset, P.cellsOf f.type))[x]?) z.cells ps'.toList = some l'.toArray := by simpa using e
      simp only [Instr.build, Sem.run_bind, hE.run_zero hz, Result.andThen_ok, run_underlying hu, hmap w]
      simp only [e, Sem.run_pure]
    · cases h
  · rename_i z n elem hz hu
    have hu := hE.und hu (by simp)
    split at h
    · rename_i sz hs
      simp only [Option.map_eq_some_iff] at h
      obtain ⟨l, hl, rfl⟩ := h
      have hz' := VR.const ρ (hE.zero hz).2
      obtain ⟨l', e, r⟩ := fill_sim (ρ := ρ) (place := fun i => some (i * sz, sz)) (place' := fun i => some (i * sz, sz)) (fun i x hx => hx) hl hz'.cells hi hv
      refine ⟨.agg l'.toArray, fun w => ?_, .agg _ _ (by simpa using r)⟩
      have e : Instr.fill (fun i => some (i * sz, sz)) z.cells ps'.toList = some l'.toArray := by simpa using e
      simp only [Instr.build, Sem.run_bind, hE.run_zero hz, Result.andThen_ok, run_underlying hu, hE.run_size hs]
      simp only [e, Sem.run_pure]
    · cases h
  · cases h

inductive OR (ρ : Ren) : Option Value → Option Value → Prop
  | none : OR ρ none none
  | some {v v' : Value} (h : VR ρ v v') : OR ρ (some v) (some v')

theorem abounds_sim {len cap cap' l h m : Nat} {low high mx low' high' mx' : Option Value} (e : abounds len cap low high mx = some (l, h, m)) (hc : cap ≤ cap')
    (h1 : OR ρ low low') (h2 : OR ρ high high') (h3 : OR ρ mx mx') (b : Bool) (w : World) :
    (Instr.sliceBounds b len cap' low' high' mx').run P w = .ok (l, h, if mx.isSome then m else cap') w ∧ l ≤ h ∧ (mx = none → m = cap) ∧ m ≤ cap ∧ (len ≤ cap → h ≤ m) := by
  unfold abounds at e
  cases h3 with
  | none =>
    simp only [aboundsM] at e
    cases h2 with
    | none =>
      simp only at e
      cases h1 with
      | none =>
        simp only [aboundsL] at e; cases e
        exact ⟨by simp [Instr.sliceBounds], by omega, fun _ => rfl, by omega, fun x => x⟩
      | some r =>
        simp only [aboundsL] at e
        split at e
        · cases e
        · rename_i l' hl
          cases e
          obtain ⟨k1, k2⟩ := bound_sim (P := P) hl r (Nat.le_refl _) .sliceB w
          exact ⟨by simp [Instr.sliceBounds, k1], k2, fun _ => rfl, by omega, fun x => x⟩
    | some r2 =>
      simp only at e
      split at e
      · cases e
      · rename_i h' hh
        have hb := fun c => bound_sim (P := P) hh r2 hc c w
        cases h1 with
        | none =>
          simp only [aboundsL] at e; cases e
          exact ⟨by cases b <;> simp [Instr.sliceBounds, (hb _).1], by omega, fun _ => rfl, by omega, fun _ => (hb .sliceB).2⟩
        | some r =>
          simp only [aboundsL] at e
          split at e
          · cases e
          · rename_i l' hl
            cases e
            obtain ⟨k1, k2⟩ := bound_sim (P := P) hl r (Nat.le_refl _) .sliceB w
            exact ⟨by cases b <;> simp [Instr.sliceBounds, k1, (hb _).1], k2, fun _ => rfl, by omega, fun _ => (hb .sliceB).2⟩
  | some r3 =>
    simp only [aboundsM] at e
    split at e
    · cases e
    · rename_i m' hm
      have hbm := fun c => bound_sim (P := P) hm r3 hc c w
      cases h2 with
      | none => simp at e
      | some r2 =>
        simp only at e
        split at e
        · cases e
        · rename_i h' hh
          have hb := fun c => bound_sim (P := P) hh r2 (Nat.le_refl _) c w
          cases h1 with
          | none =>
            simp only [aboundsL] at e; cases e
            exact ⟨by cases b <;> simp [Instr.sliceBounds, (hb _).1, (hbm _).1], by omega, fun x => (by cases x), (hbm .sliceB).2, fun _ => (hb .sliceB).2⟩
          | some r =>
            simp only [aboundsL] at e
            split at e
            · cases e
            · rename_i l' hl
              cases e
              obtain ⟨k1, k2⟩ := bound_sim (P := P) hl r (Nat.le_refl _) .slice3C w
              exact ⟨by cases b <;> simp [Instr.sliceBounds, k1, (hb _).1, (hbm _).1], k2, fun x => (by cases x), (hbm .sliceB).2, fun _ => (hb .sliceB).2⟩

theorem OR.isSome {o o' : Option Value} (h : OR ρ o o') : o'.isSome = o.isSome := by cases h <;> rfl

theorem asliceS_sim (hE : EnvOK P E) {t : TypeId} {x x' v : Value} {low high mx low' high' mx' : Option Value} (e : asliceS E t x low high mx = some v) (hx : VR ρ x x')
    (h1 : OR ρ low low') (h2 : OR ρ high high') (h3 : OR ρ mx mx') : ∃ v', (∀ w : World, (Instr.sliceAt t x' low' high' mx').run P w = .ok v' w) ∧ VR ρ v v' := by
  unfold asliceS at e
  split at e
  · rename_i s hu
    have hu := hE.und hu (by simp)
    cases hx
    split at e
    · cases e
    · cases h3
      simp only [Option.map_eq_some_iff] at e
      obtain ⟨⟨l, h, m⟩, e, rfl⟩ := e
      refine ⟨.string (s.extract l h), fun w => ?_, .string _⟩
      have hb := (abounds_sim (P := P) e (Nat.le_refl _) h1 h2 .none false w).1
      simp only [Instr.sliceAt, Sem.run_bind, run_underlying hu, Result.andThen_ok, Instr.slice, Option.isSome_none, Bool.false_eq_true, if_false, hb, Sem.run_pure]
  · rename_i elem a len cap hu
    have hu := hE.und hu (by simp)
    have run : ∀ (a' : Option Addr) (cap' sz l h m : Nat) (w : World), (Instr.sliceBounds true len cap' low' high' mx').run P w = .ok (l, h, m) w → Ev.size E elem = some sz →
        (Instr.sliceAt t (.slice a' len cap') low' high' mx').run P w = .ok (.slice (if m = l then a' else a'.map (·.add (l * sz))) (h - l) (m - l)) w := by
      intro a' cap' sz l h m w hb hs
      simp only [Instr.sliceAt, Sem.run_bind, run_underlying hu, Result.andThen_ok, Instr.slice, hb, hE.run_size hs, Sem.run_pure]
    rw [cond_beq] at e
    by_cases hc2 : cap = UNK2
    · rw [if_pos hc2] at e
      subst hc2
      split at e
      · rename_i p sz hp hs
        obtain ⟨l, h, m⟩ := p
        cases e
        cases hx with
        | slice _ _ _ _ hlt => exact absurd hlt (by decide)
        | nilslice _ _ hlt => exact absurd hlt (by decide)
        | sliceE a0 a' cap' =>
          have hbb := fun w => abounds_sim (P := P) hp (Nat.zero_le cap') h1 h2 h3 true w
          obtain ⟨-, k1, k2, k3, k4⟩ := hbb default
          have k4 := k4 (Nat.le_refl _)
          have hh0 : h = 0 := by omega
          have hl0 : l = 0 := by omega
          have hm0 : m = 0 := by omega
          subst hh0; subst hl0; subst hm0
          refine ⟨_, fun w => run _ _ _ _ _ _ w (hbb w).1 hs, ?_⟩
          have sp : ∀ (c : Prop) [Decidable c] (k : Nat), VR ρ (.slice (some a0) 0 UNK2) (.slice (if c then some a' else (some a').map (·.add (0 * sz))) (0 - 0) k) := by
            intro c _ k
            split
            · exact .sliceE _ _ _
            · exact .sliceE _ _ _
          exact sp _ _
      · cases e
    · rw [if_neg hc2, cond_beq] at e
      by_cases hc1 : cap = UNK
      · rw [if_pos hc1] at e
        subst hc1
        split at e
        · cases e
        · rename_i l h m sz hsz hb hs
          have hsz : sz ≠ 0 := fun e => hsz e
          cases hx with
          | slice _ _ _ _ hlt => exact absurd hlt (Nat.lt_irrefl _)
          | nilslice _ _ hlt => exact absurd hlt (Nat.lt_irrefl _)
          | @sliceU i b c off _ cap' hr hn hl h0 =>
            have hbb := fun w => abounds_sim (P := P) hb hl h1 h2 h3 true w
            obtain ⟨-, k1, k2, k3, k4⟩ := hbb default
            cases h3 with
            | none =>
              simp only at e
              cases e
              have hm := k2 rfl
              subst hm
              simp only [Option.isSome_none, Bool.false_eq_true, if_false] at hbb
              have k4 := k4 (Nat.le_refl _)
              simp only [cond_beq]
              by_cases hl0 : l = 0
              · subst hl0
                refine ⟨_, fun w => run _ _ _ _ _ _ w (hbb w).1 hs, ?_⟩
                have : (if cap' = 0 then some (⟨b, off, none⟩ : Addr) else (some (⟨b, off, none⟩ : Addr)).map (·.add (0 * sz))) = some ⟨b, off, none⟩ := by split <;> simp [Addr.add]
                rw [this]
                simpa using VR.sliceU off h cap' hr (by omega) (by omega) h0
              · rw [if_neg hl0]
                by_cases hlm : l = m
                · rw [if_pos hlm]
                  subst hlm
                  have : h = l := by omega
                  subst this
                  refine ⟨_, fun w => run _ _ _ _ _ _ w (hbb w).1 hs, ?_⟩
                  rw [Nat.sub_self]
                  split
                  · exact .sliceE _ _ _
                  · exact .sliceE _ _ _
                · rw [if_neg hlm]
                  refine ⟨_, fun w => run _ _ _ _ _ _ w (hbb w).1 hs, ?_⟩
                  rw [if_neg (by omega)]
                  simp only [Option.map_some, Addr.add_lit]
                  have : l * sz ≠ 0 := Nat.mul_ne_zero hl0 hsz
                  exact .sliceU _ _ _ hr (by omega) (by omega) (by omega)
            | some r3 =>
              simp only at e
              cases e
              simp only [Option.isSome_some, if_true] at hbb
              refine ⟨_, fun w => run _ _ _ _ _ _ w (hbb w).1 hs, ?_⟩
              rw [cond_beq]
              by_cases hlm : m = l
              · rw [if_pos hlm, if_pos hlm]; exact .slice _ _ _ hr (by omega)
              · rw [if_neg hlm, if_neg hlm]; simp only [Option.map_some, Addr.add_lit]; exact .slice _ _ _ hr (by omega)
        · cases e
      · rw [if_neg hc1] at e
        split at e
        · rename_i l h m sz hb hs
          cases e
          cases hx with
          | sliceU _ _ _ _ _ _ _ => exact (hc1 rfl).elim
          | sliceE _ _ _ => exact (hc2 rfl).elim
          | nilslice _ _ hlt =>
            have hbb := fun w => abounds_sim (P := P) hb (Nat.le_refl _) h1 h2 h3 true w
            obtain ⟨-, k1, k2, k3, k4⟩ := hbb default
            have hm : (if mx.isSome then m else cap) = m := by
              cases hms : mx with
              | none => simp [k2 hms]
              | some _ => rfl
            simp only [hm] at hbb
            refine ⟨_, fun w => run _ _ _ _ _ _ w (hbb w).1 hs, ?_⟩
            rw [cond_beq]
            have : (if m = l then (none : Option Addr) else (none : Option Addr).map (·.add (l * sz))) = none := by split <;> rfl
            rw [this]
            exact .nilslice _ _ (by omega)
          | @slice i b c off _ _ hr hlt =>
            have hbb := fun w => abounds_sim (P := P) hb (Nat.le_refl _) h1 h2 h3 true w
            obtain ⟨-, k1, k2, k3, k4⟩ := hbb default
            have hm : (if mx.isSome then m else cap) = m := by
              cases hms : mx with
              | none => simp [k2 hms]
              | some _ => rfl
            simp only [hm] at hbb
            refine ⟨_, fun w => run _ _ _ _ _ _ w (hbb w).1 hs, ?_⟩
            rw [cond_beq]
            by_cases hlm : m = l
            · rw [if_pos hlm, if_pos hlm]; exact .slice _ _ _ hr (by omega)
            · rw [if_neg hlm, if_neg hlm]; simp only [Option.map_some, Addr.add_lit]; exact .slice _ _ _ hr (by omega)
        · cases e
  · rename_i n elem a hu
    have hu := hE.und hu (by simp)
    split at e
    · rename_i l h m sz hb hs
      cases e
      rw [blt_eq] at hb
      by_cases hn : n < 1000000
      · simp only [hn, decide_true, cond_true] at hb
        cases hx with
        | @ptr i b c off hr =>
          have hbb := fun w => abounds_sim (P := P) hb (Nat.le_refl _) h1 h2 h3 false w
          obtain ⟨-, k1, k2, k3, k4⟩ := hbb default
          have hm : (if mx.isSome then m else n) = m := by
            cases hms : mx with
            | none => simp [k2 hms]
            | some _ => rfl
          simp only [hm] at hbb
          have hU : m < UNK := Nat.lt_of_le_of_lt k3 (Nat.lt_trans hn (by decide))
          refine ⟨.slice (some (if m = l then ⟨b, off, none⟩ else (⟨b, off, none⟩ : Addr).add (l * sz))) (h - l) (m - l), fun w => ?_, ?_⟩
          · simp only [Instr.sliceAt, Sem.run_bind, run_underlying hu, Result.andThen_ok, Instr.sureAddr, Sem.run_pure, (hbb w).1, hE.run_size hs]
          · rw [cond_beq]
            by_cases hlm : m = l
            · rw [if_pos hlm, if_pos hlm]; exact .slice _ _ _ hr (by omega)
            · rw [if_neg hlm, if_neg hlm, Addr.add_lit, Addr.add_lit]; exact .slice _ _ _ hr (by omega)
      · simp [hn] at hb
    · cases e
  · cases e
end
end Go.Ev
