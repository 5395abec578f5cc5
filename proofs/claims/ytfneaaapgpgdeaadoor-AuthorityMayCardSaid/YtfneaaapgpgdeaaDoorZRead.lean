/- THE EVALUATOR, part 'Read': a deterministic reading of the program's code over an abstract heap, and that the model does what it says. Conditions: none beyond each theorem's own. -/
import Derived.Test.YtfneaaapgpgdeaaDoorZPure4
set_option linter.unusedSimpArgs false
set_option linter.unusedVariables false
namespace Go.Ev
section
variable {P : Program} {E : Env} {ρ : Ren} {h : Heap} {w : World}

theorem cell_of {b off : Nat} {xs : Array Value} {e : TypeId} {fr : Nat × Nat} (hw : w.heap[b]? = some (.cells xs e fr)) (j : Nat) : w.cell? ⟨b, off + j, none⟩ = xs[off + j]? := by
  simp [World.cell?, hw]

def aggD : TypeDesc → Bool
  | .struct _ | .array _ _ => true
  | _ => false

theorem roCells_get {g : Nat → Option Value} : ∀ (n off : Nat) (l : List Value), roCells g off n = some l → l.length = n ∧ ∀ j v, l[j]? = some v → g (off + j) = some v
  | 0, off, l, e => by simp only [roCells, Option.some.injEq] at e; subst e; exact ⟨rfl, fun j v e => by simp at e⟩
  | n + 1, off, l, e => by
    simp only [roCells] at e
    split at e
    · rename_i v0 l0 h1 h2
      cases e
      obtain ⟨i1, i2⟩ := roCells_get n (off + 1) l0 h2
      refine ⟨by simp [i1], fun j v e => ?_⟩
      cases j with
      | zero => simp at e; subst e; exact h1
      | succ j => simp only [List.getElem?_cons_succ] at e; have := i2 j v e; rwa [show off + (j + 1) = off + 1 + j by omega]
    · cases e

/-- the cells of a place -/
theorem cellsAt_sim (hr : HR P ρ h w) {i off b c n : Nat} {l : List Value} (hi : ρ i = some (b, c)) (hl : cellsAt h ⟨i, off, none⟩ n = some l) :
    ∃ l', VRL ρ l l' ∧ l.length = n ∧ ∀ (j : Nat) (v' : Value), l'[j]? = some v' → w.cell? ((⟨b, off, none⟩ : Addr).add j) = some v' := by
  unfold cellsAt at hl
  rw [cond_beq] at hl
  by_cases hn : n = 0
  · rw [if_pos hn] at hl; cases hl
    exact ⟨[], .nil, by simp [hn], fun j v' e => by simp at e⟩
  · rw [if_neg hn] at hl
    simp only at hl
    obtain ⟨k, o, e1, e2, e3⟩ := hr.blk i b c hi
    rw [e1] at hl
    cases e3 with
    | cells cs xs e exact hc hs =>
      simp only [dropN_eq] at hl
      replace hl : takeN n (cs.drop off) = some l := by revert hl; cases Nat.blt i h.n <;> simp
      obtain ⟨h1, rfl⟩ := takeN_eq _ _ _ hl
      have hlen : ((cs.drop off).take n).length = n := by simp at h1 ⊢; omega
      have hget : ∀ j, j < n → ∃ v', xs[off + j]? = some v' ∧ ∀ v, cs[off + j]? = some v → VR ρ v v' := by
        intro j hj
        have hlt : off + j < cs.length := by simp at h1; omega
        obtain ⟨v', e', r⟩ := hc (off + j) _ (List.getElem?_eq_getElem hlt)
        exact ⟨v', e', fun v ev => by rw [List.getElem?_eq_getElem hlt] at ev; cases ev; exact r⟩
      have hfit : off + n ≤ xs.size := by
        obtain ⟨v', e', _⟩ := hget (n - 1) (by omega)
        have := (Array.getElem?_eq_some_iff.1 e').1
        omega
      refine ⟨(xs.toList.drop off).take n, ?_, hlen, fun j v' ev => ?_⟩
      · refine VRL.of_get (by simp at hlen ⊢; omega) fun j v ev => ?_
        have hj : j < n := by have := (List.getElem?_eq_some_iff.1 ev).1; rw [hlen] at this; exact this
        obtain ⟨v', e', r⟩ := hget j hj
        rw [List.getElem?_take_of_lt hj, List.getElem?_drop] at ev
        refine ⟨v', ?_, r v ev⟩
        rw [List.getElem?_take_of_lt hj, List.getElem?_drop]
        simpa using e'
      · have hj : j < n := by have := (List.getElem?_eq_some_iff.1 ev).1; simp at this; omega
        rw [List.getElem?_take_of_lt hj, List.getElem?_drop] at ev
        rw [Addr.add_lit, cell_of e2]
        simpa using ev
    | ro g o hro =>
      replace hl : roCells g off n = some l := by revert hl; cases Nat.blt i h.n <;> simp
      obtain ⟨i1, i2⟩ := roCells_get _ _ _ hl
      have hn' : 0 < l.length := by omega
      obtain ⟨xs, el, f, v0, ho, _, _⟩ := hro _ _ (i2 0 _ (List.getElem?_eq_getElem hn'))
      subst ho
      have hget : ∀ j v, l[j]? = some v → ∃ v', xs[off + j]? = some v' ∧ VR ρ v v' := by
        intro j v e
        obtain ⟨xs', el', f', v', ho, e', r⟩ := hro _ _ (i2 j v e)
        cases ho
        exact ⟨v', e', r⟩
      have hfit : off + n ≤ xs.size := by
        obtain ⟨v', e', _⟩ := hget (n - 1) _ (List.getElem?_eq_getElem (by omega))
        have := (Array.getElem?_eq_some_iff.1 e').1
        omega
      refine ⟨(xs.toList.drop off).take n, ?_, i1, fun j v' ev => ?_⟩
      · refine VRL.of_get (by simp; omega) fun j v ev => ?_
        have hj : j < n := by have := (List.getElem?_eq_some_iff.1 ev).1; omega
        obtain ⟨v', e', r⟩ := hget j v ev
        refine ⟨v', ?_, r⟩
        rw [List.getElem?_take_of_lt hj, List.getElem?_drop]
        simpa using e'
      · have hj : j < n := by have := (List.getElem?_eq_some_iff.1 ev).1; simp at this; omega
        rw [List.getElem?_take_of_lt hj, List.getElem?_drop] at ev
        rw [Addr.add_lit, cell_of e2]
        simpa using ev
    | _ => simp at hl

theorem run_loadVar_agg {t : TypeId} {d : TypeDesc} (hu : P.underlying t = some d) (hd : aggD d = true) {n : Nat} (hs : (sizeOf t).run P w = .ok n w)
    {a : Addr} {l : List Value} (hl : l.length = n) (hc : ∀ (j : Nat) (v' : Value), l[j]? = some v' → w.cell? (a.add j) = some v') : (loadVar t a).run P w = .ok (.agg l.toArray) w := by
  have hia : (Go.isAgg t).run P w = .ok true w := by
    simp only [Go.isAgg, Sem.run_bind, run_underlying hu, Result.andThen_ok]
    cases d <;> simp [aggD] at hd <;> rfl
  have := run_loadCells_list (P := P) w a l hc
  rw [hl] at this
  simp [loadVar, hia, hs, this]
theorem run_loadVar_one {t : TypeId} {d : TypeDesc} (hu : P.underlying t = some d) (hd : aggD d = false)
    {a : Addr} {v' : Value} (hc : w.cell? (a.add 0) = some v') : (loadVar t a).run P w = .ok v' w := by
  have hia : (Go.isAgg t).run P w = .ok false w := by
    simp only [Go.isAgg, Sem.run_bind, run_underlying hu, Result.andThen_ok]
    cases d <;> simp [aggD] at hd <;> rfl
  rw [show a.add 0 = a by simp [Addr.add]] at hc
  simp [loadVar, hia, hc]

theorem loadAt_sim (hE : EnvOK P E) (hr : HR P ρ h w) {t : TypeId} {x x' v : Value} (e : loadAt E t x h = some v) (hx : VR ρ x x') :
    ∃ v', (Instr.loadAt t x').run P w = .ok v' w ∧ VR ρ v v' := by
  unfold loadAt at e
  split at e
  · rename_i a i hi
    obtain ⟨info, e1, e2, e3, _⟩ := hE.tab t i hi
    cases hx with
    | @ptr j b c off hj =>
      have agg : ∀ d : TypeDesc, i.desc = d → aggD d = true → ((cellsAt h ⟨j, off, none⟩ i.size).map fun l => Value.agg l.toArray) = some v →
          ∃ v', (Instr.loadAt t (.pointer (some ⟨b, off, none⟩))).run P w = .ok v' w ∧ VR ρ v v' := by
        intro d hd ha hv
        simp only [Option.map_eq_some_iff] at hv
        obtain ⟨l, hl, rfl⟩ := hv
        obtain ⟨l', r, hlen, hc⟩ := cellsAt_sim hr hj hl
        have hu := e2 (by intro e; rw [hd] at e; subst e; simp [aggD] at ha)
        rw [hd] at hu
        refine ⟨.agg l'.toArray, ?_, .agg _ _ (by simpa using r)⟩
        have hs : (sizeOf t).run P w = .ok i.size w := by simp [sizeOf, Go.run_typeInfo w e1, e3]
        simp [Instr.loadAt, Instr.sureAddr, run_loadVar_agg hu ha hs (by rw [← r.length, hlen]) hc]
      have one : ∀ d : TypeDesc, i.desc = d → d ≠ .invalid → aggD d = false → (match cellsAt h ⟨j, off, none⟩ 1 with | some [v] => some v | _ => none) = some v →
          ∃ v', (Instr.loadAt t (.pointer (some ⟨b, off, none⟩))).run P w = .ok v' w ∧ VR ρ v v' := by
        intro d hd hinv ha hv
        split at hv
        · rename_i u hl
          cases hv
          obtain ⟨l', r, hlen, hc⟩ := cellsAt_sim hr hj hl
          cases r with
          | cons r t' =>
            cases t'
            rename_i u'
            have hu := e2 (by rw [hd]; exact hinv)
            rw [hd] at hu
            refine ⟨u', ?_, r⟩
            simp [Instr.loadAt, Instr.sureAddr, run_loadVar_one hu ha (hc 0 u' (by simp))]
        · cases hv
      cases hd : i.desc with
      | struct fs => simp only [hd] at e; exact agg _ hd rfl e
      | array n el => simp only [hd] at e; exact agg _ hd rfl e
      | invalid => simp [hd] at e
      | _ => simp only [hd] at e; exact one _ hd (by simp) rfl e
  · cases e

theorem getMap_sim (hr : HR P ρ h w) {x x' : Value} {es : List (Value × Value × Nat)} {n : Nat} (e : getMap h x = some (es, n)) (hx : VR ρ x x') :
    ∃ i b c es', x = .map (some i) ∧ x' = .map (some b) ∧ ρ i = some (b, c) ∧ h.b.get i = some (.map es n) ∧ w.heap[b]? = some (.map es' n) ∧ MR ρ es es'.toList := by
  unfold getMap at e
  split at e
  · rename_i r
    cases hx with
    | @map i b c hi =>
      obtain ⟨k, o, e1, e2, e3⟩ := hr.blk _ b c hi
      rw [e1] at e
      cases e3 with
      | map es0 es' n0 hm =>
        simp only at e
        replace e : some (es0, n0) = some (es, n) := by revert e; cases Nat.blt r h.n <;> simp
        cases e
        exact ⟨r, b, c, es', rfl, rfl, hi, e1, e2, hm⟩
      | _ => simp at e
  · cases e

theorem getSmap_sim (hr : HR P ρ h w) {x x' : Value} {es : List (Nat × Value × Value)} (e : getSmap h x = some es) (hx : VR ρ x x') :
    ∃ i b c n es', x = .map (some i) ∧ x' = .map (some b) ∧ ρ i = some (b, c) ∧ h.b.get i = some (.smap es) ∧ w.heap[b]? = some (.map es' n) ∧ SR ρ es es'.toList := by
  unfold getSmap at e
  split at e
  · rename_i r
    cases hx with
    | @map i b c hi =>
      obtain ⟨k, o, e1, e2, e3⟩ := hr.blk _ b c hi
      rw [e1] at e
      cases e3 with
      | smap es0 es' n0 hm =>
        simp only at e
        replace e : some es0 = some es := by revert e; cases Nat.blt r h.n <;> simp
        cases e
        exact ⟨r, b, c, n0, es', rfl, rfl, hi, e1, e2, hm⟩
      | _ => simp at e
  · cases e

theorem run_getObj_map {b n : Nat} {es : Array MapEntry} (hb : w.heap[b]? = some (.map es n)) : (getObj b).run P w = .ok (.map es n) w := by
  simp [getObj, Sem.run, hb]
theorem MR.length {es : List (Value × Value × Nat)} {es' : List MapEntry} (hm : MR ρ es es') : es.length = es'.length := by
  induction hm with
  | nil => rfl
  | cons _ _ _ ih => simp [ih]

theorem alenR_sim (hE : EnvOK P E) (hr : HR P ρ h w) {t ty : TypeId} {ts : Array TypeId} {xs : Array Value} {x x' v : Value} (ht : ts[0]? = some t) (hxs : xs[0]? = some x') (e : alenR E t x h = some v) (hx : VR ρ x x') :
    (Builtin.len_ ts ty xs).run P w = .ok v w ∧ VR ρ v v := by
  unfold alenR at e
  split at e
  · rename_i h1
    have h1 := hE.und h1 (by simp)
    cases hx; cases e
    exact ⟨by simp [Builtin.len_, ht, hxs, run_underlying h1, goInt], .int _ _⟩
  · rename_i h1 hn
    have h1 := hE.und h1 (by simp)
    simp only [Option.map_eq_some_iff] at e
    obtain ⟨⟨es, n⟩, e, rfl⟩ := e
    obtain ⟨i, b, c, es', rfl, rfl, hi, _, e2, hm⟩ := getMap_sim hr e hx
    refine ⟨?_, .int _ _⟩
    simp [Builtin.len_, ht, hxs, run_underlying h1, goInt, run_getObj_map e2, hm.length]
  · cases e

theorem bytes_sim : ∀ (l l' : List Value) (bs : List UInt8), mapOpt byteOf l = some bs → VRL ρ l l' → ∀ (s : ByteArray) (w : World),
    (forIn l' s (fun c (s : ByteArray) => (match c with | .int .u8 n => pure (.yield (s.push (UInt8.ofNat n.toNat))) | _ => (do stuck "bytesToString: byte expected"; pure (.yield s)) : Sem (ForInStep ByteArray)))).run P w = .ok ⟨s.data ++ bs.toArray⟩ w
  | [], l', bs, h, hr, s, w => by cases hr; simp [mapOpt] at h; subst h; simp
  | v :: l, l', bs, h, hr, s, w => by
    cases hr with
    | cons hv t =>
      simp only [mapOpt] at h
      cases hb : byteOf v with
      | none => simp [hb] at h
      | some b =>
        cases hm : mapOpt byteOf l with
        | none => simp [hb, hm] at h
        | some q =>
          simp only [hb, hm] at h; cases h
          unfold byteOf at hb
          split at hb
          · cases hb; cases hv
            simp only [List.forIn_cons, Sem.run_bind, Sem.run_pure, Result.andThen_ok]
            rw [bytes_sim _ _ _ hm t]
            simp [ByteArray.push]
          · cases hb

theorem aconvertR_sim (hE : EnvOK P E) (hr : HR P ρ h w) {s d : TypeId} {x x' v : Value} (e : aconvertR E s d x h = some v) (hx : VR ρ x x') : (convert s d x').run P w = .ok v w ∧ VR ρ v v := by
  unfold aconvertR at e
  split at e
  · rename_i el h1 h2
    have h1 := hE.und h1 (by simp)
    have h2 := hE.und h2 (by simp)
    split at e
    · rename_i h3
      have h3 := hE.und h3 (by simp)
      cases hx; cases e
      exact ⟨by simp [convert, run_underlying h1, run_underlying h2, run_underlying h3, Conv.bytesToString], .string _⟩
    · rename_i a len cap h3
      have h3 := hE.und h3 (by simp)
      split at e
      · rename_i l hl
        simp only [Option.map_eq_some_iff] at e
        obtain ⟨bs, hb, rfl⟩ := e
        refine ⟨?_, .string _⟩
        have fin : ∀ (a' : Addr) (cap' : Nat) (l' : List Value), VRL ρ l l' → l.length = len → (∀ (j : Nat) (v' : Value), l'[j]? = some v' → w.cell? (a'.add j) = some v') →
            (convert s d (.slice (some a') len cap')).run P w = .ok (.string ⟨bs.toArray⟩) w := by
          intro a' cap' l' r hlen hc
          have := run_loadCells_list (P := P) w a' l' hc
          rw [← r.length, hlen] at this
          have hb' := bytes_sim (P := P) _ _ _ hb r .empty w
          simp only [convert, Sem.run_bind, run_underlying h1, run_underlying h2, run_underlying h3, Result.andThen_ok, Conv.bytesToString, this]
          rw [List.forIn_toArray]
          exact (congrArg (fun r : Result ByteArray => r.andThen fun a w' => Sem.run P (pure (Value.string a)) w') hb').trans (by simp)
        cases hx with
        | @slice i b c off _ _ hi _ =>
          obtain ⟨l', r, hlen, hc⟩ := cellsAt_sim hr hi hl
          exact fin _ _ l' r hlen hc
        | @sliceU i b c off _ _ hi _ _ _ =>
          obtain ⟨l', r, hlen, hc⟩ := cellsAt_sim hr hi hl
          exact fin _ _ l' r hlen hc
        | sliceE a0 a' cap' =>
          simp [cellsAt] at hl
          subst hl
          exact fin _ _ [] .nil rfl (fun j v' e => by simp at e)
      · cases e
    · cases e
  · cases e

/-! maps -/
theorem acheck_sim (hE : EnvOK P E) : ∀ (d D : Nat), d ≤ D → ∀ (t : TypeId) (v v' : Value), acheck E d t v = true → VR ρ v v' → ∀ (em : Bool) (w : World), (Instr.checkKey em D t v').run P w = .ok () w
  | 0, _, _, _, _, _, h, _, _, _ => by simp [acheck] at h
  | d + 1, D, hD, t, v, v', h, hv, em, w => by
    obtain ⟨D, rfl⟩ : ∃ D', D = D' + 1 := ⟨D - 1, by omega⟩
    have ih := acheck_sim hE d D (by omega)
    unfold acheck at h
    split at h
    · rename_i fs cs hu
      have hu := hE.und hu (by simp)
      cases hv with
      | agg _ cs' hv =>
        simp only [Instr.checkKey, Sem.run_bind, run_underlying hu, Result.andThen_ok]
        rw [← Array.forIn_toList]
        generalize fs.toList = l at h
        clear hu
        have : ∀ l : List Field, (l.all fun f => f.name == "_" || (match partOf E f.type cs.toList f.offset with | some x => acheck E d f.type x | none => false)) = true →
            (forIn l PUnit.unit (fun (f : Field) (_ : PUnit) => (if f.name ≠ "_" then (do Instr.checkKey em D f.type (← part f.type cs' f.offset); pure (.yield PUnit.unit)) else pure (.yield PUnit.unit) : Sem (ForInStep PUnit)))).run P w = .ok PUnit.unit w := by
          intro l hl
          induction l with
          | nil => simp
          | cons f l ihl =>
            simp only [List.all_cons, Bool.and_eq_true] at hl
            obtain ⟨h1, h2⟩ := hl
            simp only [List.forIn_cons, Sem.run_bind, Sem.run_ite]
            by_cases hn : f.name = "_"
            · simp only [hn, ne_eq, not_true_eq_false, if_false, Sem.run_pure, Result.andThen_ok]; exact ihl h2
            · rw [show (f.name == "_") = false by simpa using hn] at h1
              simp only [Bool.false_or] at h1
              cases hp : partOf E f.type cs.toList f.offset with
              | none => simp [hp] at h1
              | some x =>
                simp only [hp] at h1
                obtain ⟨x', e, r⟩ := part_sim hE hp hv
                simp only [hn, ne_eq, not_false_eq_true, if_true, e, Result.andThen_ok, ih _ _ _ h1 r em w, Sem.run_pure]; exact ihl h2
        exact (congrArg (fun r : Result PUnit => r.andThen fun _ w' => Sem.run P (pure ()) w') (this l h)).trans rfl
    · rename_i n e cs hu
      have hu := hE.und hu (by simp)
      cases hv with
      | agg _ cs' hv =>
        split at h
        · rename_i sz hs
          simp only [Instr.checkKey, Sem.run_bind, run_underlying hu, Result.andThen_ok, Std.Legacy.Range.forIn_eq_forIn_range', Std.Legacy.Range.size, Nat.sub_zero, Nat.add_one_sub_one, Nat.div_one]
          rw [List.range_eq_range'] at h
          generalize List.range' 0 n = l at h
          have : ∀ l : List Nat, (l.all fun i => match partOf E e cs.toList (i * sz) with | some x => acheck E d e x | none => false) = true →
              (forIn l PUnit.unit (fun (i : Nat) (_ : PUnit) => (do Instr.checkKey em D e (← part e cs' (i * (← sizeOf e))); pure (.yield PUnit.unit) : Sem (ForInStep PUnit)))).run P w = .ok PUnit.unit w := by
            intro l hl
            induction l with
            | nil => simp
            | cons i l ihl =>
              simp only [List.all_cons, Bool.and_eq_true] at hl
              obtain ⟨h1, h2⟩ := hl
              simp only [List.forIn_cons, Sem.run_bind]
              cases hp : partOf E e cs.toList (i * sz) with
              | none => simp [hp] at h1
              | some x =>
                simp only [hp] at h1
                obtain ⟨x', ep, r⟩ := part_sim hE hp hv
                simp only [hE.run_size hs, Result.andThen_ok, ep, ih _ _ _ h1 r em w, Sem.run_pure]; exact ihl h2
          exact (congrArg (fun r : Result PUnit => r.andThen fun _ w' => Sem.run P (pure ()) w') (this l h)).trans rfl
        · cases h
    · rename_i hu
      have hu := hE.und hu (by simp)
      cases hv <;> simp [Instr.checkKey, run_underlying hu]
    · rename_i hu
      have hu := hE.und hu (by simp)
      cases hv <;> simp [Instr.checkKey, run_underlying hu]
    · rename_i hu
      have hu := hE.und hu (by simp)
      cases hv <;> simp [Instr.checkKey, run_underlying hu]
    · rename_i hu
      have hu := hE.und hu (by simp)
      cases hv <;> simp [Instr.checkKey, run_underlying hu]
    · cases h

theorem akeyEq_sim {d : TypeDesc} {x y x' y' : Value} {b : Bool} (h : akeyEq d x y = some b) (hx : VR ρ x x') (hy : VR ρ y y') : Instr.sameNow d x' y' = some b := by
  unfold akeyEq at h
  split at h
  · cases hx; cases hy
    rename_i k a k' b'
    by_cases hk : k = k'
    · subst hk; simp at h; simp [Instr.sameNow, h]
    · simp [hk] at h
  · cases hx; cases hy; cases h
    simp [Instr.sameNow, eqStr_eq, beq_toListBytes]
  · cases hx; cases hy; cases h
    simp [Instr.sameNow]
  · cases h

def FRes (ρ : Ren) : Option (Nat × Value) → Option (Nat × Value) → Prop
  | none, none => True
  | some (i, v), some (j, v') => i = j ∧ VR ρ v v'
  | _, _ => False

theorem afind_now {kt : TypeId} {d : TypeDesc} (hd : keyOk d = true) {k k' : Value} (hk : VR ρ k k') : ∀ {es : List (Value × Value × Nat)} {es' : List MapEntry} {i : Nat} {r : Option (Nat × Value)},
    afind E kt d k es i = some r → MR ρ es es' → ∃ r', Instr.findNow d k' es' i = some r' ∧ FRes ρ r r'
  | [], es', i, r, h, hm => by cases hm; simp only [afind] at h; cases h; exact ⟨none, rfl, trivial⟩
  | (kk, v, n) :: es, es', i, r, h, hm => by
    cases hm with
    | cons h1 h2 t =>
      simp only [afind, hd, cond_true] at h
      split at h
      · rename_i he
        cases h
        rename_i v' _ _
        exact ⟨some (i, v'), by simp only [Instr.findNow, akeyEq_sim he hk h1], rfl, h2⟩
      · rename_i he
        obtain ⟨r', e, rr⟩ := afind_now hd hk h t
        exact ⟨r', by simp only [Instr.findNow, akeyEq_sim he hk h1, e], rr⟩
      · cases h
theorem afind_ask (hE : EnvOK P E) {kt : TypeId} {d : TypeDesc} (hd : keyOk d = false) {k k' : Value} (hk : VR ρ k k') : ∀ {es : List (Value × Value × Nat)} {es' : List MapEntry} {i : Nat} {r : Option (Nat × Value)},
    afind E kt d k es i = some r → MR ρ es es' → ∃ r', (∀ w : World, (Instr.findAsking kt k' es' i).run P w = .ok r' w) ∧ FRes ρ r r'
  | [], es', i, r, h, hm => by cases hm; simp only [afind] at h; cases h; exact ⟨none, fun w => rfl, trivial⟩
  | (kk, v, n) :: es, es', i, r, h, hm => by
    cases hm with
    | cons h1 h2 t =>
      simp only [afind, hd, cond_false] at h
      split at h
      · rename_i he
        cases h
        rename_i v' l' _
        exact ⟨some (i, v'), fun w => by simp only [Instr.findAsking, Sem.run_bind, Op.equal, aeq_sim hE 100 Op.maxDepth (by decide) _ _ _ _ _ _ he hk h1 w, Result.andThen_ok, if_true]; rfl, rfl, h2⟩
      · rename_i he
        obtain ⟨r', e, rr⟩ := afind_ask hE hd hk h t
        exact ⟨r', fun w => by simp only [Instr.findAsking, Sem.run_bind, Op.equal, aeq_sim hE 100 Op.maxDepth (by decide) _ _ _ _ _ _ he hk h1 w, Result.andThen_ok, Bool.false_eq_true, if_false, e w], rr⟩
      · cases h

theorem findNow_none {d : TypeDesc} (hd : keyOk d = false) (k : Value) : ∀ (e : MapEntry) (es : List MapEntry) (i : Nat), Instr.findNow d k (e :: es) i = none := by
  intro e es i
  cases d <;> simp [keyOk] at hd <;> simp [Instr.findNow, Instr.sameNow]

theorem afind_sim (hE : EnvOK P E) {kt : TypeId} {d : TypeDesc} (hu : P.underlying kt = some d) {k k' : Value} (hk : VR ρ k k') {es : List (Value × Value × Nat)} {es' : List MapEntry} {r : Option (Nat × Value)}
    (h : afind E kt d k es 0 = some r) (hm : MR ρ es es') : ∃ r', (∀ w : World, (Instr.findKey kt k' es').run P w = .ok r' w) ∧ FRes ρ r r' := by
  cases hd : keyOk d with
  | true =>
    obtain ⟨r', e, rr⟩ := afind_now hd hk h hm
    exact ⟨r', fun w => by simp [Instr.findKey, run_underlying hu, e], rr⟩
  | false =>
    obtain ⟨r', e, rr⟩ := afind_ask hE hd hk h hm
    refine ⟨r', fun w => ?_, rr⟩
    cases es' with
    | nil =>
      have := e w
      simp only [Instr.findAsking, Sem.run_pure] at this
      simp only [Instr.findKey, Sem.run_bind, run_underlying hu, Result.andThen_ok, Instr.findNow, Sem.run_pure]
      exact this
    | cons e0 es0 => simp only [Instr.findKey, Sem.run_bind, run_underlying hu, Result.andThen_ok, findNow_none hd, e w]

theorem slook_some {d : TypeDesc} {k v : Value} : ∀ {es : List (Nat × Value × Value)}, slook d k es = some (some v) →
    (∃ x ∈ es, akeyEq d k x.2.1 = some true) ∧ ∀ x ∈ es, ∃ b, akeyEq d k x.2.1 = some b ∧ (b = true → x.2.2 = v)
  | [], h => by simp [slook] at h
  | e :: es, h => by
    simp only [slook] at h
    split at h
    · rename_i he
      obtain ⟨⟨x, hx, ex⟩, h2⟩ := slook_some h
      refine ⟨⟨x, List.mem_cons_of_mem _ hx, ex⟩, fun y hy => ?_⟩
      rcases List.mem_cons.1 hy with rfl | hy
      · exact ⟨false, he, by simp⟩
      · exact h2 y hy
    · rename_i he hn
      cases h
      refine ⟨⟨e, List.mem_cons_self, he⟩, fun y hy => ?_⟩
      rcases List.mem_cons.1 hy with rfl | hy
      · exact ⟨true, he, fun _ => rfl⟩
      · exact ⟨false, slook_none hn y hy, by simp⟩
    · cases h
where slook_none {d : TypeDesc} {k : Value} : ∀ {es : List (Nat × Value × Value)}, slook d k es = some none → ∀ x ∈ es, akeyEq d k x.2.1 = some false
  | [], _, x, hx => by cases hx
  | e :: es, h, x, hx => by
    simp only [slook] at h
    split at h
    · rename_i he
      rcases List.mem_cons.1 hx with rfl | hx
      · exact he
      · exact slook_none h x hx
    · cases h
    · cases h

theorem findNow_hit {d : TypeDesc} {k' v : Value} : ∀ {l : List MapEntry} {i : Nat}, (∀ e ∈ l, ∃ b, Instr.sameNow d k' e.key = some b ∧ (b = true → VR ρ v e.val)) → (∃ e ∈ l, Instr.sameNow d k' e.key = some true) →
    ∃ j v', Instr.findNow d k' l i = some (some (j, v')) ∧ VR ρ v v'
  | [], i, _, ⟨e, he, _⟩ => by cases he
  | e :: l, i, h1, ⟨e', he', h2⟩ => by
    obtain ⟨b, hb, hv⟩ := h1 e List.mem_cons_self
    cases b with
    | true => exact ⟨i, e.val, by simp only [Instr.findNow, hb], hv rfl⟩
    | false =>
      have : e' ∈ l := by
        rcases List.mem_cons.1 he' with rfl | h
        · rw [hb] at h2; cases h2
        · exact h
      obtain ⟨j, v', h3, h4⟩ := findNow_hit (i := i + 1) (fun x hx => h1 x (List.mem_cons_of_mem _ hx)) ⟨e', this, h2⟩
      exact ⟨j, v', by simp only [Instr.findNow, hb, h3], h4⟩
theorem findNow_miss {d : TypeDesc} {k' : Value} : ∀ {l : List MapEntry} {i : Nat}, (∀ e ∈ l, Instr.sameNow d k' e.key = some false) → Instr.findNow d k' l i = some none
  | [], i, _ => rfl
  | e :: l, i, h => by
    simp only [Instr.findNow, h e List.mem_cons_self]
    exact findNow_miss fun x hx => h x (List.mem_cons_of_mem _ hx)

theorem run_findKey_now {kt : TypeId} {d : TypeDesc} (hu : P.underlying kt = some d) {k' : Value} {l : List MapEntry} {r : Option (Nat × Value)} (e : Instr.findNow d k' l 0 = some r) : (Instr.findKey kt k' l).run P w = .ok r w := by
  simp [Instr.findKey, run_underlying hu, e]

theorem run_lookup_some {t kt et : TypeId} (hu : P.underlying t = some (.map kt et)) {m' k' : Value} {es' : Array MapEntry} (hes : (m' = .map none ∧ es' = #[]) ∨ ∃ b n, m' = .map (some b) ∧ w.heap[b]? = some (.map es' n))
    (hck : (Instr.checkKey es'.isEmpty 10000 kt k').run P w = .ok () w) {i : Nat} {v : Value} (hf : (Instr.findKey kt k' es'.toList).run P w = .ok (some (i, v)) w) (ok : Bool) :
    (Instr.lookup t m' k' ok).run P w = .ok (if ok then .tuple #[v, .bool true] else v) w := by
  rcases hes with ⟨rfl, rfl⟩ | ⟨b, n, rfl, hb⟩
  · have hck : (Instr.checkKey true 10000 kt k').run P w = .ok () w := hck
    have hf : (Instr.findKey kt k' []).run P w = .ok (some (i, v)) w := hf
    cases ok <;> simp [Instr.lookup, run_underlying hu, hck, hf]
  · cases ok <;> simp [Instr.lookup, run_underlying hu, run_getObj_map hb, hck, hf]
theorem run_lookup_none {t kt et : TypeId} (hu : P.underlying t = some (.map kt et)) {m' k' : Value} {es' : Array MapEntry} (hes : (m' = .map none ∧ es' = #[]) ∨ ∃ b n, m' = .map (some b) ∧ w.heap[b]? = some (.map es' n))
    (hck : (Instr.checkKey es'.isEmpty 10000 kt k').run P w = .ok () w) (hf : (Instr.findKey kt k' es'.toList).run P w = .ok none w) {z : Value} (hz : (zeroValue et).run P w = .ok z w) (ok : Bool) :
    (Instr.lookup t m' k' ok).run P w = .ok (if ok then .tuple #[z, .bool false] else z) w := by
  rcases hes with ⟨rfl, rfl⟩ | ⟨b, n, rfl, hb⟩
  · have hck : (Instr.checkKey true 10000 kt k').run P w = .ok () w := hck
    have hf : (Instr.findKey kt k' []).run P w = .ok none w := hf
    cases ok <;> simp [Instr.lookup, run_underlying hu, hck, hf, hz]
  · cases ok <;> simp [Instr.lookup, run_underlying hu, run_getObj_map hb, hck, hf, hz]

theorem alookup_sim (hE : EnvOK P E) (hr : HR P ρ h w) {t : TypeId} {m m' k k' v : Value} {ok : Bool} (e : alookup E t m k ok h = some v) (hm : VR ρ m m') (hk : VR ρ k k') :
    ∃ v', (Instr.lookup t m' k' ok).run P w = .ok v' w ∧ VR ρ v v' := by
  unfold alookup at e
  split at e
  · rename_i kt et hu
    have hu := hE.und hu (by simp)
    split at e
    · cases e
    · rename_i d hd
      cases hc : acheck E 20 kt k with
      | false => simp [hc] at e
      | true =>
        simp only [hc, cond_true] at e
        have hdd : d ≠ .invalid := by
          intro hh; subst hh
          unfold acheck at hc
          rw [hd] at hc
          simp at hc
        have hd := hE.und hd hdd
        have fin : ∀ (es : List (Value × Value × Nat)) (es' : Array MapEntry), MR ρ es es'.toList → ((m' = .map none ∧ es' = #[]) ∨ ∃ b n, m' = .map (some b) ∧ w.heap[b]? = some (.map es' n)) →
            (match afind E kt d k es 0 with | some (some (_, v)) => some (cond ok (.tuple #[v, .bool true]) v) | some none => (zero E et).map fun z => cond ok (.tuple #[z, .bool false]) z | none => none) = some v →
            ∃ v', (Instr.lookup t m' k' ok).run P w = .ok v' w ∧ VR ρ v v' := by
          intro es es' hmr hrun e
          have hck := acheck_sim hE 20 10000 (by decide) kt k k' hc hk es'.isEmpty w
          split at e
          · rename_i i u ha
            cases e
            obtain ⟨r', e, rr⟩ := afind_sim hE hd hk ha hmr
            cases r' with
            | none => exact rr.elim
            | some p =>
              obtain ⟨j, u'⟩ := p
              obtain ⟨-, rv⟩ := rr
              refine ⟨_, run_lookup_some hu hrun hck (e w) ok, ?_⟩
              cases ok
              · exact rv
              · exact .tuple _ _ (.cons rv (.cons (.bool _) .nil))
          · rename_i ha
            simp only [Option.map_eq_some_iff] at e
            obtain ⟨z, hz, rfl⟩ := e
            obtain ⟨r', e, rr⟩ := afind_sim hE hd hk ha hmr
            cases r' with
            | some p => exact rr.elim
            | none =>
              refine ⟨_, run_lookup_none hu hrun hck (e w) (hE.run_zero hz w) ok, ?_⟩
              have rz := VR.const ρ (hE.zero hz).2
              cases ok
              · exact rz
              · exact .tuple _ _ (.cons rz (.cons (.bool _) .nil))
          · cases e
        split at e
        · cases hko : keyOk d with
          | false => rw [hko] at e; cases e
          | true =>
            rw [hko, cond_true] at e
            split at e
            · cases e
            · rename_i es hes
              obtain ⟨i, b, c, n, es', rfl, rfl, hi, _, e2, hsr⟩ := getSmap_sim hr hes hm
              have hck := acheck_sim hE 20 10000 (by decide) kt k k' hc hk es'.isEmpty w
              split at e
              · rename_i u hl
                cases e
                obtain ⟨⟨x, hx, ex⟩, hall⟩ := slook_some hl
                obtain ⟨j, v', hfn, rv⟩ := findNow_hit (ρ := ρ) (d := d) (k' := k') (v := u) (l := es'.toList) (i := 0)
                  (fun e he => by
                    obtain ⟨y, hy, ry, ru⟩ := hsr.1 e he
                    obtain ⟨b2, hb2, hbv⟩ := hall y hy
                    exact ⟨b2, akeyEq_sim hb2 hk ry, fun hh => hbv hh ▸ ru⟩)
                  (by
                    obtain ⟨e, he, ry, _⟩ := hsr.2 x hx
                    exact ⟨e, he, akeyEq_sim ex hk ry⟩)
                refine ⟨_, run_lookup_some hu (.inr ⟨b, n, rfl, e2⟩) hck (run_findKey_now hd hfn) ok, ?_⟩
                cases ok
                · exact rv
                · exact .tuple _ _ (.cons rv (.cons (.bool _) .nil))
              · rename_i hl
                simp only [Option.map_eq_some_iff] at e
                obtain ⟨z, hz, rfl⟩ := e
                have hfn : Instr.findNow d k' es'.toList 0 = some none := findNow_miss fun e he => by
                  obtain ⟨y, hy, ry, _⟩ := hsr.1 e he
                  exact akeyEq_sim (slook_some.slook_none hl y hy) hk ry
                refine ⟨_, run_lookup_none hu (.inr ⟨b, n, rfl, e2⟩) hck (run_findKey_now hd hfn) (hE.run_zero hz w) ok, ?_⟩
                have rz := VR.const ρ (hE.zero hz).2
                cases ok
                · exact rz
                · exact .tuple _ _ (.cons rz (.cons (.bool _) .nil))
              · cases e
        · rename_i es hes
          split at hes
          · cases hm
            cases hes
            exact fin [] #[] .nil (.inl ⟨rfl, rfl⟩) e
          · simp only [Option.map_eq_some_iff] at hes
            obtain ⟨⟨es0, n⟩, hes, rfl⟩ := hes
            obtain ⟨i, b, c, es', rfl, rfl, hi, _, e2, hmr⟩ := getMap_sim hr hes hm
            exact fin es0 es' hmr (.inr ⟨b, n, rfl, e2⟩) e
  · cases e

theorem read_sim (hE : EnvOK P E) {fr : Fr} {a : Act} {o : Oper} {v : Value} (hf : FR E ρ fr a) (hr : HR P ρ h w) (e : readOp E fr o h = some v) :
    ∃ v', (execOp a.eval o).run P w = .ok (.value v') w ∧ VR ρ v v' := by
  unfold readOp at e
  split at e
  · rename_i t x ho
    split at e
    · rename_i u hu
      obtain ⟨v', e, r⟩ := loadAt_sim hE hr e (ev_sim hf hu)
      exact ⟨v', by simp [execOp, ho, e], r⟩
    · cases e
  · rename_i t x i ok ho
    split at e
    · rename_i u1 u2 h1 h2
      obtain ⟨v', e, r⟩ := alookup_sim hE hr e (ev_sim hf h1) (ev_sim hf h2)
      exact ⟨v', by simp [execOp, ho, e], r⟩
    · cases e
  · rename_i s d x ho
    split at e
    · rename_i u hu
      obtain ⟨e, r⟩ := aconvertR_sim hE hr e (ev_sim hf hu)
      exact ⟨v, by simp [execOp, ho, e], r⟩
    · cases e
  · rename_i c ho
    split at e
    · rename_i hb
      split at e
      · rename_i t ts x xs ht hx
        have r := evs_sim' hf hx
        have ht : c.argTypes[0]? = some t := by
          have : c.argTypes.toList[0]? = some t := by rw [ht]; rfl
          simpa using this
        generalize hce : c.args.map a.eval = ce at r
        cases hl : ce.toList with
        | nil => rw [hl] at r; cases r
        | cons x' xs' =>
          rw [hl] at r
          cases r with
          | cons rx _ =>
            have hx0 : ce[0]? = some x' := by
              have : ce.toList[0]? = some x' := by rw [hl]; rfl
              simpa using this
            obtain ⟨e, r⟩ := alenR_sim hE hr (ty := o.type) ht hx0 e rx
            refine ⟨v, ?_, r⟩
            simp only [execOp, ho, resolve, hb, Sem.run_bind, Sem.run_pure, Result.andThen_ok, invoke, builtin, hce, e]
      · cases e
    · cases e
  · cases e
end
end Go.Ev
