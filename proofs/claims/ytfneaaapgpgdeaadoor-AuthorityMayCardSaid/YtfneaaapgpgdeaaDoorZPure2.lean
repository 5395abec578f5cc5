/- THE EVALUATOR, part 'Pure2': a deterministic reading of the program's code over an abstract heap, and that the model does what it says. Conditions: none beyond each theorem's own. -/
import Derived.Test.YtfneaaapgpgdeaaDoorZPure
set_option linter.unusedSimpArgs false
set_option linter.unusedVariables false
namespace Go.Ev
section
variable {P : Program} {E : Env} {ρ : Ren}

theorem isNan_flip {n : Nat} (h : isNan n = true) (hn : n < 18446744073709551616) : isNan (n ^^^ 9223372036854775808) = true ∧ n ^^^ 9223372036854775808 < 18446744073709551616 := by
  constructor
  · unfold isNan at h ⊢
    have : (n ^^^ 9223372036854775808) % 9223372036854775808 = n % 9223372036854775808 := by
      have := Nat.xor_mod_two_pow (a := n) (b := 2 ^ 63) (n := 63)
      simpa using this
    rw [this]; exact h
  · exact Nat.xor_lt_two_pow (n := 64) (by simpa using hn) (by decide)

theorem aun_sim {op : UnOp} {x x' v : Value} (h : aun op x = some v) (hx : VR ρ x x') : ∃ v', (∀ w : World, (Op.unary op x').run P w = .ok v' w) ∧ VR ρ v v' := by
  unfold aun at h
  split at h
  · cases hx; cases h; exact ⟨_, fun w => by simp [Op.unary, Op.intArith], .int _ _⟩
  · cases hx; cases h; exact ⟨_, fun w => by simp [Op.unary, Op.intBits], .int _ _⟩
  · cases hx; cases h; exact ⟨_, fun w => by simp [Op.unary], .bool _⟩
  · cases hx; cases h; exact ⟨_, fun w => rfl, .float _ _⟩
  · cases h
    cases hx with
    | nanf n h1 h2 => exact ⟨_, fun w => rfl, .nanf _ (isNan_flip h1 h2).1 (isNan_flip h1 h2).2⟩
  · cases h

theorem aconvert_sim (hE : EnvOK P E) {s d : TypeId} {x x' v : Value} (h : aconvert E s d x = some v) (hx : VR ρ x x') : ∃ v', (∀ w : World, (convert s d x').run P w = .ok v' w) ∧ VR ρ v v' := by
  unfold aconvert at h
  split at h
  · rename_i h1 h2
    have h1 := hE.und h1 (by simp)
    have h2 := hE.und h2 (by simp)
    cases hx; cases h
    exact ⟨_, fun w => by simp [convert, run_underlying h1, run_underlying h2, Conv.intToInt], .int _ _⟩
  · rename_i h1 h2
    have h1 := hE.und h1 (by simp)
    have h2 := hE.und h2 (by simp)
    cases hx; cases h
    exact ⟨_, fun w => by simp [convert, run_underlying h1, run_underlying h2], .string _⟩
  · rename_i h1 h2
    have h1 := hE.und h1 (by simp)
    have h2 := hE.und h2 (by simp)
    cases hx; cases h
    exact ⟨_, fun w => by simp [convert, run_underlying h1, run_underlying h2, Conv.intToFloat], .float _ _⟩
  · rename_i h1 h2
    have h1 := hE.und h1 (by simp)
    have h2 := hE.und h2 (by simp)
    cases hx; cases h
    exact ⟨_, fun w => by simp [convert, run_underlying h1, run_underlying h2, Conv.floatToFloat], .float _ _⟩
  · rename_i h1 h2
    have h1 := hE.und h1 (by simp)
    have h2 := hE.und h2 (by simp)
    cases h
    cases hx with
    | nanf n g1 g2 => exact ⟨_, fun w => by simp [convert, run_underlying h1, run_underlying h2, Conv.floatToFloat], .nanf n g1 g2⟩
  · cases h

theorem alen_sim (hE : EnvOK P E) {t ty : TypeId} {ts : Array TypeId} {xs : Array Value} {x x' v : Value} (ht : ts[0]? = some t) (hxs : xs[0]? = some x') (h : alen E t x = some v) (hx : VR ρ x x') (w : World) :
    (Builtin.len_ ts ty xs).run P w = .ok v w ∧ VR ρ v v := by
  unfold alen at h
  split at h
  · rename_i h1
    have h1 := hE.und h1 (by simp)
    cases hx; cases h
    exact ⟨by simp [Builtin.len_, ht, hxs, run_underlying h1, goInt], .int _ _⟩
  · rename_i h1
    have h1 := hE.und h1 (by simp)
    cases h
    exact ⟨by simp [Builtin.len_, ht, hxs, run_underlying h1, goInt], .int _ _⟩
  · rename_i h1
    have h1 := hE.und h1 (by simp)
    cases h
    cases hx <;> exact ⟨by simp [Builtin.len_, ht, hxs, run_underlying h1, goInt], .int _ _⟩
  · cases h

theorem acap_sim (hE : EnvOK P E) {t ty : TypeId} {ts : Array TypeId} {xs : Array Value} {x x' v : Value} (ht : ts[0]? = some t) (hxs : xs[0]? = some x') (h : acap E t x = some v) (hx : VR ρ x x') (w : World) :
    (Builtin.cap_ ts ty xs).run P w = .ok v w ∧ VR ρ v v := by
  unfold acap at h
  split at h
  · rename_i base n c hu
    have hu := hE.und hu (by simp)
    rw [blt_eq] at h
    by_cases hlt : c < UNK
    · simp only [hlt, decide_true, cond_true, Option.some.injEq] at h
      subst h
      refine ⟨?_, .int _ _⟩
      cases hx with
      | nilslice _ _ _ => simp [Builtin.cap_, ht, hxs, run_underlying hu, goInt]
      | slice _ _ _ _ _ => simp [Builtin.cap_, ht, hxs, run_underlying hu, goInt]
      | sliceU _ _ _ _ _ _ _ => exact absurd hlt (by decide)
      | sliceE _ _ _ => exact absurd hlt (by decide)
    · simp [hlt] at h
  · cases h

theorem bound_sim {x x' : Value} {y n : Nat} (h : bound x y = some n) (hx : VR ρ x x') {y' : Nat} (hy : y ≤ y') (c : BoundsCode) (w : World) : (Instr.sliceBound x' y' c).run P w = .ok n w ∧ n ≤ y := by
  unfold bound at h
  split at h
  · rename_i k i
    cases hx
    by_cases hb : 0 ≤ i ∧ i ≤ (y : Int)
    · simp only [hb.1, hb.2, decide_true, Bool.and_self, cond_true] at h; cases h
      refine ⟨?_, by omega⟩
      simp only [Instr.sliceBound, asIntOf, Sem.run_bind, Sem.run_pure, Result.andThen_ok, Sem.run_ite]
      rw [if_pos ⟨hb.1, by omega⟩]
    · have : (decide (0 ≤ i) && decide (i ≤ (y : Int))) = false := by simpa using hb
      simp [this] at h
  · cases h

theorem aindexAddr_sim (hE : EnvOK P E) {t : TypeId} {x ix x' ix' v : Value} (h : aindexAddr E t x ix = some v) (hx : VR ρ x x') (hi : VR ρ ix ix') :
    ∃ v', (∀ w : World, (Instr.indexAt t x' ix').run P w = .ok v' w) ∧ VR ρ v v' := by
  unfold aindexAddr at h
  split at h
  · rename_i len elem a k i hu
    have hu := hE.und hu (by simp)
    cases hi
    split at h
    · rename_i sz hs
      by_cases hb : 0 ≤ i ∧ i < (len : Int)
      · simp only [hb.1, hb.2, decide_true, Bool.and_self, cond_true] at h; cases h
        cases hx with
        | @ptr i0 b0 c0 off hr =>
          refine ⟨.pointer (some ((⟨b0, off, none⟩ : Addr).add (i.toNat * sz))), fun w => ?_, ?_⟩
          · simp only [Instr.indexAt, asIntOf, Sem.run_bind, Sem.run_pure, Result.andThen_ok, run_underlying hu, Instr.sureAddr, Sem.run_ite]
            rw [if_pos hb]
            simp [hE.run_size hs]
          · rw [Addr.add_lit, Addr.add_lit]; exact .ptr _ hr
      · have : (decide (0 ≤ i) && decide (i < (len : Int))) = false := by simpa using hb
        simp [this] at h
    · cases h
  · rename_i elem a len cap k i hu
    have hu := hE.und hu (by simp)
    cases hi
    split at h
    · rename_i sz hs
      by_cases hb : 0 ≤ i ∧ i < (len : Int)
      · simp only [hb.1, hb.2, decide_true, Bool.and_self, cond_true] at h; cases h
        have fin : ∀ (b off c cap' : Nat) (i' : Nat), ρ i' = some (b, c) → ∃ v', (∀ w : World, (Instr.indexAt t (.slice (some ⟨b, off, none⟩) len cap') (.int k i)).run P w = .ok v' w) ∧
            VR ρ (.pointer (some ((⟨i', off, none⟩ : Addr).add (i.toNat * sz)))) v' := by
          intro b off c cap' i' hr
          refine ⟨.pointer (some ((⟨b, off, none⟩ : Addr).add (i.toNat * sz))), fun w => ?_, ?_⟩
          · simp only [Instr.indexAt, asIntOf, Sem.run_bind, Sem.run_pure, Result.andThen_ok, run_underlying hu, Sem.run_ite]
            rw [if_pos hb]
            simp [hE.run_size hs]
          · rw [Addr.add_lit, Addr.add_lit]; exact .ptr _ hr
        cases hx with
        | slice off _ _ hr _ => exact fin _ off _ _ _ hr
        | sliceU off _ _ hr _ _ _ => exact fin _ off _ _ _ hr
        | sliceE a a' cap => simp at hb; omega
      · have : (decide (0 ≤ i) && decide (i < (len : Int))) = false := by simpa using hb
        simp [this] at h
    · cases h
  · cases h

theorem aindex_sim (hE : EnvOK P E) {t : TypeId} {x ix x' ix' v : Value} (h : aindex E t x ix = some v) (hx : VR ρ x x') (hi : VR ρ ix ix') :
    ∃ v', (∀ w : World, (Instr.index t x' ix').run P w = .ok v' w) ∧ VR ρ v v' := by
  unfold aindex at h
  split at h
  · rename_i len elem cs k i hu
    have hu := hE.und hu (by simp)
    cases hi
    cases hx with
    | agg _ cs' hx =>
      split at h
      · rename_i sz hs
        by_cases hb : 0 ≤ i ∧ i < (len : Int)
        · simp only [hb.1, hb.2, decide_true, Bool.and_self, cond_true] at h
          obtain ⟨v', e, r⟩ := part_sim hE h hx
          refine ⟨v', fun w => ?_, r⟩
          simp only [Instr.index, asIntOf, Sem.run_bind, Sem.run_pure, Result.andThen_ok, run_underlying hu, Sem.run_ite]
          rw [if_pos hb]
          simp [hE.run_size hs, e]
        · have : (decide (0 ≤ i) && decide (i < (len : Int))) = false := by simpa using hb
          simp [this] at h
      · cases h
  · rename_i s k i hu
    have hu := hE.und hu (by simp)
    cases hi; cases hx
    by_cases hb : 0 ≤ i
    · simp only [hb, decide_true, cond_true, Option.map_eq_some_iff, nth_eq] at h
      obtain ⟨b, hb', rfl⟩ := h
      refine ⟨_, fun w => ?_, .int _ _⟩
      have hlt : i.toNat < s.data.toList.length := (List.getElem?_eq_some_iff.1 hb').1
      have : s[i.toNat]? = some b := by
        have hh : i.toNat < s.size := by simpa using hlt
        rw [getElem?_pos s i.toNat hh]
        rw [List.getElem?_eq_getElem hlt] at hb'
        have hb' := Option.some.inj hb'
        rw [← hb']; rfl
      simp only [Instr.index, asIntOf, Sem.run_bind, Sem.run_pure, Result.andThen_ok, run_underlying hu, hb, if_true, this]
    · simp [hb] at h
  · cases h

theorem afieldAddr_sim (hE : EnvOK P E) {s : TypeId} {x x' v : Value} {f : Nat} (h : afieldAddr E s x f = some v) (hx : VR ρ x x') :
    ∃ v', (∀ w : World, (Instr.fieldAt s x' f).run P w = .ok v' w) ∧ VR ρ v v' := by
  unfold afieldAddr at h
  split at h
  · rename_i fields a hu
    have hu := hE.und hu (by simp)
    split at h
    · rename_i fd hf
      split at h
      · rename_i sz hs
        rw [cond_beq] at h
        split at h
        · cases h
        · rename_i hz
          cases h
          cases hx with
          | @ptr i0 b0 c0 off hr =>
            refine ⟨.pointer (some ((⟨b0, off, none⟩ : Addr).add fd.offset)), fun w => ?_, ?_⟩
            · have hf : fields[f]? = some fd := by simpa [nth_eq] using hf
              simp [Instr.fieldAt, run_underlying hu, hf, Instr.sureAddr, fieldPlace, hE.run_size hs, hz]
            · rw [Addr.add_lit, Addr.add_lit]; exact .ptr _ hr
      · cases h
    · cases h
  · cases h

theorem afield_sim (hE : EnvOK P E) {t : TypeId} {x x' v : Value} {f : Nat} (h : afield E t x f = some v) (hx : VR ρ x x') :
    ∃ v', (∀ w : World, (Instr.field t x' f).run P w = .ok v' w) ∧ VR ρ v v' := by
  unfold afield at h
  split at h
  · rename_i fields cs hu
    have hu := hE.und hu (by simp)
    split at h
    · rename_i fd hf
      cases hx with
      | agg _ cs' hx =>
        obtain ⟨v', e, r⟩ := part_sim hE h hx
        refine ⟨v', fun w => ?_, r⟩
        have hf : fields[f]? = some fd := by simpa [nth_eq] using hf
        simp [Instr.field, run_underlying hu, hf, asAgg, e]
    · cases h
  · cases h

theorem atypeAssert_sim (hE : EnvOK P E) {x x' v : Value} {xt t : TypeId} {ok : Bool} (h : atypeAssert E x t ok = some v) (hx : VR ρ x x') :
    ∃ v', (∀ w : World, (Instr.typeAssert x' xt t ok).run P w = .ok v' w) ∧ VR ρ v v' := by
  unfold atypeAssert at h
  split at h
  · cases h
  · cases h
  · rename_i d hi1 hi2 hu
    have hu := hE.und hu (fun e => hi2 e)
    cases hok : ok with
    | false => simp [hok] at h
    | true =>
      simp only [hok, cond_true, Option.map_eq_some_iff] at h
      obtain ⟨z, hz, rfl⟩ := h
      cases hx
      refine ⟨.tuple #[z, .bool false], fun w => ?_, .tuple _ _ (.cons (VR.const ρ (hE.zero hz).2) (.cons (.bool _) .nil))⟩
      simp only [Instr.typeAssert, Sem.run_bind, run_underlying hu, Result.andThen_ok]
      cases d <;> first | exact (hi1 _ rfl).elim | simp [hE.run_zero hz]
  · rename_i d t' u hi1 hi2 hu
    have hu := hE.und hu (fun e => hi2 e)
    cases hx with
    | iface _ _ u' hu' =>
      rw [cond_beq] at h
      by_cases ht : t' = t
      · rw [if_pos ht] at h
        subst ht
        cases ok with
        | true =>
          simp only [cond_true] at h; cases h
          refine ⟨.tuple #[u', .bool true], fun w => ?_, .tuple _ _ (.cons hu' (.cons (.bool _) .nil))⟩
          simp only [Instr.typeAssert, Sem.run_bind, run_underlying hu, Result.andThen_ok]
          cases d <;> first | exact (hi1 _ rfl).elim | simp
        | false =>
          simp only [cond_false] at h; cases h
          refine ⟨u', fun w => ?_, hu'⟩
          simp only [Instr.typeAssert, Sem.run_bind, run_underlying hu, Result.andThen_ok]
          cases d <;> first | exact (hi1 _ rfl).elim | simp
      · rw [if_neg ht] at h
        cases ok with
        | false => simp at h
        | true =>
          simp only [cond_true, Option.map_eq_some_iff] at h
          obtain ⟨z, hz, rfl⟩ := h
          refine ⟨.tuple #[z, .bool false], fun w => ?_, .tuple _ _ (.cons (VR.const ρ (hE.zero hz).2) (.cons (.bool _) .nil))⟩
          simp only [Instr.typeAssert, Sem.run_bind, run_underlying hu, Result.andThen_ok]
          cases d <;> first | exact (hi1 _ rfl).elim | simp [ht, hE.run_zero hz]
  · cases h

theorem amax2_sim {mx : Bool} {x x' y y' v : Value} (h : amax2 mx x y = some v) (hx : VR ρ x x') (hy : VR ρ y y') (w : World) :
    ((if mx then Builtin.max2 else Builtin.min2) x' y').run P w = .ok v w ∧ VR ρ v v := by
  unfold amax2 at h
  split at h
  · cases hx; cases hy; cases h
    cases mx
    · exact ⟨by simp [Builtin.min2], .int _ _⟩
    · exact ⟨by simp [Builtin.max2], .int _ _⟩
  · cases h
theorem afold_sim {mx : Bool} : ∀ {l l' : List Value} {x x' v : Value}, afold (amax2 mx) x l = some v → VR ρ x x' → VRL ρ l l' →
    ∃ v', VR ρ v v' ∧ ∀ w : World, (l'.foldlM (if mx then Builtin.max2 else Builtin.min2) x').run P w = .ok v' w
  | _, _, x, x', v, h, hx, .nil => by
    simp only [afold] at h; cases h
    exact ⟨x', hx, fun w => by simp⟩
  | _, _, x, x', v, h, hx, .cons hy t => by
    rename_i y y' l l'
    simp only [afold] at h
    cases hz : amax2 mx x y with
    | none => simp [hz] at h
    | some z =>
      simp only [hz] at h
      have h1 := fun w => (amax2_sim (P := P) hz hx hy w).1
      have h2 := (amax2_sim (P := P) hz hx hy default).2
      obtain ⟨v', r, e⟩ := afold_sim h h2 t
      exact ⟨v', r, fun w => by simp [List.foldlM_cons, h1 w, e w]⟩

/-! building -/
theorem foldl_set (off : Nat) : ∀ (vs : List Value) (k : Nat) (cs : List Value), off + k + vs.length ≤ cs.length →
    (vs.zipIdx k).foldl (fun (cs : Array Value) (p : Value × Nat) => cs.setIfInBounds (off + p.2) p.1) cs.toArray = (cs.take (off + k) ++ vs ++ cs.drop (off + k + vs.length)).toArray
  | [], k, cs, _ => by simp
  | v :: vs, k, cs, h => by
    simp only [List.zipIdx_cons, List.foldl_cons, List.setIfInBounds_toArray]
    rw [foldl_set off vs (k + 1) (cs.set (off + k) v) (by simp at h ⊢; omega)]
    have := list_seg_step cs (off + k) v vs (by simp at h; omega)
    simpa [Nat.add_assoc, Nat.add_comm 1] using this

theorem fill_sim {place place' : Nat → Option (Nat × Nat)} (hp : ∀ i x, place i = some x → place' i = some x) :
    ∀ {ps : List (Nat × Value)} {ps' : List (Nat × Value)} {cs l : List Value} {cs' : List Value}, fillL place cs ps = some l → VRL ρ cs cs' →
      ps'.map (·.1) = ps.map (·.1) → VRL ρ (ps.map (·.2)) (ps'.map (·.2)) →
      ∃ l' : List Value, Instr.fill place' cs'.toArray ps' = some l'.toArray ∧ VRL ρ l l'
  | [], [], cs, l, cs', h, hc, _, _ => by simp only [fillL] at h; cases h; exact ⟨cs', by simp [Instr.fill], hc⟩
  | [], _ :: _, _, _, _, _, _, h, _ => by simp at h
  | _ :: _, [], _, _, _, _, _, h, _ => by simp at h
  | (i, v) :: ps, (i', v') :: ps', cs, l, cs', h, hc, hi, hv => by
    simp only [List.map_cons, List.cons.injEq] at hi
    obtain ⟨hii, hi⟩ := hi
    simp only [List.map_cons] at hv
    cases hv with
    | cons hv ht =>
      rw [fillL] at h
      cases hpi : place i with
      | none => rw [hpi] at h; cases h
      | some x =>
        obtain ⟨off, n⟩ := x
        rw [hpi] at h
        simp only [cond_beq, blt_eq] at h
        by_cases hn0 : 0 < n
        case neg => simp [hn0] at h
        simp only [hn0, decide_true, cond_true] at h
        by_cases hn : v.cells.toList.length = n
        · rw [if_pos hn] at h
          cases ho : over cs off v.cells.toList with
          | none => rw [ho] at h; cases h
          | some cs1 =>
            rw [ho] at h
            simp only at h
            obtain ⟨h1, rfl⟩ := over_eq _ _ _ _ ho
            have hcl := hv.cells
            have hlen := hcl.length
            have hl := hc.length
            have hsz : v'.cells.size = n := by rw [← Array.length_toList, ← hlen]; exact hn
            by_cases hfit : off + v'.cells.size ≤ cs'.length
            · have hfold : (v'.cells.zipIdx.foldl (fun cs (c, j) => cs.setIfInBounds (off + j) c) cs'.toArray) = (cs'.take off ++ v'.cells.toList ++ cs'.drop (off + v'.cells.toList.length)).toArray := by
                rw [← Array.foldl_toList, Array.toList_zipIdx]
                exact foldl_set off v'.cells.toList 0 cs' (by simpa using hfit)
              have hc1 : VRL ρ (cs.take off ++ v.cells.toList ++ cs.drop (off + v.cells.toList.length)) (cs'.take off ++ v'.cells.toList ++ cs'.drop (off + v'.cells.toList.length)) := by
                rw [← hlen]
                exact ((hc.take _).append hcl).append (hc.drop _)
              obtain ⟨l', e, r⟩ := fill_sim hp h hc1 hi ht
              refine ⟨l', ?_, r⟩
              simp only [Instr.fill, hii, hp _ _ hpi]
              rw [if_neg ?_]
              · rw [hfold]; exact e
              · simp [hsz] at hfit ⊢; omega
            · exfalso
              rcases h1 with h1 | h1
              · rw [h1] at hn; simp at hn; omega
              · rw [hlen] at h1; simp at h1; omega
        · rw [if_neg hn] at h; cases h
end
end Go.Ev
