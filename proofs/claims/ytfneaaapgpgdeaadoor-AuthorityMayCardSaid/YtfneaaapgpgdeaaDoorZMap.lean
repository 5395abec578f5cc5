/- THE EVALUATOR, part 'Map': a deterministic reading of the program's code over an abstract heap, and that the model does what it says. Conditions: none beyond each theorem's own. -/
import Derived.Test.YtfneaaapgpgdeaaDoorZIns
import Derived.Laws.IdiomRangeMap
set_option linter.unusedSimpArgs false
set_option linter.unusedVariables false
namespace Go.Ev

theorem VR.slice_inv {ρ : Ren} {a : Addr} {n c : Nat} {x : Value} (h : VR ρ (.slice (some a) n c) x) :
    (∃ b d c', ρ a.block = some (b, d) ∧ a.spot = none ∧ x = .slice (some ⟨b, a.off, none⟩) n c' ∧ ((c < UNK ∧ c' = c) ∨ (c = UNK ∧ n < UNK ∧ n ≤ c' ∧ (a.off = 0 → c' = d)))) ∨ (n = 0 ∧ c = UNK2 ∧ ∃ a' c', x = .slice (some a') 0 c') := by
  generalize hv : Value.slice (some a) n c = v at h
  cases h with
  | slice off len cap hi hc => cases hv; exact .inl ⟨_, _, _, hi, rfl, rfl, .inl ⟨hc, rfl⟩⟩
  | sliceU off len cap hi hn hl h0 => cases hv; exact .inl ⟨_, _, _, hi, rfl, rfl, .inr ⟨rfl, hn, hl, h0⟩⟩
  | sliceE a a' cap => cases hv; exact .inr ⟨rfl, rfl, _, _, rfl⟩
  | _ => cases hv
theorem VR.slice_mk {ρ : Ren} {a : Addr} {n c : Nat} {b d c' : Nat} (hi : ρ a.block = some (b, d)) (hs : a.spot = none) (h : (c < UNK ∧ c' = c) ∨ (c = UNK ∧ n < UNK ∧ n ≤ c' ∧ (a.off = 0 → c' = d))) : VR ρ (.slice (some a) n c) (.slice (some ⟨b, a.off, none⟩) n c') := by
  obtain ⟨i, o, s⟩ := a
  simp only at hs; subst hs
  rcases h with ⟨hc, rfl⟩ | ⟨rfl, h1, h2, h3⟩
  · exact .slice _ _ _ hi hc
  · exact .sliceU _ _ _ hi h1 h2 h3

mutual
theorem VR.back {ρ ρ' : Ren} (hle : ρ.le ρ') : ∀ {v v0 v' : Value}, VR ρ v v0 → VR ρ' v v' → VR ρ v v'
  | _, _, _, .bool b, h => by cases h; exact .bool b
  | _, _, _, .int k n, h => by cases h; exact .int k n
  | _, _, _, .float k n, h => by cases h; exact .float k n
  | _, _, _, .nanf n h0 hn, h => by cases h; rename_i m h1 h2; exact .nanf m h1 h2
  | _, _, _, .string s, h => by cases h; exact .string s
  | _, _, _, .nilptr, h => by cases h; exact .nilptr
  | _, _, _, .ptr off hi, h => by
    cases h with
    | ptr _ hi' => have := hle _ _ hi; rw [this] at hi'; cases hi'; exact .ptr off hi
  | _, _, _, .nilslice n c hc, h => by cases h; exact .nilslice n c hc
  | _, _, _, .slice off len cap hi hc, h => by
    rcases h.slice_inv with ⟨b, d, c', e1, e2, rfl, e3⟩ | ⟨_, e2, _⟩
    · have := hle _ _ hi; simp only at e1; rw [this] at e1; cases e1; exact VR.slice_mk hi rfl e3
    · have : UNK2 < UNK := e2 ▸ hc
      exact absurd this (by decide)
  | _, _, _, .sliceU off len cap hi hn hl h0, h => by
    rcases h.slice_inv with ⟨b, d, c', e1, e2, rfl, e3⟩ | ⟨_, e2, _⟩
    · have := hle _ _ hi; simp only at e1; rw [this] at e1; cases e1; exact VR.slice_mk hi rfl e3
    · exact absurd e2 (by decide)
  | _, _, _, .sliceE a a' cap, h => by
    rcases h.slice_inv with ⟨b, d, c', e1, e2, rfl, e3⟩ | ⟨_, _, a2, c2, rfl⟩
    · rcases e3 with ⟨e3, _⟩ | ⟨e3, _⟩
      · exact absurd e3 (by decide)
      · exact absurd e3 (by decide)
    · exact .sliceE _ _ _
  | _, _, _, .nilmap, h => by cases h; exact .nilmap
  | _, _, _, .map hi, h => by
    cases h with
    | map hi' => have := hle _ _ hi; rw [this] at hi'; cases hi'; exact .map hi
  | _, _, _, .nilFunc, h => by cases h; exact .nilFunc
  | _, _, _, .func fn xs ys xs0 ys0 hy h1 h2, h => by
    cases h with
    | func _ _ _ xs' ys' _ g1 g2 => exact .func fn _ _ _ _ hy (VRL.back hle h1 g1) (VRL.back hle h2 g2)
    | yield _ => cases hy
  | _, _, _, .yield hi, h => by
    cases h with
    | func _ _ _ _ _ hy _ _ => cases hy
    | yield hi' => have := hle _ _ hi; rw [this] at hi'; cases hi'; exact .yield hi
  | _, _, _, .nilIface, h => by cases h; exact .nilIface
  | _, _, _, .iface t v v0 hv, h => by
    cases h with
    | iface _ _ v' g => exact .iface t _ _ (VR.back hle hv g)
  | _, _, _, .agg xs xs0 h0, h => by
    cases h with
    | agg _ xs' g => exact .agg _ _ (VRL.back hle h0 g)
  | _, _, _, .tuple xs xs0 h0, h => by
    cases h with
    | tuple _ xs' g => exact .tuple _ _ (VRL.back hle h0 g)
theorem VRL.back {ρ ρ' : Ren} (hle : ρ.le ρ') : ∀ {l l0 l' : List Value}, VRL ρ l l0 → VRL ρ' l l' → VRL ρ l l'
  | _, _, _, .nil, h => by cases h; exact .nil
  | _, _, _, .cons h t, g => by
    cases g with
    | cons h' t' => exact .cons (VR.back hle h h') (VRL.back hle t t')
end
theorem MR.back {ρ ρ' : Ren} (hle : ρ.le ρ') : ∀ {es : List (Value × Value × Nat)} {l0 l' : List MapEntry}, MR ρ es l0 → MR ρ' es l' → MR ρ es l'
  | _, _, _, .nil, h => by cases h; exact .nil
  | _, _, _, .cons hk hv t, h => by
    cases h with
    | cons hk' hv' t' => exact .cons (VR.back hle hk hk') (VR.back hle hv hv') (MR.back hle t t')
def notLoop : Blk → Prop
  | .loop .. => False
  | _ => True
theorem BR.back {P : Program} {ρ ρ' : Ren} (hle : ρ.le ρ') {c : Nat} {k : Blk} {o o' : Obj} (hk : notLoop k) (h : BR P ρ c k o) (g : BR P ρ' c k o') : BR P ρ c k o' := by
  cases k with
  | cells cs e x =>
    cases h with
    | cells _ xs _ _ h1 h2 =>
      cases g with
      | cells _ ys _ _ g1 g2 =>
        refine .cells _ _ _ _ (fun i v hv => ?_) g2
        obtain ⟨v0, _, r⟩ := h1 i v hv
        obtain ⟨v', e, r'⟩ := g1 i v hv
        exact ⟨v', e, VR.back hle r r'⟩
  | dead => exact .dead _
  | map es n =>
    cases h with
    | map _ _ _ h1 => cases g with
      | map _ es' _ g1 => exact .map _ _ _ (MR.back hle h1 g1)
  | siter s n => cases g; exact .siter _ _
  | miter m a l n =>
    cases m with
    | none => cases g; exact .miterN _ _ _
    | some i =>
      cases h with
      | miter hi _ _ _ => cases g with
        | miter hi' _ _ _ => have := hle _ _ hi; rw [this] at hi'; cases hi'; exact .miter hi _ _ _
  | loop => exact hk.elim
  | ro f =>
    cases h with
    | ro _ _ h1 => cases g with
      | ro _ _ g1 =>
        refine .ro _ _ fun i v hv => ?_
        obtain ⟨_, _, _, v0, _, _, r⟩ := h1 i v hv
        obtain ⟨xs, e, f', v', e1, e2, r'⟩ := g1 i v hv
        exact ⟨xs, e, f', v', e1, e2, VR.back hle r r'⟩
  | smap es =>
    cases h with
    | smap _ _ _ h1 => cases g with
      | smap _ es' n g1 =>
        have key : ∀ x ∈ es, ∃ k0 v0, VR ρ x.2.1 k0 ∧ VR ρ x.2.2 v0 := fun x hx => let ⟨e, _, a, b⟩ := h1.2 x hx; ⟨_, _, a, b⟩
        refine .smap _ _ _ ⟨fun e he => ?_, fun x hx => ?_⟩
        · obtain ⟨x, hx, a, b⟩ := g1.1 e he
          obtain ⟨_, _, a0, b0⟩ := key x hx
          exact ⟨x, hx, VR.back hle a0 a, VR.back hle b0 b⟩
        · obtain ⟨e, he, a, b⟩ := g1.2 x hx
          obtain ⟨_, _, a0, b0⟩ := key x hx
          exact ⟨e, he, VR.back hle a0 a, VR.back hle b0 b⟩
  | mcur m b ck =>
    cases h with
    | mcur hi _ _ _ _ _ => cases g with
      | mcur hi' since seen _ _ hb => have := hle _ _ hi; rw [this] at hi'; cases hi'; exact .mcur hi _ _ _ _ hb

theorem sameEs_eq : ∀ {a b : List (Value × Value × Nat)}, sameEs a b = true → a = b
  | [], [], _ => rfl
  | [], _ :: _, h => by cases h
  | _ :: _, [], h => by cases h
  | (k, v, n) :: l, (k', v', n') :: l', h => by
    simp only [sameEs, Bool.and_eq_true] at h
    obtain ⟨⟨⟨h1, h2⟩, h3⟩, h4⟩ := h
    rw [sameV_eq _ _ _ h1, sameV_eq _ _ _ h2, Nat.eq_of_beq_eq_true h3, sameEs_eq h4]
theorem sameSs_eq : ∀ {a b : List (Nat × Value × Value)}, sameSs a b = true → a = b
  | [], [], _ => rfl
  | [], _ :: _, h => by cases h
  | _ :: _, [], h => by cases h
  | (n, k, v) :: l, (n', k', v') :: l', h => by
    simp only [sameSs, Bool.and_eq_true] at h
    obtain ⟨⟨⟨h3, h1⟩, h2⟩, h4⟩ := h
    rw [sameV_eq _ _ _ h1, sameV_eq _ _ _ h2, Nat.eq_of_beq_eq_true h3, sameSs_eq h4]
theorem sameBlk_eq {k k3 : Option Blk} (h : sameBlk k k3 = true) : (k3 = k ∨ Ev.soft k) ∧ ∀ q, k = some q → notLoop q := by
  unfold sameBlk at h
  split at h
  · simp only [Bool.and_eq_true] at h
    obtain ⟨⟨h1, h2⟩, h3⟩ := h
    refine ⟨.inl ?_, fun q hq => by cases hq; trivial⟩
    rw [Nat.eq_of_beq_eq_true h1, eq_of_beq h2, sameV_go (fun a b => sameV_eq 50 a b) _ _ h3]
  · simp only [Bool.and_eq_true] at h
    refine ⟨.inl ?_, fun q hq => by cases hq; trivial⟩
    rw [Nat.eq_of_beq_eq_true h.1, sameEs_eq h.2]
  · refine ⟨.inl ?_, fun q hq => by cases hq; trivial⟩
    rw [sameSs_eq h]
  · simp only [Bool.and_eq_true] at h
    refine ⟨.inl ?_, fun q hq => by cases hq; trivial⟩
    rw [eqStr_true h.1, Nat.eq_of_beq_eq_true h.2]
  · exact ⟨.inr (.inl rfl), fun q hq => by cases hq; trivial⟩
  · exact ⟨.inr (.inr (.inl ⟨_, rfl⟩)), fun q hq => by cases hq; trivial⟩
  · exact ⟨.inr (.inr (.inr ⟨_, _, _, rfl⟩)), fun q hq => by cases hq; trivial⟩
  · cases h

section
variable {P : Program} {E : Env} {ρ : Ren} {h : Heap} {w : World}
theorem choose_next (w : World) {n : Nat} (h : n ≠ 0) : ∃ j d, j < n ∧ (choose (.mapNext n)).run P w = .ok j { w with drawn := d } := by
  by_cases hf : n ≤ 1
  · exact ⟨0, w.drawn, by omega, by simp [choose, Sem.run, Question.forced, hf]⟩
  · exact ⟨_, w.drawn + 1, Nat.mod_lt _ (by omega), by
      simp only [choose, Sem.run, Question.forced, decide_eq_true_eq, hf, if_false, Question.cut]
      rfl⟩
/-- the next one is any that is left -/
theorem next_any {rb mb c : Nat} {seen : Array Nat} {es' : Array MapEntry} {ty : TypeId} (h1 : w.heap[rb]? = some (.mapIter (some mb) c seen c)) (h2 : w.heap[mb]? = some (.map es' c)) (hs : ∀ e ∈ es'.toList, e.born < c) :
    (∃ d, (Instr.next (.pointer (some ⟨rb, 0, none⟩)) false ty).run P w = .ok (.tuple #[.bool false]) { w with drawn := d } ∧ ∀ e ∈ es'.toList, e.born ∈ seen.toList) ∨
    ∃ d e, e ∈ es'.toList ∧ e.born ∉ seen.toList ∧ (Instr.next (.pointer (some ⟨rb, 0, none⟩)) false ty).run P w = .ok (.tuple #[.bool true, e.key, e.val]) { w with drawn := d, heap := w.heap.setIfInBounds rb (.mapIter (some mb) c (seen.push e.born) c) } := by
  have hg := run_getObj (P := P) h1 (by simp)
  have hcond := next_test_false seen es' c c hs (Nat.le_refl _)
  have hleft : ∀ x ∈ (es'.filter fun e => !seen.contains e.born).toList, x ∈ es'.toList ∧ x.born ∉ seen.toList := fun x hx => by
    simp only [Array.toList_filter, List.mem_filter] at hx
    exact ⟨hx.1, by simpa using hx.2⟩
  simp only [Instr.next, Sem.run_bind, hg, run_getObj_map h2, Result.andThen_ok, hcond, Bool.false_eq_true, if_false]
  have hall : (es'.filter fun e => !seen.contains e.born) = #[] → ∀ e ∈ es'.toList, e.born ∈ seen.toList := fun h0 e he => by
    have := congrArg Array.toList h0
    simp only [Array.toList_filter, List.filter_eq_nil_iff] at this
    have := this e he
    simpa using this
  generalize (es'.filter fun e => !seen.contains e.born) = L at hleft hall ⊢
  have e1 : L.filter (fun x => decide (x.born < c)) = L := Array.filter_eq_self.2 (fun x hx => by simpa using hs x (hleft x (by simpa using hx)).1)
  have e2 : L.filter (fun x => decide (x.born ≥ c)) = #[] := by
    rw [Array.filter_eq_empty_iff]
    intro x hx
    have := hs x (hleft x (by simpa using hx)).1
    simp
    omega
  simp only [e1, e2, Array.append_empty]
  by_cases h0 : L.size = 0
  · left
    have : L = #[] := Array.eq_empty_of_size_eq_zero h0
    subst this
    refine ⟨w.drawn, ?_, hall rfl⟩
    simp [choose, Sem.run, Question.forced]
  · right
    have hne : L.isEmpty = false := by simp [Array.isEmpty, h0]
    obtain ⟨j, d, hj, hrun⟩ := choose_next (P := P) w h0
    obtain ⟨m1, m2⟩ := hleft L[j] (by simp)
    refine ⟨d, L[j], m1, m2, ?_⟩
    have hset := run_setObj (P := P) (w := { w with drawn := d }) (b := rb) (o' := .mapIter (some mb) c (seen.push L[j].born) c) h1 (by simp)
    simp only [hne, Bool.false_eq_true, if_false, Array.empty_append, Array.size_map, hrun, Result.andThen_ok, Array.getElem?_map, Array.getElem?_eq_getElem hj, Option.map_some, Sem.run_bind, hset, Sem.run_pure]

theorem HR.dead (hr : HR P ρ h w) (r : Nat) : HR P ρ (setBlk h r .dead) w where
  dom := hr.dom
  blk i b c e := by
    obtain ⟨k, o, e1, e2, e3⟩ := hr.blk i b c e
    by_cases hi : r = i
    · subst hi; exact ⟨.dead, o, T.get_set_same _ _ _, e2, .dead o⟩
    · exact ⟨k, o, by simp only [setBlk]; rw [T.get_set_ne _ _ hi]; exact e1, e2, e3⟩
  inj i j b c d e e' hn := by
    have keep : ∀ j, h.b.get j = some .dead → (setBlk h r .dead).b.get j = some .dead := by
      intro j e
      by_cases hj : r = j
      · subst hj; exact T.get_set_same _ _ _
      · simp only [setBlk]; rw [T.get_set_ne _ _ hj]; exact e
    exact (hr.inj i j b c d e e' hn).imp (keep i) (keep j)
theorem get_setBlk_ne {i r : Nat} {k : Blk} (hi : i ≠ r) : (setBlk h r k).b.get i = h.b.get i := by simp only [setBlk]; exact T.get_set_ne _ _ (Ne.symm hi)
theorem get_setBlk {r : Nat} {k : Blk} : (setBlk h r k).b.get r = some k := T.get_set_same _ _ _
/-- the iterator's block alone is another one -/
theorem HR.iter {r rb cr : Nat} (hr : HR P ρ (setBlk h r .dead) w) {k : Blk} {o : Obj} {w' : World} (hρ : ρ r = some (rb, cr)) (hb : BR P ρ cr k o) (hsz : w'.heap.size = w.heap.size) (ho : w'.heap[rb]? = some o) (hne : ∀ j, j ≠ rb → w'.heap[j]? = w.heap[j]?)
    (hu : ∀ i c, ρ i = some (rb, c) → i ≠ r → h.b.get i = some .dead) : HR P ρ (setBlk h r k) w' where
  dom i b c e := by rw [hsz]; exact hr.dom i b c e
  blk i b c e := by
    by_cases hi : i = r
    · subst hi; rw [hρ] at e; cases e; exact ⟨k, o, get_setBlk, ho, hb⟩
    · obtain ⟨k', o', e1, e2, e3⟩ := hr.blk i b c e
      rw [get_setBlk_ne hi] at e1
      rw [get_setBlk_ne hi]
      by_cases hbb : b = rb
      · subst hbb
        have := hu i c e hi
        rw [this] at e1; cases e1
        exact ⟨.dead, o, this, ho, .dead o⟩
      · exact ⟨k', o', e1, by rw [hne b hbb]; exact e2, e3⟩
  inj i j b c d e e' hn := by
    by_cases hi : i = r
    · subst hi
      rw [hρ] at e; cases e
      right; rw [get_setBlk_ne (Ne.symm hn)]; exact hu j d e' (Ne.symm hn)
    · by_cases hj : j = r
      · subst hj
        rw [hρ] at e'; cases e'
        left; rw [get_setBlk_ne hi]; exact hu i c e hi
      · have := hr.inj i j b c d e e' hn
        rw [get_setBlk_ne hi, get_setBlk_ne hj] at this ⊢
        exact this
end
end Go.Ev
