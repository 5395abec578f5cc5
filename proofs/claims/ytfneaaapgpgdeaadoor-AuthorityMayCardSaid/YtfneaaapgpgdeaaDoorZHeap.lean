/- THE EVALUATOR, part 'Heap': a deterministic reading of the program's code over an abstract heap, and that the model does what it says. Conditions: none beyond each theorem's own. -/
import Derived.Test.YtfneaaapgpgdeaaDoorZRel
set_option linter.unusedSimpArgs false
set_option linter.unusedVariables false
namespace Go.Ev

inductive MR (ρ : Ren) : List (Value × Value × Nat) → List MapEntry → Prop
  | nil : MR ρ [] []
  | cons {k k' v v' : Value} {n : Nat} {l : List (Value × Value × Nat)} {l' : List MapEntry} (hk : VR ρ k k') (hv : VR ρ v v') (t : MR ρ l l') : MR ρ ((k, v, n) :: l) ({ key := k', val := v', born := n } :: l')

def SR (ρ : Ren) (es : List (Nat × Value × Value)) (l : List MapEntry) : Prop :=
  (∀ e ∈ l, ∃ x ∈ es, VR ρ x.2.1 e.key ∧ VR ρ x.2.2 e.val) ∧ ∀ x ∈ es, ∃ e ∈ l, VR ρ x.2.1 e.key ∧ VR ρ x.2.2 e.val
theorem SR.mono {ρ ρ' : Ren} (hle : ρ.le ρ') {es : List (Nat × Value × Value)} {l : List MapEntry} (h : SR ρ es l) : SR ρ' es l :=
  ⟨fun e he => let ⟨x, hx, a, b⟩ := h.1 e he; ⟨x, hx, a.mono hle, b.mono hle⟩, fun x hx => let ⟨e, he, a, b⟩ := h.2 x hx; ⟨e, he, a.mono hle, b.mono hle⟩⟩

inductive BR (P : Program) (ρ : Ren) (c : Nat) : Blk → Obj → Prop
  | cells (cs : List Value) (xs : Array Value) (e : TypeId) (exact : Bool) (h : ∀ (i : Nat) (v : Value), cs[i]? = some v → ∃ v', xs[i]? = some v' ∧ VR ρ v v')
      (hs : if exact then xs.size = cs.length else xs.size = c * P.cellsOf e) : BR P ρ c (.cells cs e exact) (.cells xs e (0, 0))
  | dead (o : Obj) : BR P ρ c .dead o
  | map (es : List (Value × Value × Nat)) (es' : Array MapEntry) (n : Nat) (h : MR ρ es es'.toList) : BR P ρ c (.map es n) (.map es' n)
  | siter (s : ByteArray) (n : Nat) : BR P ρ c (.siter s n) (.stringIter s n)
  | miterN (a : Nat) (l : List Nat) (n : Nat) : BR P ρ c (.miter none a l n) (.mapIter none a l.toArray n)
  | miter {i b d : Nat} (h : ρ i = some (b, d)) (a : Nat) (l : List Nat) (n : Nat) : BR P ρ c (.miter (some i) a l n) (.mapIter (some b) a l.toArray n)
  | loop (fr : T Value) (r : Loop) (h : ∀ t v, fr.get t = some v → VR ρ v (r.tmps.getD t undef)) : BR P ρ c (.loop r.state r.pending fr r.tmps.size r.params.toList r.assign r.body) (.loop r)
  | ro (g : Nat → Option Value) (o : Obj) (h : ∀ i v, g i = some v → ∃ xs e f v', o = .cells xs e f ∧ xs[i]? = some v' ∧ VR ρ v v') : BR P ρ c (.ro g) o
  | smap (es : List (Nat × Value × Value)) (es' : Array MapEntry) (n : Nat) (h : SR ρ es es'.toList) : BR P ρ c (.smap es) (.map es' n)
  | mcur {i b d : Nat} (h : ρ i = some (b, d)) (since : Nat) (seen : Array Nat) (born clk : Nat) (hb : seen.back? = some born) : BR P ρ c (.mcur i born clk) (.mapIter (some b) since seen clk)

theorem MR.mono {ρ ρ' : Ren} (hle : ρ.le ρ') : ∀ {l : List (Value × Value × Nat)} {l' : List MapEntry}, MR ρ l l' → MR ρ' l l'
  | _, _, .nil => .nil
  | _, _, .cons hk hv t => .cons (hk.mono hle) (hv.mono hle) (MR.mono hle t)
theorem BR.mono {P : Program} {ρ ρ' : Ren} (hle : ρ.le ρ') {c : Nat} {k : Blk} {o : Obj} (h : BR P ρ c k o) : BR P ρ' c k o := by
  cases h with
  | cells cs xs e exact h hs => exact .cells cs xs e exact (fun i v e => let ⟨v', e', r⟩ := h i v e; ⟨v', e', r.mono hle⟩) hs
  | dead o => exact .dead o
  | map es es' n h => exact .map es es' n (h.mono hle)
  | siter s n => exact .siter s n
  | miterN a l n => exact .miterN a l n
  | miter h a l n => exact .miter (hle _ _ h) a l n
  | loop fr r h => exact .loop fr r fun t v e => (h t v e).mono hle
  | ro g o h => exact .ro g o fun i v e => let ⟨xs, el, f, v', e1, e2, r⟩ := h i v e; ⟨xs, el, f, v', e1, e2, r.mono hle⟩
  | smap es es' n h => exact .smap es es' n (h.mono hle)
  | mcur h since seen born clk hb => exact .mcur (hle _ _ h) since seen born clk hb

/-- a block that is never written -/
def soft (k : Option Blk) : Prop := k = some .dead ∨ (∃ g, k = some (.ro g)) ∨ ∃ m b c, k = some (.mcur m b c)

structure HR (P : Program) (ρ : Ren) (h : Heap) (w : World) : Prop where
  dom : ∀ i b c, ρ i = some (b, c) → i < h.n ∧ b < w.heap.size
  blk : ∀ i b c, ρ i = some (b, c) → ∃ k o, h.b.get i = some k ∧ w.heap[b]? = some o ∧ BR P ρ c k o
  inj : ∀ i j b c d, ρ i = some (b, c) → ρ j = some (b, d) → i ≠ j → h.b.get i = some .dead ∨ h.b.get j = some .dead

structure Stp (P : Program) (ρ : Ren) (h : Heap) (w : World) (ρ' : Ren) (h' : Heap) (w' : World) : Prop where
  le : ρ.le ρ'
  hr : HR P ρ' h' w'
  n : h.n ≤ h'.n
  new : ∀ i x, ρ' i = some x → ρ i = none → h.n ≤ i
  keep : ∀ i, i < h.n → ρ i = none → h'.b.get i = h.b.get i
  os : w'.os = w.os
  tape : w'.tape = w.tape
  output : w'.output = w.output
  size : w.heap.size ≤ w'.heap.size
  frame : ∀ b, b < w.heap.size → (∀ i c, ρ i = some (b, c) → soft (h.b.get i)) → w'.heap[b]? = w.heap[b]?
  img : ∀ i b c, ρ' i = some (b, c) → b < w.heap.size → ∃ j d, ρ j = some (b, d) ∧ (j = i ∨ ¬ soft (h.b.get j))
  stays : ∀ i x, ρ i = some x → soft (h.b.get i) → h'.b.get i = h.b.get i

section
variable {P : Program} {ρ : Ren} {h : Heap} {w : World}

theorem Stp.refl (hr : HR P ρ h w) : Stp P ρ h w ρ h w :=
  ⟨Ren.le_refl ρ, hr, Nat.le_refl _, fun i x e e' => by simp [e] at e', fun _ _ _ => rfl, rfl, rfl, rfl, Nat.le_refl _, fun _ _ _ => rfl, fun i _ c e _ => ⟨i, c, e, .inl rfl⟩, fun _ _ _ _ => rfl⟩

theorem Stp.soft {ρ' : Ren} {h' : Heap} {w' : World} (a : Stp P ρ h w ρ' h' w') {i : Nat} {x : Nat × Nat} (e : ρ i = some x) (hs : Ev.soft (h.b.get i)) : Ev.soft (h'.b.get i) := by
  rw [a.stays i x e hs]; exact hs

theorem Stp.trans {ρ₁ ρ₂ : Ren} {h₁ h₂ : Heap} {w₁ w₂ : World} (a : Stp P ρ h w ρ₁ h₁ w₁) (b : Stp P ρ₁ h₁ w₁ ρ₂ h₂ w₂) : Stp P ρ h w ρ₂ h₂ w₂ where
  le := Ren.le_trans a.le b.le
  hr := b.hr
  n := Nat.le_trans a.n b.n
  new i x e e0 := by
    cases e1 : ρ₁ i with
    | none => exact Nat.le_trans a.n (b.new i x e e1)
    | some y => exact a.new i y e1 e0
  keep i hi e0 := by
    have e1 : ρ₁ i = none := by
      cases e1 : ρ₁ i with
      | none => rfl
      | some y => have := a.new i y e1 e0; omega
    rw [b.keep i (Nat.lt_of_lt_of_le hi a.n) e1, a.keep i hi e0]
  os := b.os.trans a.os
  tape := b.tape.trans a.tape
  output := b.output.trans a.output
  size := Nat.le_trans a.size b.size
  frame k hk hn := by
    rw [b.frame k (Nat.lt_of_lt_of_le hk a.size) (fun i c e => by
      obtain ⟨j, d, e', hj⟩ := a.img i k c e hk
      have hsj := hn j d e'
      rcases hj with rfl | hj
      · exact a.soft e' hsj
      · exact absurd hsj hj), a.frame k hk hn]
  img i k c e hk := by
    obtain ⟨j, d, e', hj⟩ := b.img i k c e (Nat.lt_of_lt_of_le hk a.size)
    obtain ⟨l, d', e'', hl⟩ := a.img j k d e' hk
    refine ⟨l, d', e'', ?_⟩
    rcases hl with rfl | hl
    · rcases hj with rfl | hj
      · exact .inl rfl
      · exact .inr fun hs => hj (a.soft e'' hs)
    · exact .inr hl
  stays i x e hs := by
    have h1 := a.stays i x e hs
    rw [b.stays i x (a.le _ _ e) (by rw [h1]; exact hs), h1]

/-- a world that differs in the count of its draws -/
theorem HR.of_heap {w' : World} (hr : HR P ρ h w) (he : w'.heap = w.heap) : HR P ρ h w' :=
  ⟨fun i b c e => by rw [he]; exact hr.dom i b c e, fun i b c e => by rw [he]; exact hr.blk i b c e, hr.inj⟩
theorem Stp.draw (hr : HR P ρ h w) (n : Nat) : Stp P ρ h w ρ h { w with drawn := n } :=
  { Stp.refl hr with hr := hr.of_heap rfl }

def Ren.upd (ρ : Ren) (i : Nat) (x : Nat × Nat) : Ren := fun j => if j = i then some x else ρ j
theorem Ren.upd_same (ρ : Ren) (i : Nat) (x : Nat × Nat) : ρ.upd i x i = some x := by simp [Ren.upd]
theorem Ren.upd_ne (ρ : Ren) {i j : Nat} (x : Nat × Nat) (h : j ≠ i) : ρ.upd i x j = ρ j := by simp [Ren.upd, h]
theorem Ren.le_upd {ρ : Ren} {i : Nat} (x : Nat × Nat) (h : ρ i = none) : ρ.le (ρ.upd i x) := by
  intro j y e
  by_cases hj : j = i
  · subst hj; rw [h] at e; cases e
  · rw [Ren.upd_ne ρ x hj]; exact e

theorem HR.fresh (hr : HR P ρ h w) : ρ h.n = none := by
  cases e : ρ h.n with
  | none => rfl
  | some x => obtain ⟨b, c⟩ := x; have := (hr.dom _ _ _ e).1; omega

/-- a block of the abstract heap alone -/
theorem HR.grow (hr : HR P ρ h w) (k : Blk) : HR P ρ (newBlk h k) w where
  dom i b c e := ⟨Nat.lt_succ_of_lt (hr.dom i b c e).1, (hr.dom i b c e).2⟩
  blk i b c e := by
    obtain ⟨k', o, e1, e2, e3⟩ := hr.blk i b c e
    refine ⟨k', o, ?_, e2, e3⟩
    rw [newBlk, T.get_set_ne _ _ (by have := (hr.dom i b c e).1; omega)]; exact e1
  inj i j b c d e e' hn := by
    have h1 := (hr.dom i b c e).1
    have h2 := (hr.dom j b d e').1
    rw [newBlk, T.get_set_ne _ _ (by omega), T.get_set_ne _ _ (by omega)]
    exact hr.inj i j b c d e e' hn

/-- a new block i, which is there in the abstract heap, at the end of the world's -/
theorem HR.bind (hr : HR P ρ h w) {i c : Nat} {k : Blk} {o : Obj} (hi : i < h.n) (h0 : ρ i = none) (hk : h.b.get i = some k) (hb : BR P ρ c k o) {w' : World}
    (he : w'.heap = w.heap.push o) : HR P (ρ.upd i (w.heap.size, c)) h w' where
  dom j b d e := by
    by_cases hj : j = i
    · subst hj; rw [Ren.upd_same] at e; cases e; exact ⟨hi, by simp [he]⟩
    · rw [Ren.upd_ne ρ _ hj] at e
      have := hr.dom j b d e
      exact ⟨this.1, by rw [he]; simp; omega⟩
  blk j b d e := by
    by_cases hj : j = i
    · subst hj; rw [Ren.upd_same] at e; cases e
      exact ⟨k, o, hk, by simp [he], hb.mono (Ren.le_upd _ h0)⟩
    · rw [Ren.upd_ne ρ _ hj] at e
      obtain ⟨k', o', e1, e2, e3⟩ := hr.blk j b d e
      have hlt := (hr.dom j b d e).2
      refine ⟨k', o', e1, ?_, e3.mono (Ren.le_upd _ h0)⟩
      rw [he, Array.getElem?_push, if_neg (by omega)]; exact e2
  inj j l b d d' e e' hn := by
    by_cases hj : j = i
    · subst hj; rw [Ren.upd_same] at e; cases e
      rw [Ren.upd_ne ρ _ (fun x => hn x.symm)] at e'
      have := (hr.dom _ _ _ e').2; omega
    · rw [Ren.upd_ne ρ _ hj] at e
      by_cases hl : l = i
      · subst hl; rw [Ren.upd_same] at e'; cases e'
        have := (hr.dom _ _ _ e).2; omega
      · rw [Ren.upd_ne ρ _ hl] at e'
        exact hr.inj j l b d d' e e' hn

theorem Stp.alloc (hr : HR P ρ h w) {c : Nat} {k : Blk} {o : Obj} (hb : BR P ρ c k o) {w' : World} (he : w'.heap = w.heap.push o)
    (h1 : w'.os = w.os) (h2 : w'.tape = w.tape) (h3 : w'.output = w.output) :
    Stp P ρ h w (ρ.upd h.n (w.heap.size, c)) (newBlk h k) w' where
  le := Ren.le_upd _ hr.fresh
  hr := (hr.grow k).bind (i := h.n) (by simp [newBlk]) hr.fresh (by simp [newBlk, T.get_set]) hb he
  n := by simp [newBlk]
  new i x e e0 := by
    by_cases hi : i = h.n
    · omega
    · rw [Ren.upd_ne ρ _ hi, e0] at e; cases e
  keep i hi _ := by rw [newBlk, T.get_set_ne _ _ (by omega)]
  os := h1
  tape := h2
  output := h3
  size := by rw [he]; simp
  frame b hb _ := by rw [he, Array.getElem?_push, if_neg (by omega)]
  img i b d e hlt := by
    by_cases hi : i = h.n
    · subst hi; rw [Ren.upd_same] at e; cases e; omega
    · rw [Ren.upd_ne ρ _ hi] at e; exact ⟨i, d, e, .inl rfl⟩
  stays i x e _ := by
    have : i < h.n := (hr.dom i x.1 x.2 e).1
    rw [newBlk, T.get_set_ne _ _ (by omega)]

/-- the block that i stands for is written -/
theorem Stp.write (hr : HR P ρ h w) {i b c : Nat} {k k' : Blk} {o' : Obj} (hi : ρ i = some (b, c)) (hk : h.b.get i = some k) (hso : ¬ Ev.soft (some k))
    (hb : BR P ρ c k' o') {w' : World} (hsz : w'.heap.size = w.heap.size) (hw : w'.heap[b]? = some o') (ho : ∀ j, j ≠ b → w'.heap[j]? = w.heap[j]?)
    (h1 : w'.os = w.os) (h2 : w'.tape = w.tape) (h3 : w'.output = w.output) :
    Stp P ρ h w ρ { h with b := h.b.set i k' } w' :=
  have hd : k ≠ .dead := fun e => hso (.inl (by rw [e]))
  { le := Ren.le_refl _, hr := {
    dom := fun j b d e => by rw [hsz]; exact hr.dom j b d e
    blk := fun j b' d e => by
      obtain ⟨k2, o, e1, e2, e3⟩ := hr.blk j b' d e
      by_cases hj : j = i
      · subst hj; rw [hi] at e; cases e
        exact ⟨k', o', by simp [T.get_set], hw, hb⟩
      · by_cases hbb : b' = b
        · subst hbb
          have hdd : k2 = .dead := by
            rcases hr.inj j i b' d c e hi hj with h | h
            · rw [e1] at h; exact Option.some.inj h
            · rw [hk] at h; exact absurd (Option.some.inj h) hd
          subst hdd
          exact ⟨.dead, o', by rw [T.get_set_ne _ _ (Ne.symm hj)]; exact e1, hw, .dead _⟩
        · exact ⟨k2, o, by rw [T.get_set_ne _ _ (Ne.symm hj)]; exact e1, by rw [ho _ hbb]; exact e2, e3⟩
    inj := fun j l b' d d' e e' hn => by
      rcases hr.inj j l b' d d' e e' hn with h | h
      · by_cases hj : i = j
        · subst hj; rw [hk] at h; exact absurd (Option.some.inj h) hd
        · left; rw [T.get_set_ne _ _ hj]; exact h
      · by_cases hl : i = l
        · subst hl; rw [hk] at h; exact absurd (Option.some.inj h) hd
        · right; rw [T.get_set_ne _ _ hl]; exact h }
    n := Nat.le_refl _,
    new := fun j x e e0 => by rw [e] at e0; cases e0
    keep := fun j _ e0 => by
      have : i ≠ j := by intro e; subst e; rw [hi] at e0; cases e0
      exact T.get_set_ne _ _ this
    os := h1, tape := h2, output := h3,
    size := by rw [hsz]; exact Nat.le_refl _
    frame := fun j _ hn => ho j (fun e => hso (by have := hn i c (by rw [e]; exact hi); rw [hk] at this; exact this))
    img := fun j b d e _ => ⟨j, d, e, .inl rfl⟩
    stays := fun j x e hs => by
      by_cases hj : i = j
      · subst hj
        rw [hk] at hs; exact absurd hs hso
      · exact T.get_set_ne _ _ hj }

/-- the block that i stood for is another's now, i stands for nothing: the world is the same, or it was written there -/
theorem Stp.grown (hr : HR P ρ h w) {i b c : Nat} {k k' : Blk} {o' : Obj} (hi : ρ i = some (b, c)) (hk : h.b.get i = some k) (hso : ¬ Ev.soft (some k))
    (hb : BR P ρ c k' o') {w' : World} (hsz : w'.heap.size = w.heap.size) (hw : w'.heap[b]? = some o') (ho : ∀ j, j ≠ b → w'.heap[j]? = w.heap[j]?)
    (h1 : w'.os = w.os) (h2 : w'.tape = w.tape) (h3 : w'.output = w.output) :
    Stp P ρ h w (ρ.upd h.n (b, c)) (newBlk { h with b := h.b.set i .dead } k') w' :=
  have hd : k ≠ .dead := fun e => hso (.inl (by rw [e]))
  { le := Ren.le_upd _ hr.fresh, hr := {
    dom := fun j b' d e => by
      rw [hsz]
      by_cases hj : j = h.n
      · subst hj; rw [Ren.upd_same] at e; cases e; exact ⟨by simp [newBlk], (hr.dom _ _ _ hi).2⟩
      · rw [Ren.upd_ne ρ _ hj] at e
        have := hr.dom j b' d e
        exact ⟨by simp [newBlk]; omega, this.2⟩
    blk := fun j b' d e => by
      by_cases hj : j = h.n
      · subst hj; rw [Ren.upd_same] at e; cases e
        exact ⟨k', o', by simp [newBlk, T.get_set], hw, hb.mono (Ren.le_upd _ hr.fresh)⟩
      · rw [Ren.upd_ne ρ _ hj] at e
        obtain ⟨k2, o, e1, e2, e3⟩ := hr.blk j b' d e
        by_cases hji : j = i
        · subst hji; rw [hi] at e; cases e
          exact ⟨.dead, o', by simp [newBlk, T.get_set, Ne.symm hj], hw, .dead _⟩
        · by_cases hbb : b' = b
          · subst hbb
            have hdd : k2 = .dead := by
              rcases hr.inj j i b' d c e hi hji with h | h
              · rw [e1] at h; exact Option.some.inj h
              · rw [hk] at h; exact absurd (Option.some.inj h) hd
            subst hdd
            exact ⟨.dead, o', by simp [newBlk, T.get_set, Ne.symm hj, Ne.symm hji, e1], hw, .dead _⟩
          · exact ⟨k2, o, by simp [newBlk, T.get_set, Ne.symm hj, Ne.symm hji, e1], by rw [ho _ hbb]; exact e2, e3.mono (Ren.le_upd _ hr.fresh)⟩
    inj := fun j l b' d d' e e' hn => by
      have key : ∀ j, j ≠ h.n → ∀ d, ρ j = some (b', d) → b' = b → (newBlk { h with b := h.b.set i .dead } k').b.get j = some .dead := by
        intro j hj d ej hbb
        subst hbb
        by_cases hji : j = i
        · subst hji; simp [newBlk, T.get_set, Ne.symm hj]
        · simp only [newBlk, T.get_set, Ne.symm hj, Ne.symm hji, if_false]
          rcases hr.inj j i b' d c ej hi hji with h | h
          · exact h
          · rw [hk] at h; exact absurd (Option.some.inj h) hd
      by_cases hj : j = h.n
      · subst hj; rw [Ren.upd_same] at e; cases e
        have hl : l ≠ h.n := fun x => hn x.symm
        rw [Ren.upd_ne ρ _ hl] at e'
        exact .inr (key l hl _ e' rfl)
      · rw [Ren.upd_ne ρ _ hj] at e
        by_cases hl : l = h.n
        · subst hl; rw [Ren.upd_same] at e'; cases e'
          exact .inl (key j hj _ e rfl)
        · rw [Ren.upd_ne ρ _ hl] at e'
          have hh := hr.inj j l b' d d' e e' hn
          have keep : ∀ j, j ≠ h.n → h.b.get j = some .dead → (newBlk { h with b := h.b.set i .dead } k').b.get j = some .dead := by
            intro j hj e
            by_cases hji : j = i
            · subst hji; simp [newBlk, T.get_set, Ne.symm hj]
            · simp [newBlk, T.get_set, Ne.symm hj, Ne.symm hji, e]
          exact hh.imp (keep j hj) (keep l hl) }
    n := by simp [newBlk]
    new := fun j x e e0 => by
      by_cases hj : j = h.n
      · omega
      · rw [Ren.upd_ne ρ _ hj, e0] at e; cases e
    keep := fun j hj e0 => by
      have : i ≠ j := by intro e; subst e; rw [hi] at e0; cases e0
      simp only [newBlk]
      rw [T.get_set_ne _ _ (by omega), T.get_set_ne _ _ this]
    os := h1, tape := h2, output := h3,
    size := by rw [hsz]; exact Nat.le_refl _
    frame := fun j _ hn => ho j (fun e => hso (by have := hn i c (by rw [e]; exact hi); rw [hk] at this; exact this))
    img := fun j b' d e _ => by
      by_cases hj : j = h.n
      · subst hj; rw [Ren.upd_same] at e; cases e; exact ⟨i, c, hi, .inr (by rw [hk]; exact hso)⟩
      · rw [Ren.upd_ne ρ _ hj] at e; exact ⟨j, d, e, .inl rfl⟩
    stays := fun j x e hs => by
      have hlt : j < h.n := (hr.dom j x.1 x.2 e).1
      simp only [newBlk]
      rw [T.get_set_ne _ _ (show h.n ≠ j by omega)]
      by_cases hj : i = j
      · subst hj
        rw [hk] at hs; exact absurd hs hso
      · rw [T.get_set_ne _ _ hj] }

/-- a block lives no longer -/
theorem Stp.kill (hr : HR P ρ h w) {i : Nat} {x : Nat × Nat} (hi : ρ i = some x) (hso : ¬ Ev.soft (h.b.get i)) : Stp P ρ h w ρ { h with b := h.b.set i .dead } w where
  le := Ren.le_refl _
  hr := {
    dom := hr.dom
    blk := fun j b d e => by
      obtain ⟨k, o, e1, e2, e3⟩ := hr.blk j b d e
      by_cases hj : i = j
      · subst hj; exact ⟨.dead, o, by simp [T.get_set], e2, .dead _⟩
      · exact ⟨k, o, by rw [T.get_set_ne _ _ hj]; exact e1, e2, e3⟩
    inj := fun j l b d d' e e' hn => by
      have keep : ∀ j, h.b.get j = some .dead → (h.b.set i .dead).get j = some .dead := by
        intro j e
        by_cases hji : i = j
        · subst hji; simp [T.get_set]
        · rw [T.get_set_ne _ _ hji]; exact e
      exact (hr.inj j l b d d' e e' hn).imp (keep j) (keep l) }
  n := Nat.le_refl _
  new j x e e0 := by rw [e] at e0; cases e0
  keep j _ e0 := by
    have : i ≠ j := by intro e; subst e; rw [hi] at e0; cases e0
    exact T.get_set_ne _ _ this
  os := rfl
  tape := rfl
  output := rfl
  size := Nat.le_refl _
  frame _ _ _ := rfl
  img j _ d e _ := ⟨j, d, e, .inl rfl⟩
  stays j x e hs := by
    by_cases hj : i = j
    · subst hj; exact absurd hs hso
    · exact T.get_set_ne _ _ hj
end
end Go.Ev
