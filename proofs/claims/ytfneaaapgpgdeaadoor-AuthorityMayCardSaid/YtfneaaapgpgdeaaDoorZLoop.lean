/- THE EVALUATOR, part 'Loop': a deterministic reading of the program's code over an abstract heap, and that the model does what it says. Conditions: none beyond each theorem's own. -/
import Derived.Test.YtfneaaapgpgdeaaDoorZWp
import Derived.Test.YtfneaaapgpgdeaaDoorZMap
set_option linter.unusedSimpArgs false
set_option linter.unusedVariables false
namespace Go.Ev
def toExit : Ex → Exit
  | .normal => .normal
  | .exit id => .exit id
  | .ret => .ret

def RdR (F : Fence) (ρ : Ren) : Option Nat → Prop
  | none => F.round = none
  | some l => ∃ b c, ρ l = some (b, c) ∧ F.round = some b
theorem RdR.mono {F : Fence} {ρ ρ' : Ren} {rd : Option Nat} (h : RdR F ρ rd) (hle : ρ.le ρ') : RdR F ρ' rd := by
  cases rd with
  | none => exact h
  | some l => obtain ⟨b, c, h1, h2⟩ := h; exact ⟨b, c, hle _ _ h1, h2⟩

/-! a range over a map whose entries come in whatever order -/
def BodyS (P : Program) (E : Env) (B : Nat) (F : Fence) (rd : Option Nat) (nt : Nat) (f : Fr → Heap → Option (Ex × Fr × Heap)) (W : (Exit → Act → World → Prop) → Act → World → Prop) : Prop :=
  ∀ ρ h w fr a ex fr' h' Q, FR E ρ fr a → HR P ρ h w → a.tmps.size = nt → DR P B ρ w a.defers → RdR F ρ rd → B ≤ w.heap.size → f fr h = some (ex, fr', h') →
    (∀ a' w', After B P E ρ h w nt fr' h' a' w' → Q (toExit ex) a' w') → W Q a w
structure MInv (P : Program) (E : Env) (B : Nat) (F : Fence) (rd : Option Nat) (nt : Nat) (fr0 : Fr) (M : MHead) (ρ0 : Ren) (h0 : Heap) (w0 : World) (rb cr mb : Nat) (H : Heap) (seen : Array Nat) (ρ : Ren) (a : Act) (w : World) : Prop where
  fr : FR E ρ fr0 a
  st : Stp P ρ0 h0 w0 ρ (setBlk H M.r .dead) w
  nt_ : a.tmps.size = nt
  df : DR P B ρ w a.defers
  rd_ : RdR F ρ rd
  it : ρ M.r = some (rb, cr)
  ob : w.heap[rb]? = some (.mapIter (some mb) M.c seen M.c)
  mp : ∃ cm, ρ M.m = some (mb, cm)
  hm : H.b.get M.m = some (.map M.es M.c)
  uniq : ∀ i c, ρ i = some (rb, c) → i ≠ M.r → H.b.get i = some .dead
structure MNext (P : Program) (E : Env) (B : Nat) (F : Fence) (rd : Option Nat) (nt : Nat) (fr0 : Fr) (M : MHead) (ρ0 : Ren) (h0 : Heap) (w0 : World) (rb mb : Nat) (H : Heap) (seen : Array Nat) (ρ : Ren) (born : Nat) (f3 : Fr) (h3 : Heap) (ρ' : Ren) (a' : Act) (w' : World) : Prop where
  fr : FR E ρ' f3 a'
  st : Stp P ρ0 h0 w0 ρ' h3 w'
  le : ρ.le ρ'
  nt_ : a'.tmps.size = nt
  df : DR P B ρ' w' a'.defers
  ob : w'.heap[rb]? = some (.mapIter (some mb) M.c (seen.push born) M.c)
  cur : h3.b.get M.r = some (.mcur M.m born M.c)
  soft : ∀ i x, ρ i = some x → i ≠ M.r → Ev.soft (H.b.get i) → h3.b.get i = H.b.get i

theorem keepF_get {fr0 f : Fr} : ∀ {ts : List Nat} {t : Nat} {v : Value}, (keepF fr0 f ts).get t = some v → f.get t = some v ∧ t ∈ ts
  | [], t, v, h => by simp [keepF, T.get_leaf] at h
  | s :: ts, t, v, h => by
    simp only [keepF] at h
    split at h
    · rename_i u w _ hw
      rw [T.get_set] at h
      by_cases hst : s = t
      · subst hst
        rw [if_pos rfl] at h
        exact ⟨by rw [hw]; exact h, List.mem_cons_self⟩
      · rw [if_neg hst] at h
        have := keepF_get h
        exact ⟨this.1, List.mem_cons_of_mem _ this.2⟩
    · have := keepF_get h
      exact ⟨this.1, List.mem_cons_of_mem _ this.2⟩
theorem atR_spec {M : MHead} {fr : Fr} (h : atR M fr = true) : fr.get M.t = some (.pointer (some ⟨M.r, 0, none⟩)) := by
  unfold atR at h
  split at h
  · rename_i r hr
    rw [hr, Nat.eq_of_beq_eq_true h]
  · cases h
theorem sameFrame_at {nt : Nat} {fr0 f3 : Fr} (h : sameFrame nt fr0 f3 = true) {t : Nat} (ht : t < nt) {v : Value} (hv : fr0.get t = some v) : f3.get t = some v := by
  unfold sameFrame at h
  have := List.all_eq_true.1 h t (List.mem_range.2 ht)
  rw [hv] at this
  simp only at this
  split at this
  · rename_i u hu; rw [hu, sameV_eq _ _ _ this]
  · cases this

section
variable {P : Program} {E : Env} {B : Nat} {F : Fence} {n nt : Nat} {rd : Option Nat} {fr0 : Fr} {M : MHead} {ρ0 ρ : Ren} {h0 H : Heap} {w0 w : World} {rb cr mb : Nat} {seen : Array Nat} {a : Act}
theorem MNext.special {born : Nat} {f3 : Fr} {h3 : Heap} {ρ' : Ren} {a' : Act} {w' : World} (inv : MInv P E B F rd nt fr0 M ρ0 h0 w0 rb cr mb H seen ρ a w) (x : MNext P E B F rd nt fr0 M ρ0 h0 w0 rb mb H seen ρ born f3 h3 ρ' a' w') (hsame : sameBlk (H.b.get M.m) (h3.b.get M.m) = true)
    (hr0 : ∃ y, ρ0 M.r = some y) (hnd : ¬ Ev.soft (h0.b.get M.r)) : MInv P E B F rd nt (keepF fr0 f3 (List.range nt)) M ρ0 h0 w0 rb cr mb h3 (seen.push born) ρ' a' w' := by
  have hfr := x.fr
  have hit := x.le _ _ inv.it
  refine ⟨⟨hfr.glob, fun t v hv => hfr.tmp t v (keepF_get hv).1⟩, ?_, x.nt_, x.df, inv.rd_.mono x.le, hit, x.ob, let ⟨cm, e⟩ := inv.mp; ⟨cm, x.le _ _ e⟩, ?_, ?_⟩
  · have s := x.st
    exact { le := s.le, hr := s.hr.dead M.r, n := s.n, new := s.new, keep := fun i hi e0 => by
              have : i ≠ M.r := fun e => by subst e; obtain ⟨y, hy⟩ := hr0; rw [hy] at e0; cases e0
              rw [get_setBlk_ne this]; exact s.keep i hi e0,
            os := s.os, tape := s.tape, output := s.output, size := s.size, frame := s.frame, img := s.img,
            stays := fun i y e hs => by
              have : i ≠ M.r := fun e' => by subst e'; exact hnd hs
              rw [get_setBlk_ne this]; exact s.stays i y e hs }
  · rcases (sameBlk_eq hsame).1 with e | e
    · rw [e]; exact inv.hm
    · rw [inv.hm] at e
      rcases e with e | ⟨_, e⟩ | ⟨_, _, _, e⟩ <;> cases e
  · intro i c e hi
    rcases x.st.hr.inj i M.r rb c cr e hit hi with e' | e'
    · exact e'
    · rw [x.cur] at e'; cases e'
theorem MNext.quiet {born : Nat} {f3 : Fr} {h3 : Heap} {ρ' : Ren} {a' : Act} {w' : World} (hlt : ∀ t v, fr0.get t = some v → t < nt) (inv : MInv P E B F rd nt fr0 M ρ0 h0 w0 rb cr mb H seen ρ a w) (x : MNext P E B F rd nt fr0 M ρ0 h0 w0 rb mb H seen ρ born f3 h3 ρ' a' w') (hq : quietR nt M fr0 H (f3, h3) = true) :
    MInv P E B F rd nt fr0 M ρ0 h0 w0 rb cr mb H (seen.push born) ρ a' w' := by
  have hfr := x.fr
  unfold quietR at hq
  rw [Bool.and_eq_true] at hq
  obtain ⟨hq, hf3⟩ := hq
  unfold quietH at hq
  rw [Bool.and_eq_true] at hq
  have hsm : ∀ i, i < H.n → i ≠ M.r → sameBlk (H.b.get i) (h3.b.get i) = true := fun i hi hir => by
    have := List.all_eq_true.1 hq.2 i (List.mem_range.2 hi)
    rw [Bool.or_eq_true] at this
    rcases this with e | e
    · exact absurd (Nat.eq_of_beq_eq_true e) hir
    · exact e
  have hH := inv.st.hr
  have hhr : HR P ρ (setBlk H M.r .dead) w' := {
    dom := fun i b c e => ⟨(hH.dom i b c e).1, (x.st.hr.dom i b c (x.le _ _ e)).2⟩
    blk := fun i b c e => by
      by_cases hi : i = M.r
      · subst hi
        obtain ⟨_, o, _, e2, _⟩ := x.st.hr.blk _ b c (x.le _ _ e)
        exact ⟨.dead, o, get_setBlk, e2, .dead o⟩
      · obtain ⟨k, o, e1, e2, e3⟩ := hH.blk i b c e
        rw [get_setBlk_ne hi] at e1
        obtain ⟨k', o', g1, g2, g3⟩ := x.st.hr.blk i b c (x.le _ _ e)
        have hs := sameBlk_eq (hsm i (hH.dom i b c e).1 hi)
        have hk : k' = k := by
          rcases hs.1 with e' | e'
          · rw [g1, e1] at e'; exact Option.some.inj e'
          · have := x.soft i _ e hi e'
            rw [g1, e1] at this; exact Option.some.inj this
        subst hk
        exact ⟨k', o', by rw [get_setBlk_ne hi]; exact e1, g2, BR.back x.le (hs.2 _ e1) e3 g3⟩
    inj := hH.inj }
  have s := inv.st
  have t := x.st
  refine ⟨⟨inv.fr.glob, fun q v hv => VR.back x.le (inv.fr.tmp q v hv) (hfr.tmp q v (sameFrame_at hf3 (hlt q v hv) hv))⟩, ?_, x.nt_, ?_, inv.rd_, inv.it, x.ob, inv.mp, inv.hm, inv.uniq⟩
  · exact { le := s.le, hr := hhr, n := s.n, new := s.new, keep := s.keep, os := t.os, tape := t.tape, output := t.output, size := t.size, frame := t.frame, img := s.img, stays := s.stays }
  · refine ⟨x.df.nd, fun d hd => ?_⟩
    rcases x.df.each d hd with ⟨D, e1, e2, e3, e4⟩ | e
    · exact .inl ⟨D, e1, e2, e3, fun i c e => e4 i c (x.le _ _ e)⟩
    · exact .inr e

/-- one round, whichever entry comes -/
theorem mstep (hF : FOK F) {body : Fr → Heap → Option (Ex × Fr × Heap)} {W : (Exit → Act → World → Prop) → Act → World → Prop} (hbody : BodyS P E B F rd nt body W) {ops : Array Oper} {t : Nat} (hi : ops[0]? = some M.o0) (hop : M.o0.op = .next (.tmp t) false) (hgd : M.o0.guard = none) (ht : fr0.get t = some (.pointer (some ⟨M.r, 0, none⟩)))
    (hborn : ∀ e ∈ M.es, e.2.2 < M.c) (hB : B ≤ w0.heap.size) (hrm : M.r ≠ M.m) (hr0 : ∃ y, ρ0 M.r = some y) (hnd : ¬ Ev.soft (h0.b.get M.r)) (inv : MInv P E B F rd nt fr0 M ρ0 h0 w0 rb cr mb H seen ρ a w) {Q Q' : Exit → Act → World → Prop}
    (kover : (∀ e ∈ M.es, e.2.2 ∈ seen.toList) → ∃ f ex fr' h', put nt fr0 M.o0 (.tuple #[.bool false]) = some f ∧ body f (setBlk H M.r .dead) = some (ex, fr', h') ∧ ∀ a' w', After B P E ρ0 h0 w0 nt fr' h' a' w' → Q (toExit ex) a' w')
    (kx : ∀ e ∈ M.es, e.2.2 ∉ seen.toList → ∃ f3 h3, mround body nt M fr0 H e = some (f3, h3) ∧ ∀ ρ' a' w', MNext P E B F rd nt fr0 M ρ0 h0 w0 rb mb H seen ρ e.2.2 f3 h3 ρ' a' w' → Q .normal a' w') :
    wpOpIn F n P ops Q' 0 (W Q) a w := by
  have rp := inv.fr.tmp t _ ht
  have hptr : a.eval (.tmp t) = .pointer (some ⟨rb, 0, none⟩) := by
    show a.tmps.getD t undef = _
    generalize a.tmps.getD t undef = u at rp
    cases rp with
    | ptr _ hi' => rw [inv.it] at hi'; cases hi'; rfl
  obtain ⟨cm, hmp⟩ := inv.mp
  obtain ⟨k, o, k1, k2, k3⟩ := inv.st.hr.blk _ _ _ hmp
  rw [get_setBlk_ne (Ne.symm hrm), inv.hm] at k1
  cases k1
  cases k3 with
  | map _ es' _ hmr =>
    have hbs : ∀ e ∈ es'.toList, e.born < M.c := fun e he => by
      obtain ⟨j, hj, rfl⟩ := List.getElem_of_mem he
      have hl := hmr.length
      obtain ⟨y, e1, _, _, e2⟩ := hmr.get j _ (List.getElem?_eq_getElem (show j < M.es.length by omega))
      rw [List.getElem?_eq_getElem hj] at e1
      cases e1
      rw [← e2]; exact hborn _ (List.getElem_mem _)
    unfold wpOpIn
    simp only [hi]
    have hw : Region.wanted M.o0 (yielded ops a.tmps) = true := by simp [Region.wanted, hgd]
    rw [hw, if_pos rfl]
    have hrun : ∀ {nx : Value} {w' : World}, (Instr.next (.pointer (some ⟨rb, 0, none⟩)) false M.o0.type).run P w = .ok nx w' → (execOp a.eval M.o0).run P w = .ok (.value nx) w' := fun h => by
      simp only [execOp, hop, hptr, Sem.run_bind, h, Result.andThen_ok, Sem.run_pure]
    rcases next_any (P := P) (ty := M.o0.type) inv.ob k2 hbs with ⟨d, hrn, hseen⟩ | ⟨d, e', he', hns, hrn⟩
    · obtain ⟨f, ex, fr', h', hput, hb, kk⟩ := kover fun e he => by
        obtain ⟨j, hj, rfl⟩ := List.getElem_of_mem he
        obtain ⟨y, e1, _, _, e2⟩ := hmr.get j _ (List.getElem?_eq_getElem hj)
        rw [e2]; exact hseen y (List.mem_of_getElem? e1)
      refine wp_of_ok hF (by rw [hop]; simp) (hrun hrn) rfl ?_
      have sd := Stp.draw inv.st.hr d
      refine hbody ρ _ _ f _ ex fr' h' Q (FR.put inv.fr inv.nt_ (.tuple _ _ (.cons (.bool _) .nil)) hput) sd.hr (by rw [put_size]; exact inv.nt_) (by rw [put_defers]; exact inv.df.step sd) inv.rd_ (Nat.le_trans hB inv.st.size) hb fun a' w' ha => kk a' w' (ha.trans (inv.st.trans sd))
    · obtain ⟨j, hj, rfl⟩ := List.getElem_of_mem he'
      have hl := hmr.length
      have hje : j < M.es.length := by omega
      obtain ⟨y, e1, rk, rv, e2⟩ := hmr.get j _ (List.getElem?_eq_getElem hje)
      rw [List.getElem?_eq_getElem hj] at e1
      cases e1
      obtain ⟨f3, h3, hmd, kk⟩ := kx M.es[j] (List.getElem_mem _) (by rw [e2]; exact hns)
      unfold mround at hmd
      split at hmd
      · cases hmd
      rename_i f hput
      split at hmd
      · rename_i f3' h3' hb
        simp only [Option.some.injEq, Prod.mk.injEq] at hmd
        obtain ⟨rfl, rfl⟩ := hmd
        refine wp_of_ok hF (by rw [hop]; simp) (hrun hrn) rfl ?_
        have hbr : BR P ρ cr (.mcur M.m M.es[j].2.2 M.c) (.mapIter (some mb) M.c (seen.push es'.toList[j].born) M.c) := .mcur hmp _ _ _ _ (by rw [e2]; simp)
        have hrbl : rb < w.heap.size := (Array.getElem?_eq_some_iff.1 inv.ob).1
        have hho : ({ w with drawn := d, heap := w.heap.setIfInBounds rb (.mapIter (some mb) M.c (seen.push es'.toList[j].born) M.c) } : World).heap[rb]? = some (.mapIter (some mb) M.c (seen.push es'.toList[j].born) M.c) := by simp [hrbl]
        have hhn : ∀ q, q ≠ rb → ({ w with drawn := d, heap := w.heap.setIfInBounds rb (.mapIter (some mb) M.c (seen.push es'.toList[j].born) M.c) } : World).heap[q]? = w.heap[q]? := fun q hq => by simp [Ne.symm hq]
        have hr1 := HR.iter inv.st.hr inv.it hbr (w' := { w with drawn := d, heap := w.heap.setIfInBounds rb (.mapIter (some mb) M.c (seen.push es'.toList[j].born) M.c) }) (by simp) hho hhn inv.uniq
        have hs1 : Stp P ρ0 h0 w0 ρ (setBlk H M.r (.mcur M.m M.es[j].2.2 M.c)) { w with drawn := d, heap := w.heap.setIfInBounds rb (.mapIter (some mb) M.c (seen.push es'.toList[j].born) M.c) } := by
          have s := inv.st
          exact { le := s.le, hr := hr1, n := s.n, new := s.new, keep := fun i hi e0 => by
                    have hir : i ≠ M.r := fun e => by subst e; obtain ⟨y, hy⟩ := hr0; rw [hy] at e0; cases e0
                    have := s.keep i hi e0
                    rw [get_setBlk_ne hir] at this ⊢; exact this,
                  os := s.os, tape := s.tape, output := s.output, size := by simp; exact s.size,
                  frame := fun b hb hn' => by
                    have hbr' : b ≠ rb := fun e => by
                      subst e
                      obtain ⟨y, hy⟩ := hr0
                      have := s.le _ _ hy
                      rw [inv.it] at this
                      cases this
                      exact hnd (hn' _ _ hy)
                    rw [hhn b hbr']; exact s.frame b hb hn',
                  img := fun i b c e hb => s.img i b c e hb,
                  stays := fun i y e hs => by
                    have hir : i ≠ M.r := fun e' => by subst e'; exact hnd hs
                    have := s.stays i y e hs
                    rw [get_setBlk_ne hir] at this ⊢; exact this }
        have hdr : DR P B ρ { w with drawn := d, heap := w.heap.setIfInBounds rb (.mapIter (some mb) M.c (seen.push es'.toList[j].born) M.c) } (a.put M.o0.dst (.tuple #[.bool true, es'.toList[j].key, es'.toList[j].val])).defers := by
          rw [put_defers]
          refine ⟨inv.df.nd, fun x hx => ?_⟩
          rcases inv.df.each x hx with ⟨D, g1, g2, g3, g4⟩ | g
          · refine .inl ⟨D, g1, g2, ?_, g4⟩
            rw [hhn D fun e => g4 M.r cr (by rw [e]; exact inv.it)]; exact g3
          · exact .inr g
        refine hbody ρ _ _ f _ .normal f3' h3' Q (FR.put inv.fr inv.nt_ (.tuple _ _ (.cons (.bool _) (.cons rk (.cons rv .nil)))) hput) hr1 (by rw [put_size]; exact inv.nt_) hdr inv.rd_ (by have := inv.st.size; simp; omega) hb fun a' w' ha => ?_
        obtain ⟨ρ', hf', hs', hnt', hd'⟩ := ha
        refine kk ρ' a' w' ⟨hf', hs1.trans hs', hs'.le, hnt', hd', ?_, ?_, ?_⟩
        · rw [e2, hs'.frame rb (by simpa using hrbl) fun i c e => ?_, hho]
          by_cases hir : i = M.r
          · rw [hir, get_setBlk]; exact .inr (.inr ⟨_, _, _, rfl⟩)
          · rw [get_setBlk_ne hir, inv.uniq i c e hir]; exact .inl rfl
        · rw [hs'.stays M.r _ inv.it (by rw [get_setBlk]; exact .inr (.inr ⟨_, _, _, rfl⟩)), get_setBlk]
        · intro i y e hir hs
          have := hs'.stays i y e (by rw [get_setBlk_ne hir]; exact hs)
          rw [this, get_setBlk_ne hir]
      · cases hmd
end
end Go.Ev
namespace Go.Ev
theorem eraseF_get {D : List Nat} {fr : Fr} : ∀ {ts : List Nat} {t : Nat} {v : Value}, (eraseF D fr ts).get t = some v → fr.get t = some v ∧ t ∈ ts
  | [], t, v, h => by simp [eraseF, T.get_leaf] at h
  | s :: ts, t, v, h => by
    simp only [eraseF] at h
    cases hc : D.any (Nat.beq s) with
    | true =>
      rw [hc, cond_true] at h
      have := eraseF_get h
      exact ⟨this.1, List.mem_cons_of_mem _ this.2⟩
    | false =>
      rw [hc, cond_false] at h
      split at h
      · rename_i u hu
        rw [T.get_set] at h
        by_cases hst : s = t
        · subst hst
          rw [if_pos rfl] at h
          exact ⟨by rw [hu]; exact h, List.mem_cons_self⟩
        · rw [if_neg hst] at h
          have := eraseF_get h
          exact ⟨this.1, List.mem_cons_of_mem _ this.2⟩
      · have := eraseF_get h
        exact ⟨this.1, List.mem_cons_of_mem _ this.2⟩
theorem left_lt {α : Type} {p q : α → Bool} (hqp : ∀ x, q x = true → p x = true) {e : α} (hp : p e = true) (hq : q e = false) : ∀ {es : List α}, e ∈ es → (es.filter q).length < (es.filter p).length
  | x :: es, h => by
    have hle : ∀ l : List α, (l.filter q).length ≤ (l.filter p).length := by
      intro l
      induction l with
      | nil => simp
      | cons y l ih =>
        simp only [List.filter_cons]
        cases hqy : q y with
        | true => simp [hqp y hqy]; exact ih
        | false => cases hpy : p y <;> simp <;> omega
    rcases List.mem_cons.1 h with rfl | h
    · simp only [List.filter_cons, hp, hq, if_true, Bool.false_eq_true, if_false, List.length_cons]
      have := hle es; omega
    · have ih := left_lt hqp hp hq h
      simp only [List.filter_cons]
      cases hqx : q x with
      | true => simp [hqp x hqx]; exact ih
      | false => cases hpx : p x <;> simp <;> omega
def leftL (M : MHead) (seen : Array Nat) : Nat := (M.es.filter fun e => !seen.toList.contains e.2.2).length
theorem leftL_lt {M : MHead} {seen : Array Nat} {e : Value × Value × Nat} (he : e ∈ M.es) (hn : e.2.2 ∉ seen.toList) : leftL M (seen.push e.2.2) < leftL M seen := by
  refine left_lt (fun x hx => ?_) ?_ ?_ he
  · simp only [Bool.not_eq_true', Array.toList_push, List.contains_eq_mem, decide_eq_false_iff_not, List.mem_append, not_or] at hx ⊢
    exact hx.1
  · simpa using hn
  · simp
theorem mapHead_spec {E : Env} {ops : List Oper} {fr : Fr} {h : Heap} {M : MHead} (e : mapHead E ops fr h = some M) :
    ops = M.o0 :: M.tail ∧ (M.o0.op = .next (.tmp M.t) false ∧ fr.get M.t = some (.pointer (some ⟨M.r, 0, none⟩))) ∧ M.o0.guard = none ∧ h.b.get M.r = some (.miter (some M.m) M.c [] M.c) ∧ getMap h (.map (some M.m)) = some (M.es, M.c) ∧
    M.r < h.n ∧ M.es.length < 1000 ∧ (∀ x ∈ M.es, x.2.2 < M.c) ∧ nodupB (M.es.map (·.2.2)) = true ∧ M.r ≠ M.m ∧ ops.any isDefer = false := by
  unfold mapHead at e
  split at e
  · cases e
  rename_i o0 tail
  split at e
  · rename_i t hop hgd
    split at e
    · rename_i r hr
      split at e
      · rename_i m since last hb
        split at e
        · rename_i es c hg
          cases hc : (Nat.blt r h.n && Nat.beq since c && Nat.beq last c && Nat.blt 1 es.length && Nat.blt es.length 1000 && es.all (fun e => Nat.blt e.2.2 c) && nodupB (es.map (·.2.2)) && !Nat.beq r m && !(o0 :: tail).any isDefer) with
          | false => rw [hc] at e; cases e
          | true =>
            rw [hc] at e
            simp only [cond_true, Option.some.injEq] at e
            subst e
            simp only [Bool.and_eq_true, Bool.not_eq_true', Nat.blt_eq, Nat.beq_eq] at hc
            obtain ⟨⟨⟨⟨⟨⟨⟨⟨c1, c2⟩, c3⟩, _⟩, c5⟩, c6⟩, c7⟩, c8⟩, c9⟩ := hc
            subst c2; subst c3
            refine ⟨rfl, ⟨hop, hr⟩, hgd, hb, hg, c1, c5, fun x hx => ?_, c7, fun e => ?_, c9⟩
            · have := List.all_eq_true.1 c6 x hx
              simpa [Nat.blt_eq] using this
            · have e' : r = m := e
              subst e'
              rw [Nat.beq_refl] at c8; cases c8
        · cases e
      · cases e
    · cases e
  · cases e
section
variable {P : Program} {E : Env} {B : Nat} {F : Fence} {n nt : Nat} {rd : Option Nat} {fr0 : Fr} {M : MHead} {ρ0 : Ren} {h0 : Heap} {w0 : World} {rb cr mb : Nat} {body : Fr → Heap → Option (Ex × Fr × Heap)} {W : (Exit → Act → World → Prop) → Act → World → Prop} {ops : Array Oper} {t : Nat} {b : Code} {Qr : (Exit → Act → World → Prop) → Exit → Act → World → Prop} {Q : Exit → Act → World → Prop} {ex : Ex} {fr' : Fr} {h' : Heap}
/-- what does not change from round to round -/
structure MFix (P : Program) (E : Env) (B : Nat) (F : Fence) (n : Nat) (rd : Option Nat) (nt : Nat) (fr0 : Fr) (M : MHead) (ρ0 : Ren) (h0 : Heap) (w0 : World) (body : Fr → Heap → Option (Ex × Fr × Heap)) (W : (Exit → Act → World → Prop) → Act → World → Prop) (ops : Array Oper) (t : Nat) (b : Code)
    (Qr : (Exit → Act → World → Prop) → Exit → Act → World → Prop) : Prop where
  hF : FOK F
  hbody : BodyS P E B F rd nt body W
  hi : ops[0]? = some M.o0
  hop : M.o0.op = .next (.tmp t) false
  hgd : M.o0.guard = none
  ht : fr0.get t = some (.pointer (some ⟨M.r, 0, none⟩))
  hborn : ∀ e ∈ M.es, e.2.2 < M.c
  hB : B ≤ w0.heap.size
  hrm : M.r ≠ M.m
  hr0 : ∃ y, ρ0 M.r = some y
  hnd : ¬ Ev.soft (h0.b.get M.r)
  hlt : ∀ t v, fr0.get t = some v → t < nt
  hb : ∀ (Q : Exit → Act → World → Prop) (a : Act) (w : World), wpOpIn F n P ops (Qr Q) 0 (W Q) a w → b.wpIn F n P Q a w
theorem mend_spec {H : Heap} (e : mend body nt M fr0 H = some (ex, fr', h')) : ∃ f, put nt fr0 M.o0 (.tuple #[.bool false]) = some f ∧ body f (setBlk H M.r .dead) = some (ex, fr', h') ∧ ex ≠ .normal := by
  unfold mend at e
  split at e
  · cases e
  · rename_i f hput
    split at e
    · cases e
    · rename_i hno
      exact ⟨f, hput, e, fun h => by subst h; exact hno _ _ e⟩
theorem then_exit {K : Act → World → Prop} {Q : Exit → Act → World → Prop} (h : ex ≠ .normal) {a : Act} {w : World} (q : Q (toExit ex) a w) : Exit.then K Q (toExit ex) a w := by
  cases ex with
  | normal => exact absurd rfl h
  | exit id => exact q
  | ret => exact q
theorem roundsA (x : MFix P E B F n rd nt fr0 M ρ0 h0 w0 body W ops t b Qr) {H : Heap} (hend : mend body nt M fr0 H = some (ex, fr', h')) (hq : ∀ a' w', After B P E ρ0 h0 w0 nt fr' h' a' w' → Q (toExit ex) a' w') :
    ∀ (m : Nat) (seen : Array Nat) (ρ : Ren) (a : Act) (w : World), leftL M seen < m → (∀ e ∈ M.es, e.2.2 ∉ seen.toList → ∃ p, mround body nt M fr0 H e = some p ∧ quietR nt M fr0 H p = true) → MInv P E B F rd nt fr0 M ρ0 h0 w0 rb cr mb H seen ρ a w →
      roundsIn F n P b Q m a w
  | 0, _, _, _, _, h, _, _ => by omega
  | m + 1, seen, ρ, a, w, hm, hqu, inv => by
    show b.wpIn F n P (Exit.then (roundsIn F n P b Q m) Q) a w
    obtain ⟨f, hput, hbd, hne⟩ := mend_spec hend
    refine x.hb _ _ _ (mstep x.hF x.hbody x.hi x.hop x.hgd x.ht x.hborn x.hB x.hrm x.hr0 x.hnd inv (fun _ => ⟨f, ex, fr', h', hput, hbd, fun a' w' ha => then_exit hne (hq a' w' ha)⟩) fun e he hn => ?_)
    obtain ⟨⟨f3, h3⟩, e1, e2⟩ := hqu e he hn
    refine ⟨f3, h3, e1, fun ρ' a' w' nx => ?_⟩
    have := leftL_lt he hn
    exact roundsA x hend hq m (seen.push e.2.2) ρ a' w' (by omega) (fun e' he' hn' => hqu e' he' fun h => hn' (by simp [h])) (nx.quiet x.hlt inv e2)
theorem roundsB (x : MFix P E B F n rd nt fr0 M ρ0 h0 w0 body W ops t b Qr) {H h1 : Heap} {f1 : Fr} (x1 : MFix P E B F n rd nt (keepF fr0 f1 (List.range nt)) M ρ0 h0 w0 body W ops t b Qr) {es : Value × Value × Nat} (hend : mend body nt M (keepF fr0 f1 (List.range nt)) h1 = some (ex, fr', h')) (hq : ∀ a' w', After B P E ρ0 h0 w0 nt fr' h' a' w' → Q (toExit ex) a' w')
    (hsp : mround body nt M fr0 H es = some (f1, h1)) (hesm : es ∈ M.es) (hsame : sameBlk (H.b.get M.m) (h1.b.get M.m) = true) (hun : ∀ e ∈ M.es, e.2.2 = es.2.2 → e = es)
    (h1q : ∀ e ∈ M.es, e.2.2 ≠ es.2.2 → ∃ p, mround body nt M (keepF fr0 f1 (List.range nt)) h1 e = some p ∧ quietR nt M (keepF fr0 f1 (List.range nt)) h1 p = true) (h0q : ∀ e ∈ M.es, e.2.2 ≠ es.2.2 → ∃ p, mround body nt M fr0 H e = some p ∧ quietR nt M fr0 H p = true) :
    ∀ (m : Nat) (seen : Array Nat) (ρ : Ren) (a : Act) (w : World), leftL M seen < m → es.2.2 ∉ seen.toList → MInv P E B F rd nt fr0 M ρ0 h0 w0 rb cr mb H seen ρ a w → roundsIn F n P b Q m a w
  | 0, _, _, _, _, h, _, _ => by omega
  | m + 1, seen, ρ, a, w, hm, hns, inv => by
    show b.wpIn F n P (Exit.then (roundsIn F n P b Q m) Q) a w
    refine x.hb _ _ _ (mstep x.hF x.hbody x.hi x.hop x.hgd x.ht x.hborn x.hB x.hrm x.hr0 x.hnd inv (fun hall => absurd (hall es hesm) hns) fun e he hn => ?_)
    have := leftL_lt he hn
    by_cases hee : e.2.2 = es.2.2
    · obtain rfl := hun e he hee
      refine ⟨f1, h1, hsp, fun ρ' a' w' nx => ?_⟩
      exact roundsA x1 hend hq m (seen.push e.2.2) ρ' a' w' (by omega) (fun e' he' hn' => h1q e' he' fun h => hn' (by simp [h])) (nx.special inv hsame x.hr0 x.hnd)
    · obtain ⟨⟨f3, h3⟩, e1, e2⟩ := h0q e he hee
      refine ⟨f3, h3, e1, fun ρ' a' w' nx => ?_⟩
      exact roundsB x x1 hend hq hsp hesm hsame hun h1q h0q m (seen.push e.2.2) ρ a' w' (by omega) (by
        rw [Array.toList_push, List.mem_append]
        rintro (h | h)
        · exact hns h
        · exact hee (List.mem_singleton.1 h).symm) (nx.quiet x.hlt inv e2)
theorem mrounds_spec {H : Heap} : ∀ {es : List (Value × Value × Nat)} {l : List ((Value × Value × Nat) × Fr × Heap)}, mrounds body nt M fr0 H es = some l → (∀ p ∈ l, p.1 ∈ es ∧ mround body nt M fr0 H p.1 = some p.2) ∧ ∀ e ∈ es, ∃ p, mround body nt M fr0 H e = some p ∧ (quietR nt M fr0 H p = true ∨ (e, p) ∈ l)
  | [], l, h => by simp only [mrounds, Option.some.injEq] at h; subst h; exact ⟨fun p hp => (by cases hp), fun e he => (by cases he)⟩
  | e :: es, l, h => by
    simp only [mrounds] at h
    split at h
    · rename_i h3 l' h1 h2
      simp only [Option.some.injEq] at h
      obtain ⟨s1, s2⟩ := mrounds_spec h2
      cases hq : quietR nt M fr0 H h3 with
      | true =>
        rw [hq, cond_true] at h
        subst h
        refine ⟨fun p hp => ⟨List.mem_cons_of_mem _ (s1 p hp).1, (s1 p hp).2⟩, fun x hx => ?_⟩
        rcases List.mem_cons.1 hx with rfl | hx
        · exact ⟨h3, h1, .inl hq⟩
        · exact s2 x hx
      | false =>
        rw [hq, cond_false] at h
        subst h
        refine ⟨fun p hp => ?_, fun x hx => ?_⟩
        · rcases List.mem_cons.1 hp with rfl | hp
          · exact ⟨List.mem_cons_self, h1⟩
          · exact ⟨List.mem_cons_of_mem _ (s1 p hp).1, (s1 p hp).2⟩
        · rcases List.mem_cons.1 hx with rfl | hx
          · exact ⟨h3, h1, .inr List.mem_cons_self⟩
          · obtain ⟨h4, e1, e2⟩ := s2 x hx
            exact ⟨h4, e1, e2.imp id (List.mem_cons_of_mem _)⟩
    · cases h
theorem nodup_un : ∀ {l : List (Value × Value × Nat)}, nodupB (l.map (·.2.2)) = true → ∀ x ∈ l, ∀ y ∈ l, x.2.2 = y.2.2 → x = y
  | [], _, x, hx, _, _, _ => by cases hx
  | z :: l, h, x, hx, y, hy, e => by
    simp only [List.map_cons, nodupB, Bool.and_eq_true, Bool.not_eq_true', List.any_eq_false] at h
    rcases List.mem_cons.1 hx with hxz | hx'
    · rcases List.mem_cons.1 hy with hyz | hy'
      · rw [hxz, hyz]
      · subst hxz
        exact absurd (by rw [e]; simp) (h.1 y.2.2 (List.mem_map.2 ⟨y, hy', rfl⟩))
    · rcases List.mem_cons.1 hy with hyz | hy'
      · subst hyz
        exact absurd (by rw [e]; simp) (h.1 x.2.2 (List.mem_map.2 ⟨x, hx', rfl⟩))
      · exact nodup_un h.2 x hx' y hy' e
theorem cond_some {α : Type} {b : Bool} {x : Option α} {r : α} (e : cond b x none = some r) : b = true ∧ x = some r := by
  cases b with
  | true => exact ⟨rfl, e⟩
  | false => cases e
/-- the whole range -/
theorem mapAll_sim (x : atR M fr0 = true → MFix P E B F n rd nt fr0 M ρ0 h0 w0 body W ops t b Qr) (htM : t = M.t) (hnd : nodupB (M.es.map (·.2.2)) = true) (e : mapAll body nt M fr0 h0 = some (ex, fr', h')) (hq : ∀ a' w', After B P E ρ0 h0 w0 nt fr' h' a' w' → Q (toExit ex) a' w')
    {a : Act} (inv : MInv P E B F rd nt fr0 M ρ0 h0 w0 rb cr mb h0 #[] ρ0 a w0) {m : Nat} (hm : M.es.length < m) : roundsIn F n P b Q m a w0 := by
  have hll : leftL M #[] < m := Nat.lt_of_le_of_lt (List.length_filter_le _ _) hm
  unfold mapAll at e
  obtain ⟨hat, e⟩ := cond_some e
  have x := x hat
  split at e
  · cases e
  · rename_i hl
    obtain ⟨_, s2⟩ := mrounds_spec hl
    exact roundsA x e hq m #[] ρ0 a w0 hll (fun y hy _ => let ⟨h3, e1, e2⟩ := s2 y hy; ⟨h3, e1, e2.resolve_right (by simp)⟩) inv
  · rename_i sp f1 h1 hl
    obtain ⟨s1, s2⟩ := mrounds_spec hl
    obtain ⟨hc, e⟩ := cond_some e
    rw [Bool.and_eq_true, Bool.and_eq_true, Bool.and_eq_true] at hc
    obtain ⟨⟨⟨_, c2⟩, c2'⟩, c3⟩ := hc
    obtain ⟨p1, p2⟩ := s1 _ (List.mem_singleton.2 rfl)
    have x1 : MFix P E B F n rd nt (keepF fr0 f1 (List.range nt)) M ρ0 h0 w0 body W ops t b Qr := { x with
      ht := by rw [htM]; exact atR_spec c2'
      hlt := fun t v hv => List.mem_range.1 (keepF_get hv).2 }
    refine roundsB x x1 e hq p2 p1 c2 (fun y hy hyy => nodup_un hnd y hy _ p1 hyy) (fun y hy hne => ?_) (fun y hy hne => ?_) m #[] ρ0 a w0 hll (by simp) inv
    · have := List.all_eq_true.1 c3 y hy
      rw [Bool.or_eq_true] at this
      rcases this with h | h
      · exact absurd (Nat.eq_of_beq_eq_true h) hne
      · split at h
        · rename_i p hp; exact ⟨p, hp, h⟩
        · cases h
    · obtain ⟨h3, e1, e2⟩ := s2 y hy
      refine ⟨h3, e1, e2.resolve_right fun hmem => hne ?_⟩
      have := List.mem_singleton.1 hmem
      rw [show y = sp from (Prod.mk.inj this).1]
  · cases e
end
end Go.Ev
