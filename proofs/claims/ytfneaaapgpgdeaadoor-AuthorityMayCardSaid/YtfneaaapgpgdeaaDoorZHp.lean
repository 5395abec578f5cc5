/- THE EVALUATOR, part 'Hp': a deterministic reading of the program's code over an abstract heap, and that the model does what it says. Conditions: none beyond each theorem's own. -/
import Derived.Test.YtfneaaapgpgdeaaDoorZOpen
set_option linter.unusedSimpArgs false
set_option linter.unusedVariables false
namespace Go.Ev
/-- below B nothing has changed -/
structure ExtB (B : Nat) (h h' : Heap) : Prop where
  n : h.n ≤ h'.n
  get : ∀ i, i < B → h'.b.get i = h.b.get i
theorem ExtB.refl (B : Nat) (h : Heap) : ExtB B h h := ⟨Nat.le_refl _, fun _ _ => rfl⟩
theorem ExtB.trans {B : Nat} {h h1 h2 : Heap} (a : ExtB B h h1) (b : ExtB B h1 h2) : ExtB B h h2 := ⟨Nat.le_trans a.n b.n, fun i hi => by rw [b.get i hi, a.get i hi]⟩
theorem ExtB.mono {B B' : Nat} {h h' : Heap} (a : ExtB B' h h') (hb : B ≤ B') : ExtB B h h' := ⟨a.n, fun i hi => a.get i (Nat.lt_of_lt_of_le hi hb)⟩
theorem ExtB.new {B : Nat} {h : Heap} (k : Blk) (hb : B ≤ h.n) : ExtB B h (newBlk h k) := ⟨by simp [newBlk], fun i hi => by simp only [newBlk]; exact T.get_set_ne _ _ (by omega)⟩
theorem ExtB.set {B : Nat} {h : Heap} {i : Nat} (k : Blk) (hb : B ≤ i) : ExtB B h { h with b := h.b.set i k } := ⟨Nat.le_refl _, fun j hj => T.get_set_ne _ _ (by omega)⟩
theorem newBlk_n (h : Heap) (k : Blk) : (newBlk h k).n = h.n + 1 := rfl
theorem newBlk_same (h : Heap) (k : Blk) : (newBlk h k).b.get h.n = some k := by simp [newBlk, T.get_set]
theorem newBlk_old {h : Heap} {i : Nat} (k : Blk) (hi : i < h.n) : (newBlk h k).b.get i = h.b.get i := by simp only [newBlk]; exact T.get_set_ne _ _ (by omega)

theorem cellsAt_ext {B b off n : Nat} {h h' : Heap} {l : List Value} (e : ExtB B h h') (hb : b < B) (hc : cellsAt h ⟨b, off, none⟩ n = some l) : cellsAt h' ⟨b, off, none⟩ n = some l := by
  unfold cellsAt at hc ⊢
  cases hn : Nat.beq n 0 with
  | true => rw [hn] at hc; exact hc
  | false =>
    rw [hn] at hc
    simp only [cond_false] at hc ⊢
    rw [e.get b hb]
    by_cases hlt : b < h.n
    · have : b < h'.n := Nat.lt_of_lt_of_le hlt e.n
      simp only [blt_eq, hlt, this, decide_true, cond_true] at hc ⊢
      exact hc
    · simp [blt_eq, hlt] at hc
theorem cellAt_ext {B b off : Nat} {h h' : Heap} {v : Value} (e : ExtB B h h') (hb : b < B) (hc : cellAt h ⟨b, off, none⟩ = some v) : cellAt h' ⟨b, off, none⟩ = some v := by
  unfold cellAt at hc ⊢
  cases hl : cellsAt h ⟨b, off, none⟩ 1 with
  | none => rw [hl] at hc; cases hc
  | some l => rw [hl] at hc; rw [cellsAt_ext e hb hl]; exact hc
/-- a block that is known -/
theorem cellsAt_blk {h : Heap} {i : Nat} {cs : List Value} {e : TypeId} {x : Bool} (hi : i < h.n) (hb : h.b.get i = some (.cells cs e x)) {off n : Nat} {l : List Value} (hl : (cs.drop off).take n = l) (hn : l.length = n) :
    cellsAt h ⟨i, off, none⟩ n = some l := by
  have tk : ∀ (n : Nat) (c : List Value), n ≤ c.length → takeN n c = some (c.take n) := by
    intro n
    induction n with
    | zero => intro c _; rfl
    | succ n ih =>
      intro c hc
      cases c with
      | nil => simp at hc
      | cons a c => simp only [takeN, ih c (by simpa using hc), Option.map_some, List.take_succ_cons]
  unfold cellsAt
  rw [cond_beq]
  by_cases h0 : n = 0
  · subst h0; rw [if_pos rfl]; simp at hl; rw [← hl]
  · rw [if_neg h0]
    simp only [blt_eq, hi, decide_true, cond_true, hb, dropN_eq]
    rw [tk _ _ (by rw [← hl] at hn; simp at hn; simp; omega), hl]
theorem cellAt_blk {h : Heap} {i : Nat} {cs : List Value} {e : TypeId} {x : Bool} (hi : i < h.n) (hb : h.b.get i = some (.cells cs e x)) {off : Nat} {v : Value} (hv : cs[off]? = some v) : cellAt h ⟨i, off, none⟩ = some v := by
  unfold cellAt
  have hlt := (List.getElem?_eq_some_iff.1 hv).1
  rw [cellsAt_blk (n := 1) hi hb (l := [v]) (by
    rw [List.drop_eq_getElem_cons hlt]
    simp only [List.take_succ_cons, List.take_zero]
    rw [(List.getElem?_eq_some_iff.1 hv).2]) rfl]
theorem cellAt_new {h : Heap} {cs : List Value} {e : TypeId} {x : Bool} {off : Nat} {v : Value} (hv : cs[off]? = some v) : cellAt (newBlk h (.cells cs e x)) ⟨h.n, off, none⟩ = some v :=
  cellAt_blk (by simp [newBlk]) (newBlk_same _ _) hv
/-- one of several cells -/
theorem cellAt_of {h : Heap} {b off n : Nat} {l : List Value} (hc : cellsAt h ⟨b, off, none⟩ n = some l) {j : Nat} {v : Value} (hj : l[j]? = some v) : cellAt h ⟨b, off + j, none⟩ = some v := by
  have hjl := (List.getElem?_eq_some_iff.1 hj).1
  unfold cellsAt at hc
  rw [cond_beq] at hc
  by_cases h0 : n = 0
  · rw [if_pos h0] at hc; cases hc; simp at hj
  · rw [if_neg h0] at hc
    simp only at hc
    unfold cellAt cellsAt
    simp only [show Nat.beq 1 0 = false from rfl, cond_false]
    cases hlt : Nat.blt b h.n with
    | false => rw [hlt] at hc; cases hc
    | true =>
      rw [hlt] at hc
      simp only [cond_true] at hc ⊢
      cases hk : h.b.get b with
      | none => rw [hk] at hc; cases hc
      | some k =>
        rw [hk] at hc
        cases k with
        | cells cs e x =>
          simp only [dropN_eq] at hc ⊢
          obtain ⟨h1, rfl⟩ := takeN_eq _ _ _ hc
          rw [List.getElem?_take_of_lt (by simp at hjl; omega), List.getElem?_drop] at hj
          have hlt := (List.getElem?_eq_some_iff.1 hj).1
          rw [List.drop_eq_getElem_cons hlt]
          simp only [takeN, Option.map_some]
          rw [(List.getElem?_eq_some_iff.1 hj).2]
        | ro g =>
          obtain ⟨i1, i2⟩ := roCells_get _ _ _ hc
          have := i2 j v hj
          simp only [roCells, this]
        | _ => cases hc

/-- a row of elements that came in -/
def RowAt (B : Nat) (h : Heap) (a : Option Addr) (sz : Nat) (rows : List (List Value)) : Prop :=
  ∀ i (hi : i < rows.length), ∃ b off, a = some ⟨b, off, none⟩ ∧ b < B ∧ cellsAt h ⟨b, off + i * sz, none⟩ sz = some rows[i]
theorem RowAt.ext {B : Nat} {h h' : Heap} {a : Option Addr} {sz : Nat} {rows : List (List Value)} (r : RowAt B h a sz rows) (e : ExtB B h h') : RowAt B h' a sz rows := fun i hi => by
  obtain ⟨b, off, e1, e2, e3⟩ := r i hi
  exact ⟨b, off, e1, e2, cellsAt_ext e e2 e3⟩
theorem RowAt.mono {B B' : Nat} {h : Heap} {a : Option Addr} {sz : Nat} {rows : List (List Value)} (r : RowAt B h a sz rows) (hb : B ≤ B') : RowAt B' h a sz rows := fun i hi => by
  obtain ⟨b, off, e1, e2, e3⟩ := r i hi
  exact ⟨b, off, e1, Nat.lt_of_lt_of_le e2 hb, e3⟩

/-- a row of the call's own -/
inductive OwnS (B : Nat) (h : Heap) (e : TypeId) : Value → Nat → List Value → Prop
  | nil : OwnS B h e (.slice none 0 0) 0 []
  | emp (i : Nat) (hi : i < h.n) : OwnS B h e (.slice (some ⟨i, 0, none⟩) 0 0) 0 []
  | row (i n : Nat) (cs : List Value) (hB : B ≤ i) (hi : i < h.n) (hb : h.b.get i = some (.cells cs e false)) : OwnS B h e (.slice (some ⟨i, 0, none⟩) n UNK) n cs
theorem OwnS.ext {B B' : Nat} {h h' : Heap} {e : TypeId} {v : Value} {n : Nat} {cs : List Value} (o : OwnS B h e v n cs) (x : ExtB B' h h') (hB : h.n ≤ B') : OwnS B h' e v n cs := by
  cases o with
  | nil => exact .nil
  | emp i hi => exact .emp i (Nat.lt_of_lt_of_le hi x.n)
  | row i n cs h1 h2 h3 => exact .row i n cs h1 (Nat.lt_of_lt_of_le h2 x.n) (by rw [x.get i (by omega)]; exact h3)
theorem OwnS.new {B : Nat} {h : Heap} {e : TypeId} {v : Value} {n : Nat} {cs : List Value} (o : OwnS B h e v n cs) (k : Blk) : OwnS B (newBlk h k) e v n cs := o.ext (ExtB.new (B := h.n) k (Nat.le_refl _)) (Nat.le_refl _)

section
variable {E : Env} {nt : Nat} {rd : Option Nat} {fr : Fr} {h : Heap} {K : Value → Heap → Prop} {x y z : Operand} {t t' : TypeId}

theorem opW_alloc {v : Value} {l : List Value} (hz : zero E t = some v) (hl : v.cells.toList = l) (ho : l.all oneCell = true) : opW E (.alloc t) fr h K = K (.pointer (some ⟨h.n, 0, none⟩)) (newBlk h (.cells l t true)) := by
  subst hl
  rw [opW_alloc' rfl (by simp)]
  simp [allocOp, operOf, hz, varBlk, ho, onV]
def boxK (t : TypeId) (v : Value) (h : Heap) (K : Value → Heap → Prop) [Tok K] : Prop := v.cells.toList.all oneCell = true ∧ K (.pointer (some ⟨h.n, 0, none⟩)) (newBlk h (.cells v.cells.toList t true))
theorem opW_box : opW E (.box t x) fr h K = evK E fr x fun v => boxK t v h K := by
  rw [opW_alloc' rfl (by simp)]
  simp only [allocOp, operOf, evK, onV, boxK]
  cases ev E fr x with
  | none => simp
  | some v =>
    simp only [varBlk, Option.some.injEq, exists_eq_left']
    generalize v.cells.toList = l
    generalize hc : l.all oneCell = b
    cases b <;> simp
theorem box_one {v : Value} (hv : v.cells = #[v]) (ho : oneCell v = true) : boxK t v h K = K (.pointer (some ⟨h.n, 0, none⟩)) (newBlk h (.cells [v] t true)) := by
  unfold boxK; rw [hv]; simp [ho]
theorem box_int {k : IntKind} {n : Int} : boxK t (.int k n) h K = K (.pointer (some ⟨h.n, 0, none⟩)) (newBlk h (.cells [.int k n] t true)) := box_one rfl rfl
theorem box_bool {b : Bool} : boxK t (.bool b) h K = K (.pointer (some ⟨h.n, 0, none⟩)) (newBlk h (.cells [.bool b] t true)) := box_one rfl rfl
theorem box_string {s : ByteArray} : boxK t (.string s) h K = K (.pointer (some ⟨h.n, 0, none⟩)) (newBlk h (.cells [.string s] t true)) := box_one rfl rfl
theorem box_slice {a : Option Addr} {n c : Nat} : boxK t (.slice a n c) h K = K (.pointer (some ⟨h.n, 0, none⟩)) (newBlk h (.cells [.slice a n c] t true)) := box_one rfl rfl
theorem box_pointer {a : Option Addr} : boxK t (.pointer a) h K = K (.pointer (some ⟨h.n, 0, none⟩)) (newBlk h (.cells [.pointer a] t true)) := box_one rfl rfl
theorem box_map {a : Option Nat} : boxK t (.map a) h K = K (.pointer (some ⟨h.n, 0, none⟩)) (newBlk h (.cells [.map a] t true)) := box_one rfl rfl
theorem box_func {f : Fn} {a b : Array Value} : boxK t (.func f a b) h K = K (.pointer (some ⟨h.n, 0, none⟩)) (newBlk h (.cells [.func f a b] t true)) := box_one rfl rfl
theorem box_agg {l : List Value} : boxK t (.agg ⟨l⟩) h K = (l.all oneCell = true ∧ K (.pointer (some ⟨h.n, 0, none⟩)) (newBlk h (.cells l t true))) := rfl

def stK (n : Nat) (p v : Value) (h : Heap) (K : Value → Heap → Prop) [Tok K] : Prop :=
  match p with
  | .pointer (some a) => (v.cells.toList.length = n ∧ v.cells.toList.all oneCell = true) ∧ onV (writeCells h a v.cells.toList) fun h' => K undef h'
  | _ => False
theorem opW_store {n : Nat} (hn : size E t = some n) : opW E (.store t x y) fr h K = evK E fr x fun p => evK E fr y fun v => stK n p v h K := by
  rw [opW_act rfl (by simp)]
  simp only [actOp, operOf, evK, onV, stK]
  cases ev E fr x with
  | none => simp [onR]
  | some p =>
    cases ev E fr y with
    | none => simp [onR]
    | some v =>
      simp only [storeAt, hn]
      cases p with
      | pointer a =>
        cases a with
        | none => simp [onR]
        | some a =>
          simp only [Option.some.injEq, exists_eq_left']
          generalize v.cells.toList = l
          generalize h2 : l.all oneCell = b
          cases hb : Nat.beq l.length n with
          | true =>
            have h1 : l.length = n := Nat.eq_of_beq_eq_true hb
            cases b with
            | true =>
              simp only [Bool.and_self, cond_true, h1, true_and, and_true]
              cases writeCells h a l with
              | none => simp [onR]
              | some h' => simp only [Option.map_some, onR_some]; simp
            | false => simp [onR]
          | false =>
            have h1 : ¬ l.length = n := Nat.ne_of_beq_eq_false hb
            simp [onR, h1]
      | _ => simp [onR]
/-- a whole variable is written, just made -/
theorem st_new {n : Nat} {cs l : List Value} {e : TypeId} {b : Bool} (h1 : l.length = n) (h2 : cs.length = n) (h3 : l.all oneCell = true) (hn : n ≠ 0) :
    stK n (.pointer (some ⟨h.n, 0, none⟩)) (.agg ⟨l⟩) (newBlk h (.cells cs e b)) K = K undef (newBlk h (.cells l e b)) := by
  have ov : ∀ (l cs : List Value), l.length = cs.length → over cs 0 l = some l := by
    intro l
    induction l with
    | nil => intro cs hc; cases cs <;> simp at hc; rfl
    | cons a l ih =>
      intro cs hc
      cases cs with
      | nil => simp at hc
      | cons c cs => simp only [over, Nat.beq_refl, cond_true, ih cs (by simpa using hc), Option.map_some]
  have hw : writeCells (newBlk h (.cells cs e b)) ⟨h.n, 0, none⟩ l = some (newBlk h (.cells l e b)) := by
    unfold writeCells
    cases l with
    | nil => simp at h1; omega
    | cons a l =>
      simp only [newBlk_same, ov (a :: l) cs (by omega), Option.map_some]
      simp [newBlk, T.set_set]
  simp only [stK, Value.cells]
  rw [hw]
  simp [h1, h3]
theorem writeCells_blk {i off : Nat} {cs cs' l : List Value} {e : TypeId} {b : Bool} (hb : h.b.get i = some (.cells cs e b)) (ho : over cs off l = some cs') (hl : l ≠ []) : writeCells h ⟨i, off, none⟩ l = some { h with b := h.b.set i (.cells cs' e b) } := by
  unfold writeCells
  cases l with
  | nil => exact absurd rfl hl
  | cons a l => simp only [hb, ho, Option.map_some]

theorem beq_ne {a b : Nat} (hn : a ≠ b) : Nat.beq a b = false := by
  cases h : Nat.beq a b with
  | true => exact absurd (Nat.eq_of_beq_eq_true h) hn
  | false => rfl
/-! literals of slices, append -/
def evpK (E : Env) (fr : Fr) (ps : List (Nat × Operand)) (K : List (Nat × Value) → Prop) [Tok K] : Prop := onV (mapOpt (fun (p : Nat × Operand) => (ev E fr p.2).map (p.1, ·)) ps) K
theorem evp_nil {K : List (Nat × Value) → Prop} : evpK E fr [] K = K [] := by simp [evpK, mapOpt]
theorem evp_cons {i : Nat} {x : Operand} {ps : List (Nat × Operand)} {K : List (Nat × Value) → Prop} : evpK E fr ((i, x) :: ps) K = evK E fr x fun v => evpK E fr ps fun vs => K ((i, v) :: vs) := by
  simp only [evpK, evK, mapOpt, onV]
  cases ev E fr x with
  | none => simp
  | some v => cases mapOpt (fun (p : Nat × Operand) => (ev E fr p.2).map (p.1, ·)) ps <;> simp
/-- a slice's elements: their type, how many cells, the zero's -/
def elemOf (E : Env) (t : TypeId) : Option (TypeId × Nat × List Value) := match und E t with
  | some (.slice elem) => match E.tab.get elem with
    | some i => match i.zero with
      | some z => cond (Nat.beq z.cells.toList.length i.size && !Nat.beq i.size 0 && Nat.ble i.bytes 10000) (some (elem, i.size, z.cells.toList)) none
      | none => none
    | none => none
  | _ => none
theorem elemOf_some {e : TypeId} {sz : Nat} {zs : List Value} (hx : elemOf E t = some (e, sz, zs)) : ∃ i z, und E t = some (.slice e) ∧ E.tab.get e = some i ∧ i.zero = some z ∧ i.size = sz ∧ z.cells.toList = zs ∧ zs.length = sz ∧ sz ≠ 0 ∧ i.bytes ≤ 10000 := by
  unfold elemOf at hx
  split at hx
  · rename_i elem hu
    split at hx
    · rename_i i hi
      split at hx
      · rename_i z hz
        cases hc : (Nat.beq z.cells.toList.length i.size && !Nat.beq i.size 0 && Nat.ble i.bytes 10000) with
        | false => rw [hc] at hx; cases hx
        | true =>
          rw [hc] at hx
          cases hx
          simp only [Bool.and_eq_true, Bool.not_eq_true'] at hc
          exact ⟨i, z, hu, hi, hz, rfl, rfl, Nat.eq_of_beq_eq_true hc.1.1, Nat.ne_of_beq_eq_false hc.1.2, Nat.le_of_ble_eq_true hc.2⟩
      · cases hx
    · cases hx
  · cases hx
def bsK (e : TypeId) (sz : Nat) (zs : List Value) (len : Nat) (ps : List (Nat × Value)) (h : Heap) (K : Value → Heap → Prop) [Tok K] : Prop :=
  onV (fillL (fun k => some (k * sz, sz)) (rep len zs) ps) fun l => K (.slice (some ⟨h.n, 0, none⟩) len len) (newBlk h (.cells l e true))
theorem opW_buildSlice {e : TypeId} {sz len : Nat} {zs : List Value} {ps : List (Nat × Operand)} (hx : elemOf E t = some (e, sz, zs)) (hl : len * sz ≤ 100000) :
    opW E (.buildSlice t len ⟨ps⟩) fr h K = evpK E fr ps fun l => bsK e sz zs len l h K := by
  obtain ⟨i, z, h1, h2, h3, h4, h5, h6, h7, h8⟩ := elemOf_some hx
  subst h4 h5
  rw [opW_alloc' rfl (by simp)]
  simp only [allocOp, operOf, evp, evpK, onV, bsK]
  cases mapOpt (fun (p : Nat × Operand) => (ev E fr p.2).map (p.1, ·)) ps with
  | none => simp
  | some l =>
    have hc : (Nat.ble (len * i.size) 100000 && Nat.beq z.cells.toList.length i.size && !Nat.beq i.size 0) = true := by
      simp only [Bool.and_eq_true, Bool.not_eq_true']
      exact ⟨⟨Nat.ble_eq_true_of_le hl, by rw [h6]; exact Nat.beq_refl _⟩, beq_ne h7⟩
    simp only [abuildSlice, h1, h2, h3, hc, cond_true, Option.some.injEq, exists_eq_left']
    cases fillL (fun k => some (k * i.size, i.size)) (rep len z.cells.toList) l <;> simp
theorem fillL_nil {f : Nat → Option (Nat × Nat)} {cs : List Value} : fillL f cs [] = some cs := rfl
theorem fillL_one {cs : List Value} {i : Nat} {v : Value} {ps : List (Nat × Value)} (hv : v.cells.toList = [v]) (hi : i < cs.length) : fillL (fun k => some (k * 1, 1)) cs ((i, v) :: ps) = fillL (fun k => some (k * 1, 1)) (cs.set i v) ps := by
  have ov : ∀ (cs : List Value) (i : Nat), i < cs.length → over cs i [v] = some (cs.set i v) := by
    intro cs
    induction cs with
    | nil => intro i h; simp at h
    | cons c cs ih =>
      intro i h
      rw [over, cond_beq]
      by_cases h0 : i = 0
      · subst h0; simp; cases cs <;> rfl
      · rw [if_neg h0, ih (i - 1) (by simp at h; omega)]
        obtain ⟨k, rfl⟩ := Nat.exists_eq_succ_of_ne_zero h0
        simp
  rw [fillL]
  simp only [hv, List.length_singleton, Nat.mul_one, ov cs i hi]
  rfl
/-- one element, of all its cells -/
theorem bs_one {e : TypeId} {sz : Nat} {zs l : List Value} {v : Value} (hv : v.cells.toList = l) (hl : l.length = sz) (hz : zs.length = sz) (h0 : sz ≠ 0) : bsK e sz zs 1 [(0, v)] h K = K (.slice (some ⟨h.n, 0, none⟩) 1 1) (newBlk h (.cells l e true)) := by
  have ov : ∀ (l cs : List Value), l.length = cs.length → over cs 0 l = some l := by
    intro l
    induction l with
    | nil => intro cs hc; cases cs <;> simp at hc; rfl
    | cons a l ih =>
      intro cs hc
      cases cs with
      | nil => simp at hc
      | cons c cs => simp only [over, Nat.beq_refl, cond_true, ih cs (by simpa using hc), Option.map_some]
  subst hv
  have hb : Nat.blt 0 sz = true := by rw [blt_eq]; simp; omega
  have hb2 : Nat.beq v.cells.toList.length sz = true := by rw [hl]; exact Nat.beq_refl _
  have : fillL (fun k => some (k * sz, sz)) (rep 1 zs) [(0, v)] = some v.cells.toList := by
    simp only [fillL, rep, List.append_nil, Nat.zero_mul, hb, hb2, cond_true, ov v.cells.toList zs (by omega)]
  unfold bsK
  rw [this, onV_some']

def appK (e : TypeId) (sz : Nat) (s y : Value) (h : Heap) (K : Value → Heap → Prop) [Tok K] : Prop :=
  match s, lenOf y with
  | .slice base sl sc, some n => ((sl + n ≤ 100000 ∧ (sl ≤ sc ∨ n ≠ 0)) ∧
      ((n = 0 → K (.slice base sl sc) h) ∧ (n ≠ 0 → onV (firstCells h sz n y) fun new => new.all oneCell = true ∧ onR (appendRow h e sz base sl sc n new) K)))
  | _, _ => False
def seqT (E : Env) (t : TypeId) : Bool := ((und E t).map isSeq) == some true
theorem opW_append {e : TypeId} {sz : Nat} {zs : List Value} (hx : elemOf E t = some (e, sz, zs)) (hs : seqT E t' = true) :
    opW E (.call ⟨.builtin .append, ⟨[x, y]⟩, ⟨[t, t']⟩⟩) fr h K = evK E fr x fun s => evK E fr y fun v => appK e sz s v h K := by
  obtain ⟨i, z, h1, h2, h3, h4, h5, h6, h7, h8⟩ := elemOf_some hx
  subst h4 h5
  have hs' : (und E t').map isSeq = some true := by simpa [seqT] using hs
  simp only [opW, opBy, valOp, flOp, qcall, operOf, kindOf, actOp, evs, mapOpt, evK, onV, appK]
  cases ev E fr x with
  | none => simp [onR]
  | some s =>
    cases ev E fr y with
    | none => simp [onR]
    | some v =>
      simp only [Option.some.injEq, exists_eq_left', aappend]
      cases s with
      | slice base sl sc =>
        simp only [h1, h2, hs']
        cases hlen : lenOf v with
        | none => simp [onR]
        | some n =>
          simp only
          rw [h3]
          simp only
          have e1 : Nat.beq z.cells.toList.length i.size = true := by rw [h6]; exact Nat.beq_refl _
          have e2 : Nat.beq i.size 0 = false := beq_ne h7
          have e3 : Nat.ble i.bytes 10000 = true := Nat.ble_eq_true_of_le h8
          rw [e1, e2, e3]
          simp only [Bool.not_false, Bool.true_and]
          by_cases c1 : sl + n ≤ 100000
          · by_cases c2 : sl ≤ sc ∨ n ≠ 0
            · have f1 : Nat.ble (sl + n) 100000 = true := Nat.ble_eq_true_of_le c1
              have f2 : (Nat.ble sl sc || !Nat.beq n 0) = true := by
                rcases c2 with c2 | c2
                · rw [Nat.ble_eq_true_of_le c2]; rfl
                · rw [beq_ne c2]; simp
              rw [f1, f2]
              simp only [Bool.and_self, cond_true, c1, c2, true_and]
              by_cases hn : n = 0
              · subst hn
                simp [onR_some]
              · have f3 : Nat.beq n 0 = false := beq_ne hn
                rw [f3]
                simp only [cond_false]
                cases firstCells h i.size n v with
                | none => simp [onR, hn]
                | some new =>
                  simp only [Option.some.injEq, exists_eq_left']
                  generalize new.all oneCell = b
                  cases b <;> simp [onR_none, hn]
            · have f2 : (Nat.ble sl sc || !Nat.beq n 0) = false := by
                have a1 : ¬ sl ≤ sc := fun a => c2 (.inl a)
                have a2 : n = 0 := by
                  by_cases hn : n = 0
                  · exact hn
                  · exact absurd (.inr hn) c2
                subst a2
                cases hb : Nat.ble sl sc with
                | true => exact absurd (Nat.le_of_ble_eq_true hb) a1
                | false => rfl
              rw [f2]
              simp [onR_none, c2]
          · have f1 : Nat.ble (sl + n) 100000 = false := by
              cases hb : Nat.ble (sl + n) 100000 with
              | true => exact absurd (Nat.le_of_ble_eq_true hb) c1
              | false => rfl
            rw [f1]
            simp [onR_none, c1]
      | _ => simp [onR]
/-- to a row of the call's own -/
theorem app_own {B : Nat} {e : TypeId} {sz n m : Nat} {s y : Value} {cs new : List Value} (o : OwnS B h e s n cs) (hB : B ≤ h.n) (hlen : cs.length = n * sz) (hy : lenOf y = some m) (hm : m ≠ 0) (hsz : n + m ≤ 100000)
    (hnew : firstCells h sz m y = some new) (hnl : new.length = m * sz) (hone : new.all oneCell = true) (hpos : sz ≠ 0)
    (k : ∀ v' h', OwnS B h' e v' (n + m) (cs ++ new) → ExtB B h h' → h'.n = h.n + 1 → K v' h') : appK e sz s y h K := by
  have pos : 0 < m * sz := Nat.mul_pos (by omega) (by omega)
  cases o with
  | nil =>
    simp only [appK, hy]
    refine ⟨⟨by omega, .inr hm⟩, fun h0 => absurd h0 hm, fun _ => ?_⟩
    rw [hnew, onV_some']
    refine ⟨hone, ?_⟩
    have : appendRow h e sz none 0 0 m new = some (.slice (some ⟨h.n, 0, none⟩) m UNK, newBlk h (.cells ([] ++ new) e false)) := by
      unfold appendRow
      have f1 : Nat.beq 0 UNK2 = false := rfl
      have f2 : Nat.beq 0 UNK = false := rfl
      have f3 : Nat.ble m 0 = false := by
        cases hb : Nat.ble m 0 with
        | true => have := Nat.le_of_ble_eq_true hb; omega
        | false => rfl
      simp only [f1, f2, cond_false, firstCells, Nat.beq_refl, cond_true, Nat.zero_add, f3]
    rw [this, onR_some]
    refine k _ _ ?_ (ExtB.new _ hB) rfl
    rw [Nat.zero_add]
    exact .row h.n m _ hB (by simp [newBlk]) (newBlk_same _ _)
  | emp i0 hi0 =>
    simp only [appK, hy]
    refine ⟨⟨by omega, .inr hm⟩, fun h0 => absurd h0 hm, fun _ => ?_⟩
    rw [hnew, onV_some']
    refine ⟨hone, ?_⟩
    have : appendRow h e sz (some ⟨i0, 0, none⟩) 0 0 m new = some (.slice (some ⟨h.n, 0, none⟩) m UNK, newBlk h (.cells ([] ++ new) e false)) := by
      unfold appendRow
      have f1 : Nat.beq 0 UNK2 = false := rfl
      have f2 : Nat.beq 0 UNK = false := rfl
      have f3 : Nat.ble m 0 = false := by
        cases hb : Nat.ble m 0 with
        | true => have := Nat.le_of_ble_eq_true hb; omega
        | false => rfl
      simp only [f1, f2, cond_false, firstCells, cellsAt, Nat.zero_mul, Nat.beq_refl, cond_true, Nat.zero_add, f3]
    rw [this, onR_some]
    refine k _ _ ?_ (ExtB.new _ hB) rfl
    rw [Nat.zero_add]
    exact .row h.n m _ hB (by simp [newBlk]) (newBlk_same _ _)
  | row i n cs h1 h2 h3 =>
    simp only [appK, hy]
    refine ⟨⟨by omega, .inr hm⟩, fun h0 => absurd h0 hm, fun _ => ?_⟩
    rw [hnew, onV_some']
    refine ⟨hone, ?_⟩
    have : appendRow h e sz (some ⟨i, 0, none⟩) n UNK m new = some (.slice (some ⟨h.n, 0, none⟩) (n + m) UNK, newBlk { h with b := h.b.set i .dead } (.cells (cs ++ new) e false)) := by
      unfold appendRow
      have f1 : Nat.beq UNK UNK2 = false := rfl
      have f2 : Nat.beq UNK UNK = true := Nat.beq_refl _
      have f3 : Nat.ble ((n + m) * sz) cs.length = false := by
        cases hb : Nat.ble ((n + m) * sz) cs.length with
        | true =>
          have := Nat.le_of_ble_eq_true hb
          rw [hlen, Nat.add_mul] at this
          omega
        | false => rfl
      have f4 : Nat.beq (n * sz) cs.length = true := by rw [hlen]; exact Nat.beq_refl _
      simp only [f1, f2, h3, cond_false, cond_true, Nat.beq_refl, f3, f4]
    rw [this, onR_some]
    refine k _ _ ?_ ?_ rfl
    · exact .row h.n (n + m) _ hB (by simp [newBlk]) (by simp [newBlk, T.get_set])
    · refine ⟨by simp [newBlk], fun j hj => ?_⟩
      simp only [newBlk]
      rw [T.get_set_ne _ _ (by omega), T.get_set_ne _ _ (by omega)]
end
end Go.Ev
namespace Go.Ev
section
variable {E : Env} {fr : Fr} {h : Heap} {K : Value → Heap → Prop} {x y : Operand} {t : TypeId}
theorem evK_global {g : Nat} {K : Value → Prop} (hg : Nat.blt g E.ng = true) : evK E fr (.global g) K = K (.pointer (some ⟨g, 0, none⟩)) := by simp [evK, ev, hg]
/-- a place of an array -/
def arrSz (E : Env) (t : TypeId) : Option (Nat × Nat) := match und E t with
  | some (.array n e) => (size E e).map fun s => (n, s)
  | _ => none
def idxAK (n sz : Nat) (x i : Value) (K : Value → Prop) [Tok K] : Prop := match x, i with
  | .pointer (some a), .int _ i => (0 ≤ i ∧ i < (n : Int)) ∧ K (.pointer (some (a.add (i.toNat * sz))))
  | _, _ => False
theorem opW_indexAddrA {n sz : Nat} (ht : arrSz E t = some (n, sz)) : opW E (.indexAddr t x y) fr h K = evK E fr x fun v => evK E fr y fun i => idxAK n sz v i fun u => K u h := by
  rw [opW_pure rfl (by simp)]
  simp only [pureOp, operOf, evK, onV, idxAK]
  cases ev E fr x with
  | none => simp
  | some v =>
    cases ev E fr y with
    | none => simp
    | some i =>
      simp only [aindexAddr]
      unfold arrSz at ht
      cases hu : und E t with
      | none => rw [hu] at ht; cases ht
      | some d =>
        rw [hu] at ht
        cases d with
        | array m e =>
          simp only [Option.map_eq_some_iff, Prod.mk.injEq] at ht
          obtain ⟨s, hs, rfl, rfl⟩ := ht
          cases v with
          | pointer a =>
            cases a with
            | none => simp
            | some a =>
              cases i with
              | int k i =>
                simp only [hs]
                by_cases h0 : 0 ≤ i
                · by_cases h1 : i < (m : Int) <;> simp [h0, h1]
                · simp [h0]
              | _ => simp
          | _ => simp
        | _ => simp at ht
theorem idxA_some {n sz : Nat} {a : Addr} {k : IntKind} {i : Int} {K : Value → Prop} : idxAK n sz (.pointer (some a)) (.int k i) K = ((0 ≤ i ∧ i < (n : Int)) ∧ K (.pointer (some (a.add (i.toNat * sz))))) := Eq.trans rfl rfl
theorem eqStr_dec (a b : ByteArray) : eqStr a b = decide (a = b) := by
  rw [Bool.eq_iff_iff, decide_eq_true_eq]
  simp only [eqStr, beq_iff_eq]
  constructor
  · intro h
    have : ∀ (x y : List UInt8), x.map (·.toNat) = y.map (·.toNat) → x = y := by
      intro x
      induction x with
      | nil => intro y h; cases y <;> simp at h; rfl
      | cons c x ih =>
        intro y h
        cases y with
        | nil => simp at h
        | cons d y => simp only [List.map_cons, List.cons.injEq] at h; rw [ih y h.2, UInt8.toNat_inj.1 h.1]
    have := this _ _ h
    cases a; cases b
    simp only at this
    congr 1
    exact Array.toList_inj.1 this
  · intro h; rw [h]
section
variable {c : Bool} {a b : ByteArray} {K : Value → Prop}
theorem bin_eqlS : binK E .eql t c (.string a) (.string b) K = brK (a = b) (K (.bool true)) (K (.bool false)) := by
  by_cases hp : a = b
  · rw [show (a = b) = True from eq_true hp, brK_true]; simp [binK, abin, eqStr_dec, hp]
  · rw [show (a = b) = False from eq_false hp, brK_false]; simp [binK, abin, eqStr_dec, hp]
theorem bin_neqS : binK E .neq t c (.string a) (.string b) K = brK (a = b) (K (.bool false)) (K (.bool true)) := by
  by_cases hp : a = b
  · rw [show (a = b) = True from eq_true hp, brK_true]; simp [binK, abin, eqStr_dec, hp]
  · rw [show (a = b) = False from eq_false hp, brK_false]; simp [binK, abin, eqStr_dec, hp]
end
/-- aggregates -/
theorem bin_neqA {c : Bool} {xs ys : List Value} {K : Value → Prop} {b : Bool} (hp : plainKey E 20 t = true) (he : aeq E 100 t (.agg ⟨xs⟩) (.agg ⟨ys⟩) = some b) : binK E .neq t c (.agg ⟨xs⟩) (.agg ⟨ys⟩) K = K (.bool (!b)) := by
  simp [binK, abin, hp, he]
theorem bin_eqlA {c : Bool} {xs ys : List Value} {K : Value → Prop} {b : Bool} (hp : plainKey E 20 t = true) (he : aeq E 100 t (.agg ⟨xs⟩) (.agg ⟨ys⟩) = some b) : binK E .eql t c (.agg ⟨xs⟩) (.agg ⟨ys⟩) K = K (.bool b) := by
  simp [binK, abin, hp, he]
def bindB (r k : Option Bool) : Option Bool := match r with
  | some true => k
  | r => r
theorem bindB_some {a b : Bool} : bindB (some a) (some b) = some (a && b) := by cases a <;> rfl
theorem beqI (a b : Int) : (a == b) = decide (a = b) := rfl
section
variable {c : Bool} {xs ys : List Value} {K : Value → Prop} {p : Prop} [Decidable p]
theorem bin_neqP (hp : plainKey E 20 t = true) (he : aeq E 100 t (.agg ⟨xs⟩) (.agg ⟨ys⟩) = some (decide p)) : binK E .neq t c (.agg ⟨xs⟩) (.agg ⟨ys⟩) K = brK p (K (.bool false)) (K (.bool true)) := by
  rw [bin_neqA hp he]
  by_cases h : p
  · rw [decide_eq_true h, eq_true h, brK_true]; simp
  · rw [decide_eq_false h, eq_false h, brK_false]; simp
theorem bin_eqlP (hp : plainKey E 20 t = true) (he : aeq E 100 t (.agg ⟨xs⟩) (.agg ⟨ys⟩) = some (decide p)) : binK E .eql t c (.agg ⟨xs⟩) (.agg ⟨ys⟩) K = brK p (K (.bool true)) (K (.bool false)) := by
  rw [bin_eqlA hp he]
  by_cases h : p
  · rw [decide_eq_true h, eq_true h, brK_true]
  · rw [decide_eq_false h, eq_false h, brK_false]
end
theorem cellAt_newE {cs : List Value} {e : TypeId} {b : Bool} {off : Nat} : cellAt (newBlk h (.cells cs e b)) ⟨h.n, off, none⟩ = cs[off]? := by
  by_cases hlt : off < cs.length
  · rw [List.getElem?_eq_getElem hlt]
    exact cellAt_new (List.getElem?_eq_getElem hlt)
  · rw [List.getElem?_eq_none (by omega)]
    unfold cellAt cellsAt
    have h1 : Nat.blt h.n (newBlk h (.cells cs e b)).n = true := by simp [blt_eq, newBlk]
    simp only [show Nat.beq 1 0 = false from rfl, cond_false, h1, cond_true, newBlk_same, dropN_eq]
    rw [List.drop_eq_nil_of_le (by omega)]
    rfl
theorem cellsAt_newE {cs : List Value} {e : TypeId} {b : Bool} {n : Nat} (hn : cs.length = n) : cellsAt (newBlk h (.cells cs e b)) ⟨h.n, 0, none⟩ n = some cs :=
  cellsAt_blk (by simp [newBlk]) (newBlk_same _ _) (by simp [← hn]) hn
theorem cellAt_newO {k : Blk} {i off : Nat} (hi : i < h.n) : cellAt (newBlk h k) ⟨i, off, none⟩ = cellAt h ⟨i, off, none⟩ := by
  have hi' : i < (newBlk h k).n := by simp [newBlk]; omega
  unfold cellAt cellsAt
  simp only [newBlk_old k hi, blt_eq, hi, hi', decide_true, cond_true]
theorem cellsAt_newO {k : Blk} {i off n : Nat} (hi : i < h.n) : cellsAt (newBlk h k) ⟨i, off, none⟩ n = cellsAt h ⟨i, off, none⟩ n := by
  have hi' : i < (newBlk h k).n := by simp [newBlk]; omega
  unfold cellsAt
  simp only [newBlk_old k hi, blt_eq, hi, hi', decide_true, cond_true]

theorem flat_drop {sz : Nat} : ∀ (rows : List (List Value)) (i : Nat), (∀ r ∈ rows, r.length = sz) → ∀ (hi : i < rows.length), (rows.flatten.drop (i * sz)).take sz = rows[i]
  | r :: rows, 0, hl, _ => by
    have := hl r (List.mem_cons_self ..)
    simp [← this]
  | r :: rows, i + 1, hl, hi => by
    have h1 := hl r (List.mem_cons_self ..)
    have := flat_drop rows i (fun r hr => hl r (List.mem_cons_of_mem _ hr)) (by simpa using hi)
    rw [List.flatten_cons, List.drop_append, show (i + 1) * sz - r.length = i * sz by rw [h1, Nat.add_mul]; omega, List.drop_eq_nil_of_le (by rw [h1, Nat.add_mul]; omega)]
    simpa using this
theorem flat_len {sz : Nat} : ∀ (rows : List (List Value)), (∀ r ∈ rows, r.length = sz) → rows.flatten.length = rows.length * sz
  | [], _ => by simp
  | r :: rows, hl => by
    have h1 := hl r (List.mem_cons_self ..)
    have := flat_len rows (fun r hr => hl r (List.mem_cons_of_mem _ hr))
    rw [List.flatten_cons, List.length_append, this, h1, List.length_cons, Nat.add_mul]
    omega
/-- a row of the call's own, to be read -/
theorem OwnS.rowAt {B : Nat} {e : TypeId} {v : Value} {n sz : Nat} {rows : List (List Value)} (o : OwnS B h e v n rows.flatten) (hl : ∀ r ∈ rows, r.length = sz) (hn : n = rows.length) :
    ∃ a c, v = .slice a rows.length c ∧ RowAt h.n h a sz rows := by
  subst hn
  generalize hcs : rows.flatten = cs at o
  generalize hm : rows.length = m at o ⊢
  cases o with
  | nil =>
    refine ⟨none, 0, by rw [show (0 : Nat) = 0 from rfl], fun i hi => ?_⟩
    omega
  | emp i0 hi0 =>
    refine ⟨some ⟨i0, 0, none⟩, 0, by rw [show (0 : Nat) = 0 from rfl], fun i hi => ?_⟩
    omega
  | row i m cs h1 h2 h3 =>
    subst hcs
    refine ⟨_, _, rfl, fun j hj => ⟨i, 0, rfl, h2, ?_⟩⟩
    exact cellsAt_blk h2 h3 (by rw [Nat.zero_add]; exact flat_drop rows j hl hj) (hl _ (List.getElem_mem _))
theorem st_newM {n : Nat} {cs l : List Value} {e : TypeId} {b : Bool} (hc : (Nat.beq l.length n && Nat.beq cs.length n && l.all oneCell && !Nat.beq n 0) = true) (k : K undef (newBlk h (.cells l e b))) :
    stK n (.pointer (some ⟨h.n, 0, none⟩)) (.agg ⟨l⟩) (newBlk h (.cells cs e b)) K := by
  simp only [Bool.and_eq_true, Bool.not_eq_true'] at hc
  rw [st_new (Nat.eq_of_beq_eq_true hc.1.1.1) (Nat.eq_of_beq_eq_true hc.1.1.2) hc.1.2 (Nat.ne_of_beq_eq_false hc.2)]
  exact k
theorem bs_oneM {e : TypeId} {sz : Nat} {zs : List Value} {v : Value} (hc : (Nat.beq v.cells.toList.length sz && Nat.beq zs.length sz && !Nat.beq sz 0) = true) (k : K (.slice (some ⟨h.n, 0, none⟩) 1 1) (newBlk h (.cells v.cells.toList e true))) : bsK e sz zs 1 [(0, v)] h K := by
  simp only [Bool.and_eq_true, Bool.not_eq_true'] at hc
  rw [bs_one rfl (Nat.eq_of_beq_eq_true hc.1.1) (Nat.eq_of_beq_eq_true hc.1.2) (Nat.ne_of_beq_eq_false hc.2)]
  exact k
/-- one element more, just laid -/
theorem app_one {B : Nat} {e : TypeId} {sz n j : Nat} {s : Value} {cs new : List Value} {h1 : Heap} (o : OwnS B h1 e s n cs) (hB : B ≤ h1.n) (hlen : cs.length = n * sz) (hsz : n + 1 ≤ 100000)
    (hnl : new.length = sz) (hone : new.all oneCell = true) (hpos : sz ≠ 0) (hj : j = h1.n)
    (k : ∀ v' h', OwnS B h' e v' (n + 1) (cs ++ new) → ExtB B h1 h' → K v' h') : appK e sz s (.slice (some ⟨j, 0, none⟩) 1 1) (newBlk h1 (.cells new e true)) K := by
  subst hj
  refine app_own (o.new _) (Nat.le_trans hB (Nat.le_succ _)) hlen (m := 1) rfl (by decide) hsz (new := new) ?_ (by omega) hone hpos fun v' h' o' x' _ => k v' h' o' ((ExtB.new _ hB).trans x')
  simp only [firstCells, Nat.one_mul]
  exact cellsAt_newE hnl
theorem bs_of {e : TypeId} {sz len : Nat} {zs l : List Value} {ps : List (Nat × Value)} (hf : fillL (fun k => some (k * sz, sz)) (rep len zs) ps = some l) (k : K (.slice (some ⟨h.n, 0, none⟩) len len) (newBlk h (.cells l e true))) : bsK e sz zs len ps h K := by
  unfold bsK; rw [hf, onV_some']; exact k
end
end Go.Ev
