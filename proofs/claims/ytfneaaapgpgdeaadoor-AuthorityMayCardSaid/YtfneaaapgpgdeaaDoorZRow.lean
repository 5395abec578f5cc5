/- THE EVALUATOR, part 'Row': a deterministic reading of the program's code over an abstract heap, and that the model does what it says. Conditions: none beyond each theorem's own. -/
import Derived.Test.YtfneaaapgpgdeaaDoorZN
import Derived.ProofKit
import Derived.OpenVars
import Derived.OpenShut
import Derived.SizedLaws
set_option linter.unusedSimpArgs false
set_option linter.unusedVariables false
namespace Go.Ev
open Go.RowKit
/-! what comes in, by its types: the leaves of a type -/
inductive Leaf where
  | int (k : IntKind)
  | flt (k : FloatKind)
  | bool
  | str
  | slc (e : TypeId)
def flatFs (g : TypeId → Option (List Leaf)) (sz : TypeId → Nat) : List Field → Nat → Option (List Leaf)
  | [], _ => some []
  | f :: fs, off => match g f.type with
    | some l => cond (Nat.beq f.offset off && Nat.beq (sz f.type) l.length) ((flatFs g sz fs (off + l.length)).map (l ++ ·)) none
    | none => none
def flat (P : Program) : Nat → TypeId → Option (List Leaf)
  | 0, _ => none
  | n + 1, t => match P.underlying t with
    | some (.int k) => some [.int k]
    | some (.float k) => some [.flt k]
    | some .bool => some [.bool]
    | some .string => some [.str]
    | some (.slice e) => cond (Nat.blt 0 (P.cellsOf e)) (some [.slc e]) none
    | some (.array m e) => match flat P n e with
      | some l => cond (Nat.beq (P.cellsOf e) l.length && Nat.beq (P.cellsOf t) (m * l.length) && Nat.blt 0 l.length) (some (rep m l)) none
      | none => none
    | some (.struct fs) => match flatFs (flat P n) P.cellsOf fs.toList 0 with
      | some l => cond (Nat.beq (P.cellsOf t) l.length) (some l) none
      | none => none
    | _ => none

section
variable {H : Type} {enc : TypeId × Value → H} {P : Program} {W : World}
/-- no slice and no string within is too great -/
def WT (P : Program) (t : TypeId) (d : DataW H) : Prop := ∀ n ∈ d.weights P t, n ≤ reachBytes
theorem weightsAll_mem {e : TypeId} {n : Nat} : ∀ {l : List (DataW H)} {d : DataW H}, d ∈ l → n ∈ d.weights P e → n ∈ DataW.weightsAll P e l
  | d0 :: l, d, hd, hn => by
    simp only [DataW.weightsAll, List.mem_append]
    rcases List.mem_cons.1 hd with rfl | hd
    · exact .inl hn
    · exact .inr (weightsAll_mem hd hn)
  | [], _, hd, _ => by cases hd
theorem WT.of {ts : List TypeId} {ds : List (DataW H)} (h : (DataW.weightsEach P ts ds).all (· ≤ reachBytes) = true) {j : Nat} {t : TypeId} {d : DataW H} (ht : ts[j]? = some t) (hd : ds[j]? = some d) : WT P t d := fun n hn => by
  simpa using List.all_eq_true.1 h _ (DataW.weights_mem_each ht hd n hn)
def SliceOK (enc : TypeId × Value → H) (P : Program) (W : World) (e : TypeId) (v : Value) : Prop :=
  v = .slice none 0 0 ∨ ∃ a len cap, v = .slice (some a) len cap ∧ len ≤ cap ∧ cap ≤ maxLen ∧ 0 < P.cellsOf e ∧ cap * P.bytesOf e ≤ reachBytes ∧ ∀ i, i < cap → ∃ cs fuel x, W.cells? 0 (a.add (i * P.cellsOf e)) (P.cellsOf e) = some cs ∧ DataW.trod enc P W 0 (fun _ => true) true fuel e cs = some x ∧ WT P e x.1
def LeafOK (enc : TypeId × Value → H) (P : Program) (W : World) : Leaf → Value → Prop
  | .int k, v => ∃ n, v = .int k n ∧ (Lit.int k n).wf = true
  | .flt k, v => ∃ n, v = .float k n ∧ (Lit.float k n).wf = true
  | .bool, v => ∃ b, v = .bool b
  | .str, v => ∃ s, v = .string s ∧ s.size ≤ maxLen
  | .slc e, v => SliceOK enc P W e v
def Leafs (R : Leaf → Value → Prop) (ls : List Leaf) (vs : List Value) : Prop := vs.length = ls.length ∧ ∀ (i : Nat) (l : Leaf) (v : Value), ls[i]? = some l → vs[i]? = some v → R l v
theorem Leafs.one {R : Leaf → Value → Prop} {l : Leaf} {v : Value} (h : R l v) : Leafs R [l] [v] := ⟨rfl, fun i l' v' h1 h2 => by
  cases i with
  | zero => simp at h1 h2; subst h1 h2; exact h
  | succ i => simp at h1⟩
theorem Leafs.append {R : Leaf → Value → Prop} {l1 l2 : List Leaf} {v1 v2 : List Value} (a : Leafs R l1 v1) (b : Leafs R l2 v2) : Leafs R (l1 ++ l2) (v1 ++ v2) := ⟨by simp [a.1, b.1], fun i l v h1 h2 => by
  rw [List.getElem?_append] at h1 h2
  by_cases hi : i < l1.length
  · rw [if_pos hi] at h1; rw [if_pos (by rw [a.1]; exact hi)] at h2; exact a.2 i l v h1 h2
  · rw [if_neg hi] at h1; rw [if_neg (by rw [a.1]; exact hi), a.1] at h2; exact b.2 _ l v h1 h2⟩

theorem flatFs_ok {R : Leaf → Value → Prop} {g : TypeId → Option (List Leaf)} {sz : TypeId → Nat} {cs : List Value} : ∀ (fs : List Field) (off : Nat) (ls : List Leaf), flatFs g sz fs off = some ls →
    (∀ f ∈ fs, ∀ l, g f.type = some l → Leafs R l ((cs.drop f.offset).take (sz f.type))) → Leafs R ls ((cs.drop off).take ls.length)
  | [], off, ls, h, _ => by simp only [flatFs, Option.some.injEq] at h; subst h; exact ⟨by simp, fun i l v h1 _ => by simp at h1⟩
  | f :: fs, off, ls, h, hf => by
    simp only [flatFs] at h
    split at h
    · rename_i l hl
      cases hc : (Nat.beq f.offset off && Nat.beq (sz f.type) l.length) with
      | false => rw [hc] at h; cases h
      | true =>
        rw [hc] at h
        simp only [cond_true, Option.map_eq_some_iff] at h
        obtain ⟨l2, h2, rfl⟩ := h
        simp only [Bool.and_eq_true] at hc
        have e1 := Nat.eq_of_beq_eq_true hc.1
        have e2 := Nat.eq_of_beq_eq_true hc.2
        have h1 := hf f (List.mem_cons_self ..) l hl
        have h3 := flatFs_ok fs _ l2 h2 fun f' hm => hf f' (List.mem_cons_of_mem _ hm)
        rw [e1, e2] at h1
        have := h1.append h3
        rw [List.length_append, List.take_add, List.drop_drop]
        exact this
    · cases h
theorem leafs_rep {R : Leaf → Value → Prop} {l : List Leaf} : ∀ (m : Nat) (cs : List Value), cs.length = m * l.length → (∀ i, i < m → Leafs R l ((cs.drop (i * l.length)).take l.length)) → Leafs R (rep m l) cs
  | 0, cs, hl, _ => by
    have : cs = [] := List.length_eq_zero_iff.1 (by omega)
    subst this
    exact ⟨rfl, fun i l' v h1 _ => by simp [rep] at h1⟩
  | m + 1, cs, hl, h => by
    rw [Nat.add_mul, Nat.one_mul] at hl
    have h0 := h 0 (by omega)
    rw [Nat.zero_mul, List.drop_zero] at h0
    have h1 := leafs_rep (R := R) (l := l) m (cs.drop l.length) (by rw [List.length_drop]; omega) fun i hi => by
      have := h (i + 1) (by omega)
      rw [List.drop_drop, show l.length + i * l.length = (i + 1) * l.length by rw [Nat.add_mul]; omega]
      exact this
    have := h0.append h1
    rw [List.take_append_drop] at this
    exact this
theorem flat_ok : ∀ (n : Nat) (t : TypeId) (ls : List Leaf) (fuel : Nat) (cs : List Value) (x : DataW H × List MemPlace), flat P n t = some ls → DataW.trod enc P W 0 (fun _ => true) true fuel t cs = some x → WT P t x.1 → Leafs (LeafOK enc P W) ls cs
  | 0, _, _, _, _, _, h, _, _ => by simp [flat] at h
  | n + 1, t, ls, fuel, cs, x, h, hd, hw => by
    simp only [flat] at h
    cases hu : P.underlying t with
    | none => rw [hu] at h; cases h
    | some d =>
      rw [hu] at h
      cases d with
      | int k =>
        simp only [Option.some.injEq] at h; subst h
        obtain ⟨m, rfl, _, hw2⟩ := DataW.trod_int hu hd
        exact .one ⟨m, rfl, hw2⟩
      | float k =>
        simp only [Option.some.injEq] at h; subst h
        cases fuel with
        | zero => simp [DataW.trod] at hd
        | succ f =>
          unfold DataW.trod at hd
          rw [hu] at hd
          split at hd <;> simp_all
          exact .one ⟨_, rfl, hd.1.2⟩
      | bool =>
        simp only [Option.some.injEq] at h; subst h
        cases fuel with
        | zero => simp [DataW.trod] at hd
        | succ f =>
          unfold DataW.trod at hd
          rw [hu] at hd
          split at hd <;> simp_all
          exact .one ⟨_, rfl⟩
      | string =>
        simp only [Option.some.injEq] at h; subst h
        obtain ⟨s, rfl, _, hw2⟩ := DataW.trod_string hu hd
        exact .one ⟨s, rfl, hw2⟩
      | slice e =>
        simp only at h
        cases hp : Nat.blt 0 (P.cellsOf e) with
        | false => rw [hp] at h; cases h
        | true =>
          rw [hp] at h
          simp only [cond_true, Option.some.injEq] at h; subst h
          rw [blt_eq, decide_eq_true_eq] at hp
          rcases DataW.trod_slice hu hd with ⟨rfl, _⟩ | ⟨a, len, cap, elems, rest, m, _, rfl, hx, _, h1, h2, h3, h4, h5, _⟩
          · exact .one (.inl rfl)
          · obtain ⟨h6, h7⟩ := h5 rfl
            subst hx
            have wall : ∀ y, y ∈ elems ∨ y ∈ rest → WT P e y.1 := fun y hy k hk => hw k (by
              simp only [DataW.weights, hu, List.mem_cons, List.mem_append]
              rcases hy with hy | hy
              · exact .inr (.inl (weightsAll_mem (List.mem_map.2 ⟨y, hy, rfl⟩) hk))
              · exact .inr (.inr (weightsAll_mem (List.mem_map.2 ⟨y, hy, rfl⟩) hk)))
            refine .one (.inr ⟨a, len, cap, rfl, h1, h2, hp, ?_, fun i hi => ?_⟩)
            · refine hw _ ?_
              simp only [DataW.weights, hu, List.mem_cons, List.length_map]
              left; rw [show elems.length + rest.length = cap by omega]
            by_cases hil : i < len
            · have := h4 i hil
              rw [List.getElem?_eq_getElem (by omega), Option.bind_eq_some_iff] at this
              obtain ⟨cs, c1, c2⟩ := this
              exact ⟨cs, m, _, c1, c2, wall _ (.inl (List.getElem_mem _))⟩
            · have := h7 (i - len) (by omega)
              rw [List.getElem?_eq_getElem (by omega), Option.bind_eq_some_iff, show len + (i - len) = i by omega] at this
              obtain ⟨cs, c1, c2⟩ := this
              exact ⟨cs, m, _, c1, c2, wall _ (.inr (List.getElem_mem _))⟩
      | array m e =>
        simp only at h
        split at h
        · rename_i l hl
          cases hb : (Nat.beq (P.cellsOf e) l.length && Nat.beq (P.cellsOf t) (m * l.length) && Nat.blt 0 l.length) with
          | false => rw [hb] at h; cases h
          | true =>
            rw [hb] at h
            simp only [cond_true, Option.some.injEq] at h; subst h
            simp only [Bool.and_eq_true] at hb
            have h1 := Nat.eq_of_beq_eq_true hb.1.1
            have h2 := Nat.eq_of_beq_eq_true hb.1.2
            obtain ⟨xs, m', _, hx, hlen, hn, hel⟩ := DataW.trod_array hu hd
            subst hx
            refine leafs_rep m cs (by rw [hlen, h2]) fun i hi => ?_
            have := hel i hi
            rw [List.getElem?_eq_getElem (by omega), h1] at this
            exact flat_ok n e l m' _ _ hl this fun k hk => hw k (by
              simp only [DataW.weights, hu]
              exact weightsAll_mem (List.mem_map.2 ⟨_, List.getElem_mem _, rfl⟩) hk)
        · cases h
      | struct fs =>
        simp only at h
        split at h
        · rename_i l hl
          cases hb : Nat.beq (P.cellsOf t) l.length with
          | false => rw [hb] at h; cases h
          | true =>
            rw [hb] at h
            simp only [cond_true, Option.some.injEq] at h; subst h
            have hlen := Nat.eq_of_beq_eq_true hb
            obtain ⟨xs, m, _, hx, h1, h2, h3⟩ := DataW.trod_struct hu hd
            subst hx
            have := flatFs_ok (R := LeafOK enc P W) (cs := cs) fs.toList 0 l hl fun f hm lf hlf => by
              obtain ⟨i, hi, e⟩ := List.getElem_of_mem hm
              have := h3 i f (by rw [← Array.getElem?_toList, List.getElem?_eq_getElem hi, e])
              rw [List.getElem?_eq_getElem (by rw [h2]; simpa using hi)] at this
              exact flat_ok n f.type lf m _ _ hlf this fun k hk => hw k (by
                simp only [DataW.weights, hu]
                refine DataW.weights_mem_each (j := i) (t := f.type) ?_ ?_ k hk
                · rw [List.getElem?_map, List.getElem?_eq_getElem hi, e]; rfl
                · rw [List.getElem?_map, List.getElem?_eq_getElem (by rw [h2]; simpa using hi)]; rfl)
            rw [List.drop_zero, List.take_of_length_le (by omega)] at this
            exact this
        · cases h
      | _ => cases h

/-! the same, as the evaluator sees it -/
/-- how a slice that came in looks -/
def SlF (a : Option Addr) (len cap : Nat) : Prop := (a = none ∧ len = 0 ∧ cap = 0) ∨ (∃ b off, a = some ⟨b, off, none⟩) ∧ ((len = 0 ∧ cap = UNK2) ∨ (len ≤ cap ∧ cap < UNK))
def LeafU (P : Program) (W : World) : Nat → Leaf → Value → Prop
  | _, .int k, u => ∃ n, u = .int k n ∧ (Lit.int k n).wf = true
  | _, .flt k, u => ∃ n, u = .float k n ∧ (Lit.float k n).wf = true
  | _, .bool, u => ∃ b, u = .bool b
  | _, .str, u => ∃ s, u = .string s ∧ s.size ≤ maxLen
  | 0, .slc e, u => ∃ a len cap, u = .slice a len cap ∧ len * P.bytesOf e ≤ reachBytes ∧ SlF a len cap
  | d + 1, .slc e, u => ∃ a len cap, u = .slice a len cap ∧ len * P.bytesOf e ≤ reachBytes ∧ SlF a len cap ∧ ∀ n ls, flat P n e = some ls → P.cellsOf e = ls.length → ∃ rows : List (List Value), rows.length = len ∧ RowAt W.heap.size (heapOf W) a ls.length rows ∧ ∀ r ∈ rows, Leafs (LeafU P W d) ls r

theorem exists_rows {α : Type} {Q : Nat → α → Prop} : ∀ (n : Nat), (∀ i, i < n → ∃ r, Q i r) → ∃ rows : List α, rows.length = n ∧ ∀ i (h : i < rows.length), Q i rows[i]
  | 0, _ => ⟨[], rfl, fun i h => by simp at h⟩
  | n + 1, h => by
    obtain ⟨rows, h1, h2⟩ := exists_rows n fun i hi => h i (Nat.lt_succ_of_lt hi)
    obtain ⟨r, hr⟩ := h n (Nat.lt_succ_self n)
    refine ⟨rows ++ [r], by simp [h1], fun i hi => ?_⟩
    rw [List.getElem_append]
    by_cases hlt : i < rows.length
    · rw [dif_pos hlt]; exact h2 i hlt
    · rw [dif_neg hlt]
      have : i = n := by simp at hi; omega
      subst this
      simpa using hr

theorem cell_lt {a : Addr} {v : Value} (h : W.cell? a = some v) : a.block < W.heap.size ∧ a.spot = none := by
  unfold World.cell? at h
  split at h
  · rename_i c e f hb
    refine ⟨(Array.getElem?_eq_some_iff.1 hb).1, ?_⟩
    cases hs : a.spot with
    | none => rfl
    | some s => rw [hs] at h; simp at h
  · cases h
theorem add0 (a : Addr) : a.add 0 = a := by simp [Addr.add]
theorem leaf_abs : ∀ (d : Nat) (l : Leaf) (v : Value), LeafOK enc P W l v → ∃ u, absV W.heap.size v = some u ∧ LeafU P W d l u := by
  intro d
  induction d with
  | zero =>
    intro l v h
    cases l with
    | int k => obtain ⟨n, rfl, hw⟩ := h; exact ⟨_, rfl, n, rfl, hw⟩
    | flt k => obtain ⟨n, rfl, hw⟩ := h; exact ⟨_, rfl, n, rfl, hw⟩
    | bool => obtain ⟨b, rfl⟩ := h; exact ⟨_, rfl, b, rfl⟩
    | str => obtain ⟨s, rfl, hw⟩ := h; exact ⟨_, rfl, s, rfl, hw⟩
    | slc e =>
      rcases h with rfl | ⟨a, len, cap, rfl, h1, h2, h3, hwt, h4⟩
      · exact ⟨_, rfl, none, 0, 0, rfl, (by rw [Nat.zero_mul]; exact Nat.zero_le _), .inl ⟨rfl, rfl, rfl⟩⟩
      · by_cases h0 : len = 0 ∧ cap = 0
        · obtain ⟨rfl, rfl⟩ := h0
          exact ⟨_, rfl, _, _, _, rfl, (by rw [Nat.zero_mul]; exact Nat.zero_le _), .inr ⟨⟨_, _, rfl⟩, .inl ⟨rfl, rfl⟩⟩⟩
        · obtain ⟨cs, f, x, c1, _, _⟩ := h4 0 (by omega)
          obtain ⟨_, c2, c3⟩ := World.cells?_some c1
          have c4 := c3 0 h3
          rw [List.getElem?_eq_getElem (by omega)] at c4
          rw [Nat.zero_mul, add0, add0] at c4
          obtain ⟨c5, c6⟩ := cell_lt c4
          have hc : cap < UNK := by unfold UNK; unfold maxLen at h2; omega
          refine ⟨.slice (some a) len cap, ?_, _, _, _, rfl, (Nat.le_trans (Nat.mul_le_mul_right _ h1) hwt), .inr ⟨⟨a.block, a.off, by rw [← c6]⟩, .inr ⟨h1, hc⟩⟩⟩
          have hk : okV0 W.heap.size (.slice (some a) len cap) = true := by simp [okV0, c6, blt_eq, c5, hc]
          unfold absV
          split
          · rename_i e1; cases e1; exact absurd ⟨rfl, rfl⟩ h0
          · rw [hk]; rfl
  | succ d ih =>
    intro l v h
    cases l with
    | int k => obtain ⟨n, rfl, hw⟩ := h; exact ⟨_, rfl, n, rfl, hw⟩
    | flt k => obtain ⟨n, rfl, hw⟩ := h; exact ⟨_, rfl, n, rfl, hw⟩
    | bool => obtain ⟨b, rfl⟩ := h; exact ⟨_, rfl, b, rfl⟩
    | str => obtain ⟨s, rfl, hw⟩ := h; exact ⟨_, rfl, s, rfl, hw⟩
    | slc e =>
      rcases h with rfl | ⟨a, len, cap, rfl, h1, h2, h3, hwt, h4⟩
      · exact ⟨_, rfl, none, 0, 0, rfl, (by rw [Nat.zero_mul]; exact Nat.zero_le _), .inl ⟨rfl, rfl, rfl⟩, fun n ls _ _ => ⟨[], rfl, fun i hi => by simp at hi, fun r hr => by simp at hr⟩⟩
      · by_cases h0 : len = 0 ∧ cap = 0
        · obtain ⟨rfl, rfl⟩ := h0
          exact ⟨_, rfl, _, _, _, rfl, (by rw [Nat.zero_mul]; exact Nat.zero_le _), .inr ⟨⟨_, _, rfl⟩, .inl ⟨rfl, rfl⟩⟩, fun n ls _ _ => ⟨[], rfl, fun i hi => by simp at hi, fun r hr => by simp at hr⟩⟩
        · have hblk : a.block < W.heap.size ∧ a.spot = none := by
            obtain ⟨cs, f, x, c1, _, _⟩ := h4 0 (by omega)
            obtain ⟨_, c2, c3⟩ := World.cells?_some c1
            have c4 := c3 0 h3
            rw [List.getElem?_eq_getElem (by omega)] at c4
            rw [Nat.zero_mul, add0, add0] at c4
            exact cell_lt c4
          obtain ⟨c5, c6⟩ := hblk
          have hc : cap < UNK := by unfold UNK; unfold maxLen at h2; omega
          refine ⟨.slice (some a) len cap, ?_, _, _, _, rfl, (Nat.le_trans (Nat.mul_le_mul_right _ h1) hwt), .inr ⟨⟨a.block, a.off, by rw [← c6]⟩, .inr ⟨h1, hc⟩⟩, fun n ls hf hl => ?_⟩
          · have hc := hc
            have hk : okV0 W.heap.size (.slice (some a) len cap) = true := by simp [okV0, c6, blt_eq, c5, hc]
            unfold absV
            split
            · rename_i e1; cases e1; exact absurd ⟨rfl, rfl⟩ h0
            · rw [hk]; rfl
          · obtain ⟨b, off, spot⟩ := a
            simp only at c5 c6
            subst c6
            have each : ∀ i, i < len → ∃ row : List Value, cellsAt (heapOf W) ⟨b, off + i * ls.length, none⟩ ls.length = some row ∧ Leafs (LeafU P W d) ls row := by
              intro i hi
              obtain ⟨cs, f, x, c1, c2, c3⟩ := h4 i (by omega)
              have hlf := flat_ok n e ls f cs x hf c2 c3
              obtain ⟨_, k2, k3⟩ := World.cells?_some c1
              obtain ⟨row, r1, r2⟩ := exists_rows (Q := fun j u => ∃ l v, ls[j]? = some l ∧ cs[j]? = some v ∧ absV W.heap.size v = some u ∧ LeafU P W d l u) ls.length fun j hj => by
                have e1 : ls[j]? = some (ls[j]) := List.getElem?_eq_getElem hj
                have e2 : cs[j]? = some (cs[j]'(by have := hlf.1; omega)) := List.getElem?_eq_getElem _
                obtain ⟨u, u1, u2⟩ := ih _ _ (hlf.2 j _ _ e1 e2)
                exact ⟨u, _, _, e1, e2, u1, u2⟩
              refine ⟨row, ?_, r1, fun j l u hl' hu => ?_⟩
              · rw [← r1]
                refine heapOf_cells row _ fun j u hu => ?_
                have hj := (List.getElem?_eq_some_iff.1 hu).1
                obtain ⟨l, v, e1, e2, e3, _⟩ := r2 j hj
                rw [(List.getElem?_eq_some_iff.1 hu).2] at e3
                refine ⟨v, ?_, e3⟩
                have := k3 j (by rw [hl, ← r1]; exact hj)
                rw [e2] at this
                rw [hl, Addr.add_lit, Addr.add_lit] at this
                rw [r1]
                exact this
              · have hj := (List.getElem?_eq_some_iff.1 hu).1
                obtain ⟨l2, v, e1, _, _, e4⟩ := r2 j hj
                rw [(List.getElem?_eq_some_iff.1 hu).2] at e4
                rw [hl'] at e1
                cases e1
                exact e4
            obtain ⟨rows, r1, r2⟩ := exists_rows len each
            refine ⟨rows, r1, fun i hi => ⟨b, off, rfl, c5, (r2 i hi).1⟩, fun r hr => ?_⟩
            obtain ⟨i, hi, rfl⟩ := List.getElem_of_mem hr
            exact (r2 i hi).2

/-- an argument -/
theorem arg_abs {t : TypeId} {v : Value} {d : DataW H} {ps : List MemPlace} {n : Nat} {ls : List Leaf} (hf : flat P n t = some ls) (h : DataW.Trod enc P W 0 (fun _ => true) true t v d ps) (hw : WT P t d) (depth : Nat) :
    ∃ us : List Value, Leafs (LeafU P W depth) ls us ∧ VRL (renB W.heap.size) us v.cells.toList := by
  obtain ⟨fuel, hd⟩ := h
  have hlf := flat_ok n t ls fuel _ _ hf hd hw
  obtain ⟨us, r1, r2⟩ := exists_rows (Q := fun j u => ∃ l v', ls[j]? = some l ∧ v.cells.toList[j]? = some v' ∧ absV W.heap.size v' = some u ∧ LeafU P W depth l u) ls.length fun j hj => by
    have e1 : ls[j]? = some (ls[j]) := List.getElem?_eq_getElem hj
    have e2 : v.cells.toList[j]? = some (v.cells.toList[j]'(by have := hlf.1; omega)) := List.getElem?_eq_getElem _
    obtain ⟨u, u1, u2⟩ := leaf_abs depth _ _ (hlf.2 j _ _ e1 e2)
    exact ⟨u, _, _, e1, e2, u1, u2⟩
  refine ⟨us, ⟨r1, fun j l u hl' hu => ?_⟩, VRL.of_get (by rw [r1, hlf.1]) fun j u hu => ?_⟩
  · have hj := (List.getElem?_eq_some_iff.1 hu).1
    obtain ⟨l2, v, e1, _, _, e4⟩ := r2 j hj
    rw [(List.getElem?_eq_some_iff.1 hu).2] at e4
    rw [hl'] at e1
    cases e1
    exact e4
  · have hj := (List.getElem?_eq_some_iff.1 hu).1
    obtain ⟨l2, v', _, e2, e3, _⟩ := r2 j hj
    rw [(List.getElem?_eq_some_iff.1 hu).2] at e3
    exact ⟨v', e2, absV_ok e3⟩

/-- all arguments read behind the call as they did -/
theorem trodAll_below (hl : laidOutB P = true) {W' : World} (hb : Below W.heap.size W W') : ∀ {ts : List TypeId} {vs : List Value} {ds : List (DataW H)} {ps : List MemPlace}, (ts.all fun t => P.readableRec t && decide (t < P.types.size)) = true →
    DataW.TrodAll enc P W 0 (fun _ => true) true ts vs ds ps → (∀ x ∈ ps, x.block < W.heap.size) → DataW.TrodAll enc P W' 0 (fun b => decide (b < W.heap.size)) true ts vs ds ps
  | [], [], [], ps, _, h, _ => h
  | t :: ts, v :: vs, d :: ds, ps, ht, h, hlt => by
    simp only [List.all_cons, Bool.and_eq_true, decide_eq_true_eq] at ht
    obtain ⟨p, q, h1, h2, rfl⟩ := h
    exact ⟨p, q, Below.trod hl ht.1.1 ht.1.2 h1 hb (fun x hx => hlt x (List.mem_append_left _ hx)), trodAll_below hl hb ht.2 h2 (fun x hx => hlt x (List.mem_append_right _ hx)), rfl⟩
  | [], _ :: _, _, _, _, h, _ => h.elim
  | [], [], _ :: _, _, _, h, _ => h.elim
  | _ :: _, [], _, _, _, h, _ => h.elim
  | _ :: _, _ :: _, [], _, _, h, _ => h.elim

/-- a law's closing: the answer, the arguments, the variables -/
theorem post_law (hl : laidOutB P = true) {f : Func} {s : ChangeSpec} {apart fresh handsOn : Bool} {W' : World} {args : Array Value} {v : Value} {ds gs : List (DataW H)} {before pargs pvars : List MemPlace}
    (hW : DataW.Whole enc P f.params.toList s.vars apart W args.toList ds gs before)
    (hA : DataW.TrodAll enc P W 0 (fun _ => true) true f.params.toList args.toList ds pargs) (hV : DataW.TrodVars enc P W (fun _ => true) s.vars gs pvars) (hp : before = pargs ++ pvars)
    (hts : (f.params.toList.all fun t => P.readableRec t && decide (t < P.types.size)) = true) (hvr : varsRowed P s.vars = true)
    (hres : ∀ (b : Nat) (sp : Nat → Bool) (hd : Bool), DataW.TrodAll enc P W' b sp hd f.resultTypes.toList (v.resultList f.resultTypes.size) (s.fn H (ds ++ gs)).results [])
    (hfa : (s.fn H (ds ++ gs)).args = ds) (hfv : (s.fn H (ds ++ gs)).vars = gs)
    (hb : Below W.heap.size W W') : s.post enc P f apart fresh handsOn false W args v W' := by
  have hlt : ∀ x ∈ before, x.block < W.heap.size := fun p hp => hW.lt p hp
  subst hp
  refine ⟨ds, gs, pargs ++ pvars, [], pargs, pvars, hW, hres _ _ _, ?_, ?_, hb.frame _, fun h => by cases h⟩
  · rw [hfa]; exact trodAll_below hl hb hts hA fun x hx => hlt x (List.mem_append_left _ hx)
  · rw [hfv]; exact Below.trodVars hl hb hvr hV
end
end Go.Ev
