/- THE EVALUATOR, part 'Rel': a deterministic reading of the program's code over an abstract heap, and that the model does what it says. Conditions: none beyond each theorem's own. -/
import Derived.Test.YtfneaaapgpgdeaaDoorZEv
import Derived.Below
import Derived.Laws.CopyRow
import Derived.Laws.Cells
set_option linter.unusedSimpArgs false
set_option linter.unusedVariables false
namespace Go.Ev

/-! tries -/
theorem cond_beq {α : Type} (i j : Nat) (x y : α) : cond (Nat.beq i j) x y = if i = j then x else y := by
  cases hb : Nat.beq i j with
  | true => rw [if_pos (Nat.eq_of_beq_eq_true hb)]; rfl
  | false => rw [if_neg (Nat.ne_of_beq_eq_false hb)]; rfl
theorem T.get_leaf {α : Type} (i : Nat) : (T.leaf : T α).get i = none := rfl
theorem T.get_node {α : Type} (l r : T α) (v : Option α) (i : Nat) :
    (T.node l v r).get i = if i = 0 then v else if i % 2 = 1 then l.get (i / 2) else r.get (i / 2 - 1) := by
  simp only [T.get, cond_beq]
theorem T.setF_leaf {α : Type} (n i : Nat) (x : α) : T.setF (n + 1) .leaf i x = if i = 0 then .node .leaf (some x) .leaf else
    if i % 2 = 1 then .node (T.setF n .leaf (i / 2) x) none .leaf else .node .leaf none (T.setF n .leaf (i / 2 - 1) x) := by
  simp only [T.setF, cond_beq]
theorem T.setF_node {α : Type} (n i : Nat) (l r : T α) (v : Option α) (x : α) : T.setF (n + 1) (.node l v r) i x = if i = 0 then .node l (some x) r else
    if i % 2 = 1 then .node (T.setF n l (i / 2) x) v r else .node l v (T.setF n r (i / 2 - 1) x) := by
  simp only [T.setF, cond_beq]
theorem T.get_setF {α : Type} (x : α) : ∀ (n i j : Nat) (t : T α), i < n → (T.setF n t i x).get j = if i = j then some x else t.get j
  | 0, _, _, _, h => by omega
  | n + 1, i, j, .leaf, h => by
    rw [T.setF_leaf]
    by_cases h0 : i = 0
    · subst h0
      rw [if_pos rfl, T.get_node]
      by_cases hj : j = 0
      · subst hj; simp
      · have h1 : ¬ 0 = j := fun e => hj e.symm
        simp [hj, h1, T.get_leaf]
    · rw [if_neg h0]
      by_cases hp : i % 2 = 1
      · rw [if_pos hp, T.get_node]
        by_cases hj : j = 0
        · subst hj; rw [if_pos rfl, if_neg h0]; rfl
        · rw [if_neg hj]
          by_cases hq : j % 2 = 1
          · rw [if_pos hq, T.get_setF x n _ _ _ (by omega)]
            by_cases e : i = j
            · subst e; simp
            · rw [if_neg (by omega), if_neg e]; simp [T.get_leaf]
          · rw [if_neg hq, if_neg (by intro e; subst e; omega)]; simp [T.get_leaf]
      · rw [if_neg hp, T.get_node]
        by_cases hj : j = 0
        · subst hj; rw [if_pos rfl, if_neg h0]; rfl
        · rw [if_neg hj]
          by_cases hq : j % 2 = 1
          · rw [if_pos hq, if_neg (by intro e; subst e; omega)]; simp [T.get_leaf]
          · rw [if_neg hq, T.get_setF x n _ _ _ (by omega)]
            by_cases e : i = j
            · subst e; simp
            · rw [if_neg (by omega), if_neg e]; simp [T.get_leaf]
  | n + 1, i, j, .node l v r, h => by
    rw [T.setF_node]
    by_cases h0 : i = 0
    · subst h0
      rw [if_pos rfl, T.get_node, T.get_node]
      by_cases hj : j = 0
      · subst hj; simp
      · have h1 : ¬ 0 = j := fun e => hj e.symm
        simp [hj, h1]
    · rw [if_neg h0]
      by_cases hp : i % 2 = 1
      · rw [if_pos hp, T.get_node, T.get_node]
        by_cases hj : j = 0
        · subst hj; rw [if_pos rfl, if_neg h0, if_pos rfl]
        · rw [if_neg hj, if_neg hj]
          by_cases hq : j % 2 = 1
          · rw [if_pos hq, if_pos hq, T.get_setF x n _ _ _ (by omega)]
            by_cases e : i = j
            · subst e; simp
            · rw [if_neg (by omega), if_neg e]
          · rw [if_neg hq, if_neg hq, if_neg (by intro e; subst e; omega)]
      · rw [if_neg hp, T.get_node, T.get_node]
        by_cases hj : j = 0
        · subst hj; rw [if_pos rfl, if_neg h0, if_pos rfl]
        · rw [if_neg hj, if_neg hj]
          by_cases hq : j % 2 = 1
          · rw [if_pos hq, if_pos hq, if_neg (by intro e; subst e; omega)]
          · rw [if_neg hq, if_neg hq, T.get_setF x n _ _ _ (by omega)]
            by_cases e : i = j
            · subst e; simp
            · rw [if_neg (by omega), if_neg e]
theorem T.get_set {α : Type} (t : T α) (i j : Nat) (x : α) : (t.set i x).get j = if i = j then some x else t.get j := T.get_setF x _ i j t (by omega)
theorem T.get_set_same {α : Type} (t : T α) (i : Nat) (x : α) : (t.set i x).get i = some x := by simp [T.get_set]
theorem T.get_set_ne {α : Type} (t : T α) {i j : Nat} (x : α) (h : i ≠ j) : (t.set i x).get j = t.get j := by simp [T.get_set, h]
theorem T.get_ofListFrom {α : Type} : ∀ (l : List α) (k : Nat) (t : T α) (j : Nat), (T.ofListFrom l k t).get j = if k ≤ j ∧ j < k + l.length then l[j - k]? else t.get j
  | [], k, t, j => by simp [T.ofListFrom]; omega
  | x :: l, k, t, j => by
    rw [T.ofListFrom, T.get_ofListFrom l, T.get_set]
    by_cases h : k = j
    · subst h; simp; omega
    · by_cases h2 : k + 1 ≤ j ∧ j < k + 1 + l.length
      · rw [if_pos h2, if_pos (by simp; omega), show j - k = (j - (k + 1)) + 1 by omega]; simp
      · rw [if_neg h2, if_neg h, if_neg (by simp; omega)]
theorem T.get_ofList {α : Type} (l : List α) (j : Nat) : (T.ofList l).get j = l[j]? := by
  rw [T.ofList, T.get_ofListFrom]
  by_cases h : j < l.length
  · simp [h]
  · simp [h, T.get_leaf]

/-! lists -/
theorem nth_eq {α : Type} : ∀ (l : List α) (i : Nat), nth l i = l[i]?
  | [], i => by simp [nth]
  | x :: l, i => by
    rw [nth, cond_beq]
    by_cases h : i = 0
    · subst h; simp
    · rw [if_neg h, nth_eq l]; obtain ⟨k, rfl⟩ := Nat.exists_eq_succ_of_ne_zero h; simp
theorem dropN_eq {α : Type} : ∀ (l : List α) (i : Nat), dropN l i = l.drop i
  | [], i => by simp [dropN]
  | x :: l, i => by
    rw [dropN, cond_beq]
    by_cases h : i = 0
    · subst h; simp
    · rw [if_neg h, dropN_eq l]; obtain ⟨k, rfl⟩ := Nat.exists_eq_succ_of_ne_zero h; simp
theorem takeN_eq {α : Type} : ∀ (n : Nat) (l r : List α), takeN n l = some r → n ≤ l.length ∧ r = l.take n
  | 0, l, r, h => by simp [takeN] at h; simp [← h]
  | n + 1, [], r, h => by simp [takeN] at h
  | n + 1, x :: l, r, h => by
    simp only [takeN, Option.map_eq_some_iff] at h
    obtain ⟨q, hq, rfl⟩ := h
    obtain ⟨h1, rfl⟩ := takeN_eq n l q hq
    exact ⟨by simp; omega, by simp⟩
theorem over_eq {α : Type} : ∀ (l : List α) (i : Nat) (xs r : List α), over l i xs = some r → (xs = [] ∨ i + xs.length ≤ l.length) ∧ r = l.take i ++ xs ++ l.drop (i + xs.length)
  | [], i, [], r, h => by simp [over] at h; subst h; simp
  | c :: l, i, [], r, h => by simp [over] at h; subst h; simp
  | [], i, x :: xs, r, h => by simp [over] at h
  | c :: l, i, x :: xs, r, h => by
    rw [over, cond_beq] at h
    by_cases h0 : i = 0
    · subst h0
      rw [if_pos rfl] at h
      simp only [Option.map_eq_some_iff] at h
      obtain ⟨q, hq, rfl⟩ := h
      obtain ⟨h1, rfl⟩ := over_eq l 0 xs q hq
      refine ⟨.inr ?_, ?_⟩
      · rcases h1 with rfl | h1 <;> simp at *; omega
      · simp
    · rw [if_neg h0] at h
      simp only [Option.map_eq_some_iff] at h
      obtain ⟨q, hq, rfl⟩ := h
      obtain ⟨h1, rfl⟩ := over_eq l (i - 1) (x :: xs) q hq
      obtain ⟨k, rfl⟩ := Nat.exists_eq_succ_of_ne_zero h0
      refine ⟨.inr ?_, ?_⟩
      · rcases h1 with h1 | h1
        · cases h1
        · simp at *; omega
      · simp [Nat.succ_add]

/-! renamings -/
abbrev Ren := Nat → Option (Nat × Nat)

mutual
inductive VR (ρ : Ren) : Value → Value → Prop
  | bool (b : Bool) : VR ρ (.bool b) (.bool b)
  | int (k : IntKind) (n : Int) : VR ρ (.int k n) (.int k n)
  | float (k : FloatKind) (n : Nat) : VR ρ (.float k n) (.float k n)
  | nanf (n : Nat) (h : isNan n = true) (hn : n < 18446744073709551616) : VR ρ (.chan none) (.float .f64 n)
  | string (s : ByteArray) : VR ρ (.string s) (.string s)
  | nilptr : VR ρ (.pointer none) (.pointer none)
  | ptr {i b c : Nat} (off : Nat) (h : ρ i = some (b, c)) : VR ρ (.pointer (some ⟨i, off, none⟩)) (.pointer (some ⟨b, off, none⟩))
  | nilslice (n c : Nat) (hc : c < UNK) : VR ρ (.slice none n c) (.slice none n c)
  | slice {i b c : Nat} (off len cap : Nat) (h : ρ i = some (b, c)) (hc : cap < UNK) : VR ρ (.slice (some ⟨i, off, none⟩) len cap) (.slice (some ⟨b, off, none⟩) len cap)
  | sliceU {i b c : Nat} (off len cap : Nat) (h : ρ i = some (b, c)) (hn : len < UNK) (hl : len ≤ cap) (h0 : off = 0 → cap = c) : VR ρ (.slice (some ⟨i, off, none⟩) len UNK) (.slice (some ⟨b, off, none⟩) len cap)
  | sliceE (a a' : Addr) (cap : Nat) : VR ρ (.slice (some a) 0 UNK2) (.slice (some a') 0 cap)
  | nilmap : VR ρ (.map none) (.map none)
  | map {i b c : Nat} (h : ρ i = some (b, c)) : VR ρ (.map (some i)) (.map (some b))
  | nilFunc : VR ρ .nilFunc .nilFunc
  | func (fn : Fn) (xs ys xs' ys' : Array Value) (hy : isYield fn = false) (h : VRL ρ xs.toList xs'.toList) (h' : VRL ρ ys.toList ys'.toList) : VR ρ (.func fn xs ys) (.func fn xs' ys')
  | yield {i b c : Nat} (h : ρ i = some (b, c)) : VR ρ (.func (.yield i) #[] #[]) (.func (.yield b) #[] #[])
  | nilIface : VR ρ .nilIface .nilIface
  | iface (t : TypeId) (v v' : Value) (h : VR ρ v v') : VR ρ (.iface t v) (.iface t v')
  | agg (xs xs' : Array Value) (h : VRL ρ xs.toList xs'.toList) : VR ρ (.agg xs) (.agg xs')
  | tuple (xs xs' : Array Value) (h : VRL ρ xs.toList xs'.toList) : VR ρ (.tuple xs) (.tuple xs')
inductive VRL (ρ : Ren) : List Value → List Value → Prop
  | nil : VRL ρ [] []
  | cons {v v' : Value} {l l' : List Value} (h : VR ρ v v') (t : VRL ρ l l') : VRL ρ (v :: l) (v' :: l')
end

def Ren.le (ρ ρ' : Ren) : Prop := ∀ i x, ρ i = some x → ρ' i = some x
theorem Ren.le_refl (ρ : Ren) : ρ.le ρ := fun _ _ h => h
theorem Ren.le_trans {ρ ρ₁ ρ₂ : Ren} (h : ρ.le ρ₁) (h' : ρ₁.le ρ₂) : ρ.le ρ₂ := fun _ _ e => h' _ _ (h _ _ e)

mutual
theorem VR.mono {ρ ρ' : Ren} (hle : ρ.le ρ') : ∀ {v v' : Value}, VR ρ v v' → VR ρ' v v'
  | _, _, .bool b => .bool b
  | _, _, .int k n => .int k n
  | _, _, .float k n => .float k n
  | _, _, .nanf n h hn => .nanf n h hn
  | _, _, .string s => .string s
  | _, _, .nilptr => .nilptr
  | _, _, .ptr off h => .ptr off (hle _ _ h)
  | _, _, .nilslice n c hc => .nilslice n c hc
  | _, _, .slice off len cap h hc => .slice off len cap (hle _ _ h) hc
  | _, _, .sliceU off len cap h hn hl h0 => .sliceU off len cap (hle _ _ h) hn hl h0
  | _, _, .sliceE a a' cap => .sliceE a a' cap
  | _, _, .nilmap => .nilmap
  | _, _, .map h => .map (hle _ _ h)
  | _, _, .nilFunc => .nilFunc
  | _, _, .func fn xs ys xs' ys' hy h h' => .func fn xs ys xs' ys' hy (VRL.mono hle h) (VRL.mono hle h')
  | _, _, .yield h => .yield (hle _ _ h)
  | _, _, .nilIface => .nilIface
  | _, _, .iface t v v' h => .iface t v v' (VR.mono hle h)
  | _, _, .agg xs xs' h => .agg xs xs' (VRL.mono hle h)
  | _, _, .tuple xs xs' h => .tuple xs xs' (VRL.mono hle h)
theorem VRL.mono {ρ ρ' : Ren} (hle : ρ.le ρ') : ∀ {l l' : List Value}, VRL ρ l l' → VRL ρ' l l'
  | _, _, .nil => .nil
  | _, _, .cons h t => .cons (VR.mono hle h) (VRL.mono hle t)
end

theorem VRL.length {ρ : Ren} : ∀ {l l' : List Value}, VRL ρ l l' → l.length = l'.length
  | _, _, .nil => rfl
  | _, _, .cons _ t => by simp [VRL.length t]
theorem VRL.get {ρ : Ren} : ∀ {l l' : List Value}, VRL ρ l l' → ∀ (i : Nat) (v : Value), l[i]? = some v → ∃ v', l'[i]? = some v' ∧ VR ρ v v'
  | _, _, .nil, i, v, h => by simp at h
  | _, _, .cons h t, 0, v, e => by simp at e; subst e; exact ⟨_, rfl, h⟩
  | _, _, .cons h t, i + 1, v, e => by simp at e ⊢; exact VRL.get t i v e
theorem VRL.of_get {ρ : Ren} : ∀ {l l' : List Value}, l.length = l'.length → (∀ (i : Nat) (v : Value), l[i]? = some v → ∃ v', l'[i]? = some v' ∧ VR ρ v v') → VRL ρ l l'
  | [], [], _, _ => .nil
  | [], _ :: _, h, _ => by simp at h
  | _ :: _, [], h, _ => by simp at h
  | v :: l, v' :: l', h, k => by
    obtain ⟨u, e, hu⟩ := k 0 v (by simp)
    simp at e; subst e
    exact .cons hu (VRL.of_get (by simpa using h) fun i x e => by simpa using k (i + 1) x (by simpa using e))
theorem VRL.append {ρ : Ren} : ∀ {l l' m m' : List Value}, VRL ρ l l' → VRL ρ m m' → VRL ρ (l ++ m) (l' ++ m')
  | _, _, _, _, .nil, h => h
  | _, _, _, _, .cons h t, h' => .cons h (VRL.append t h')
theorem VRL.take {ρ : Ren} : ∀ {l l' : List Value}, VRL ρ l l' → ∀ n, VRL ρ (l.take n) (l'.take n)
  | _, _, .nil, n => by simp; exact .nil
  | _, _, .cons _ _, 0 => .nil
  | _, _, .cons h t, n + 1 => .cons h (VRL.take t n)
theorem VRL.drop {ρ : Ren} : ∀ {l l' : List Value}, VRL ρ l l' → ∀ n, VRL ρ (l.drop n) (l'.drop n)
  | _, _, .nil, n => by simp; exact .nil
  | _, _, .cons h t, 0 => .cons h t
  | _, _, .cons _ t, n + 1 => VRL.drop t n

theorem VR.cells {ρ : Ren} {v v' : Value} (h : VR ρ v v') : VRL ρ v.cells.toList v'.cells.toList := by
  cases h <;> first
    | (simp only [Value.cells]; assumption)
    | (simp only [Value.cells]; exact .cons (by constructor <;> assumption) .nil)
theorem VR.oneCell {ρ : Ren} {v v' : Value} (h : VR ρ v v') (ho : Ev.oneCell v = true) : v'.oneCell' = true := by
  cases h <;> first | rfl | simp [Ev.oneCell] at ho
theorem VRL.oneCell {ρ : Ren} {l l' : List Value} (h : VRL ρ l l') (ho : l.all Ev.oneCell = true) : ∀ v ∈ l', v.oneCell' = true := by
  intro v hv
  obtain ⟨i, hi, e⟩ := List.getElem_of_mem hv
  have hl := h.length
  have e2 : l[i]? = some (l[i]'(by omega)) := List.getElem?_eq_getElem _
  obtain ⟨u, eu, hu⟩ := h.get i _ e2
  rw [List.getElem?_eq_getElem hi] at eu
  have : u = v := by rw [← e]; exact (Option.some.inj eu).symm
  subst this
  exact hu.oneCell (List.all_eq_true.1 ho _ (List.getElem_mem _))

theorem VR.const0 (ρ : Ren) : ∀ {v : Value}, constOk0 v = true → VR ρ v v
  | .bool _, _ => .bool _
  | .int _ _, _ => .int _ _
  | .float _ _, _ => .float _ _
  | .string _, _ => .string _
  | .pointer none, _ => .nilptr
  | .slice none 0 0, _ => .nilslice 0 0 (by decide)
  | .map none, _ => .nilmap
  | .nilFunc, _ => .nilFunc
  | .nilIface, _ => .nilIface
theorem VRL.const0 (ρ : Ren) : ∀ {l : List Value}, l.all constOk0 = true → VRL ρ l l
  | [], _ => .nil
  | v :: l, h => by simp only [List.all_cons, Bool.and_eq_true] at h; exact .cons (VR.const0 ρ h.1) (VRL.const0 ρ h.2)
theorem VR.const (ρ : Ren) {v : Value} (h : constOk v = true) : VR ρ v v := by
  unfold constOk at h
  split at h
  · exact .agg _ _ (VRL.const0 ρ h)
  · exact .tuple _ _ .nil
  · exact VR.const0 ρ h
theorem VR.undef (ρ : Ren) : VR ρ undef undef := .tuple _ _ .nil

end Go.Ev
