/- Rows as functions, told apart by swaps; how a merge's halves stand. -/
import Derived.Test.YtjcmcoabckkjoaaDoorZLib3
import Derived.Test.YtjcmcoabckkjoaaDoorZFb
import Derived.Lib.TrailingZeros
set_option linter.unusedSimpArgs false
set_option linter.unusedVariables false
namespace Go.Proofs.YtjcmcoabckkjoaaDoor.Or
open Go.Ev
/-! numbers' places in the order; rows as functions, told apart by swaps -/
def keyN (n : Nat) : Nat := if isNan n then 18446744073709551615 else if 9223372036854775808 ≤ n then 18446744073709551615 - n else n + 9223372036854775808
theorem isNan_iff (n : Nat) : isNan n = decide (9218868437227405312 < n % 9223372036854775808) := blt_eq _ _
theorem keyN_lt {n : Nat} (hn : n < 18446744073709551616) : keyN n < 18446744073709551616 := by
  unfold keyN; split
  · omega
  · split <;> omega
theorem keyN_nan {n : Nat} (hn : n < 18446744073709551616) : keyN n = 18446744073709551615 ↔ isNan n = true := by
  unfold keyN
  have := isNan_iff n
  cases h : isNan n with
  | true => simp
  | false =>
    rw [h] at this
    have h1 := of_decide_eq_false this.symm
    simp only [Bool.false_eq_true, if_false, iff_false]
    split <;> omega
theorem keyN_inj {n m : Nat} (hn : n < 18446744073709551616) (hm : m < 18446744073709551616) : keyN n = keyN m ↔ (isNan n = true ∧ isNan m = true) ∨ n = m := by
  constructor
  · intro h
    by_cases h1 : isNan n = true
    · left
      exact ⟨h1, (keyN_nan hm).1 (h ▸ (keyN_nan hn).2 h1)⟩
    · by_cases h2 : isNan m = true
      · exact absurd ((keyN_nan hn).1 (h.trans ((keyN_nan hm).2 h2))) h1
      · right
        unfold keyN at h
        rw [if_neg h1, if_neg h2] at h
        split at h <;> split at h <;> omega
  · rintro (⟨h1, h2⟩ | rfl)
    · rw [(keyN_nan hn).2 h1, (keyN_nan hm).2 h2]
    · rfl
/-! swaps -/
def sw (f : Nat → Nat) (i j : Nat) : Nat → Nat := fun k => if k = i then f j else if k = j then f i else f k
inductive Sw (a b : Nat) : (Nat → Nat) → (Nat → Nat) → Prop
  | refl (f : Nat → Nat) : Sw a b f f
  | step {f g : Nat → Nat} (h : Sw a b f g) (i j : Nat) (hi : a ≤ i ∧ i < b) (hj : a ≤ j ∧ j < b) : Sw a b f (sw g i j)
theorem Sw.trans {a b : Nat} {f g e : Nat → Nat} (h : Sw a b f g) (h' : Sw a b g e) : Sw a b f e := by
  induction h' with
  | refl => exact h
  | step _ i j hi hj ih => exact .step ih i j hi hj
theorem Sw.mono {a b a' b' : Nat} {f g : Nat → Nat} (h : Sw a b f g) (ha : a' ≤ a) (hb : b ≤ b') : Sw a' b' f g := by
  induction h with
  | refl => exact .refl _
  | step _ i j hi hj ih => exact .step ih i j ⟨by omega, by omega⟩ ⟨by omega, by omega⟩
theorem Sw.out {a b : Nat} {f g : Nat → Nat} (h : Sw a b f g) {k : Nat} (hk : k < a ∨ b ≤ k) : g k = f k := by
  induction h with
  | refl => rfl
  | step _ i j hi hj ih => unfold sw; rw [if_neg (by omega), if_neg (by omega), ih]
theorem Sw.all {a b : Nat} {f g : Nat → Nat} (h : Sw a b f g) {P : Nat → Prop} (hp : ∀ k, a ≤ k → k < b → P (f k)) : ∀ k, a ≤ k → k < b → P (g k) := by
  induction h with
  | refl => exact hp
  | step _ i j hi hj ih =>
    intro k h1 h2
    unfold sw
    split
    · exact ih j hj.1 hj.2
    · split
      · exact ih i hi.1 hi.2
      · exact ih k h1 h2
theorem sw_perm {n : Nat} {g : Nat → Nat} {i j : Nat} (hi : i < n) (hj : j < n) : ((List.range n).map (sw g i j)).Perm ((List.range n).map g) := by
  have e : (List.range n).map (sw g i j) = ((List.range n).map fun k => if k = i then j else if k = j then i else k).map g := by
    rw [List.map_map]
    apply List.map_congr_left
    intro k _
    simp only [Function.comp, sw]
    split
    · rfl
    · split <;> rfl
  rw [e]
  apply List.Perm.map
  have hinj : ∀ x y : Nat, (if x = i then j else if x = j then i else x) = (if y = i then j else if y = j then i else y) → x = y := by
    intro x y
    repeat' split
    all_goals omega
  refine (List.perm_ext_iff_of_nodup ?_ List.nodup_range).2 fun x => ?_
  · rw [List.Nodup, List.pairwise_map]
    exact List.Pairwise.imp (fun h e => h (hinj _ _ e)) List.nodup_range
  · simp only [List.mem_map, List.mem_range]
    constructor
    · rintro ⟨k, hk, rfl⟩
      split
      · exact hj
      · split
        · exact hi
        · exact hk
    · intro hx
      by_cases h1 : x = i
      · refine ⟨j, hj, ?_⟩
        by_cases h2 : j = i
        · subst h2; simp [h1]
        · rw [if_neg h2, if_pos rfl, h1]
      · by_cases h2 : x = j
        · exact ⟨i, hi, by rw [if_pos rfl, h2]⟩
        · exact ⟨x, hx, by rw [if_neg h1, if_neg h2]⟩
theorem Sw.perm {a b n : Nat} {f g : Nat → Nat} (h : Sw a b f g) (hb : b ≤ n) : ((List.range n).map g).Perm ((List.range n).map f) := by
  induction h with
  | refl => exact .refl _
  | step _ i j hi hj ih => exact (sw_perm (by omega) (by omega)).trans ih
/-! order -/
def SortedN (f : Nat → Nat) (a b : Nat) : Prop := ∀ i j, a ≤ i → i < j → j < b → keyN (f i) ≤ keyN (f j)
theorem SortedN.congr {f g : Nat → Nat} {a b : Nat} (h : SortedN f a b) (e : ∀ k, a ≤ k → k < b → g k = f k) : SortedN g a b := fun i j h1 h2 h3 => by
  rw [e i h1 (by omega), e j (by omega) h3]; exact h i j h1 h2 h3
theorem SortedN.sub {f : Nat → Nat} {a b a' b' : Nat} (h : SortedN f a b) (ha : a ≤ a') (hb : b' ≤ b) : SortedN f a' b' := fun i j h1 h2 h3 => h i j (by omega) h2 (by omega)
theorem SortedN.one {f : Nat → Nat} {a b : Nat} (h : b ≤ a + 1) : SortedN f a b := fun i j h1 h2 h3 => by omega
theorem SortedN.glue {f : Nat → Nat} {a m b : Nat} (h1 : SortedN f a m) (h2 : SortedN f m b) (h3 : ∀ i j, a ≤ i → i < m → m ≤ j → j < b → keyN (f i) ≤ keyN (f j)) : SortedN f a b := fun i j q1 q2 q3 => by
  by_cases hj : j < m
  · exact h1 i j q1 q2 hj
  · by_cases hi : i < m
    · exact h3 i j q1 hi (by omega) q3
    · exact h2 i j (by omega) q2 q3
/-! insertion -/
def InsAt (f : Nat → Nat) (a i j : Nat) : Prop := ∀ p q, a ≤ p → p < q → q ≤ i → q ≠ j → keyN (f p) ≤ keyN (f q)
theorem InsAt.start {f : Nat → Nat} {a i : Nat} (h : SortedN f a i) : InsAt f a i i := fun p q h1 h2 h3 h4 => h p q h1 h2 (by omega)
theorem InsAt.stop {f : Nat → Nat} {a i j : Nat} (h : InsAt f a i j) (hj : a ≤ j ∧ j ≤ i) (he : j = a ∨ keyN (f (j - 1)) ≤ keyN (f j)) : SortedN f a (i + 1) := fun p q h1 h2 h3 => by
  by_cases hq : q = j
  · subst hq
    rcases he with he | he
    · omega
    · by_cases hp : p = q - 1
      · subst hp; exact he
      · exact Nat.le_trans (h p (q - 1) h1 (by omega) (by omega) (by omega)) he
  · exact h p q h1 h2 (by omega) hq
theorem InsAt.step {f : Nat → Nat} {a i j : Nat} (h : InsAt f a i j) (hj : a < j ∧ j ≤ i) (hl : keyN (f j) < keyN (f (j - 1))) : InsAt (sw f j (j - 1)) a i (j - 1) := fun p q h1 h2 h3 h4 => by
  unfold sw
  by_cases q1 : q = j
  · subst q1
    rw [if_pos rfl]
    by_cases p1 : p = q - 1
    · subst p1
      rw [if_neg (by omega), if_pos rfl]; omega
    · rw [if_neg (by omega), if_neg p1]
      exact h p (q - 1) h1 (by omega) (by omega) (by omega)
  · rw [if_neg q1, if_neg h4]
    by_cases p1 : p = j
    · subst p1
      rw [if_pos rfl]
      exact h (p - 1) q (by omega) (by omega) h3 q1
    · rw [if_neg p1]
      by_cases p2 : p = j - 1
      · rw [if_pos p2]
        exact h j q (by omega) (by omega) h3 q1
      · rw [if_neg p2]; exact h p q h1 h2 h3 q1
/-! rotation -/
def swr (f : Nat → Nat) (a b n : Nat) : Nat → Nat := fun k => if a ≤ k ∧ k < a + n then f (k + (b - a)) else if b ≤ k ∧ k < b + n then f (k - (b - a)) else f k
def rot (f : Nat → Nat) (a m b : Nat) : Nat → Nat := fun k => if a ≤ k ∧ k < a + (b - m) then f (k + (m - a)) else if a + (b - m) ≤ k ∧ k < b then f (k - (b - m)) else f k
theorem swr_zero (f : Nat → Nat) (a b : Nat) : swr f a b 0 = f := by
  funext k; unfold swr; rw [if_neg (by omega), if_neg (by omega)]
theorem swr_succ {f : Nat → Nat} {a b n : Nat} (h : a + (n + 1) ≤ b) : swr f a b (n + 1) = sw (swr f a b n) (a + n) (b + n) := by
  funext k
  unfold sw swr
  by_cases h1 : k = a + n
  · subst h1
    rw [if_pos (by omega), if_pos rfl, if_neg (by omega), if_neg (by omega)]; congr 1; omega
  · by_cases h2 : k = b + n
    · subst h2
      rw [if_neg (by omega), if_pos (by omega), if_neg (by omega), if_pos rfl, if_neg (by omega), if_neg (by omega)]; congr 1; omega
    · rw [if_neg h1, if_neg h2]
      by_cases h3 : a ≤ k ∧ k < a + n
      · rw [if_pos (by omega), if_pos h3]
      · by_cases h4 : b ≤ k ∧ k < b + n
        · rw [if_neg (by omega), if_pos (by omega), if_neg h3, if_pos h4]
        · rw [if_neg (by omega), if_neg (by omega), if_neg h3, if_neg h4]
/-- what is left to be turned -/
theorem rot_gt {f : Nat → Nat} {m i j : Nat} (hi : i ≤ m) (hij : j < i) : rot (swr f (m - i) m j) (m - (i - j)) m (m + j) = rot f (m - i) m (m + j) := by
  funext k
  unfold rot swr
  repeat' split
  all_goals first | omega | (congr 1; omega)
theorem rot_lt {f : Nat → Nat} {m i j : Nat} (hi : i ≤ m) (hij : i < j) : rot (swr f (m - i) (m + j - i) i) (m - i) m (m + (j - i)) = rot f (m - i) m (m + j) := by
  funext k
  unfold rot swr
  repeat' split
  all_goals first | omega | (congr 1; omega)
theorem rot_eq {f : Nat → Nat} {m i : Nat} (hi : i ≤ m) : swr f (m - i) m i = rot f (m - i) m (m + i) := by
  funext k
  unfold rot swr
  repeat' split
  all_goals first | omega | (congr 1; omega)
end Go.Proofs.YtjcmcoabckkjoaaDoor.Or

namespace Go.Proofs.YtjcmcoabckkjoaaDoor.Or
open Go.Ev
/-! a row moved by one -/
def shl (f : Nat → Nat) (a i : Nat) : Nat → Nat := fun k => if a ≤ k ∧ k + 1 < i then f (k + 1) else if k + 1 = i then f a else f k
def shr (f : Nat → Nat) (i m : Nat) : Nat → Nat := fun k => if k = i then f m else if i < k ∧ k ≤ m then f (k - 1) else f k
theorem shl_start (f : Nat → Nat) (a : Nat) : shl f a (a + 1) = f := by
  funext k; unfold shl
  repeat' split
  all_goals first | omega | rfl | (congr 1; omega)
theorem shl_step {f : Nat → Nat} {a k : Nat} (h : a ≤ k) : sw (shl f a (k + 1)) k (k + 1) = shl f a (k + 2) := by
  funext x; unfold sw shl
  repeat' split
  all_goals first | omega | rfl | (congr 1; omega)
theorem shr_start (f : Nat → Nat) (m : Nat) : shr f m m = f := by
  funext k; unfold shr
  repeat' split
  all_goals first | omega | rfl | (congr 1; omega)
theorem shr_step {f : Nat → Nat} {k m : Nat} (h : 0 < k) (hk : k ≤ m) : sw (shr f k m) k (k - 1) = shr f (k - 1) m := by
  funext x; unfold sw shr
  repeat' split
  all_goals first | omega | rfl | (congr 1; omega)
theorem shl_sorted {f : Nat → Nat} {a i b : Nat} (hs : SortedN f (a + 1) b) (h1 : a + 1 ≤ i) (h2 : i ≤ b) (c1 : i = a + 1 ∨ keyN (f (i - 1)) ≤ keyN (f a)) (c2 : i = b ∨ keyN (f a) ≤ keyN (f i)) : SortedN (shl f a i) a b := by
  have low : ∀ k, a + 1 ≤ k → k < i → keyN (f k) ≤ keyN (f a) := fun k q1 q2 => by
    rcases c1 with c1 | c1
    · omega
    · by_cases hk : k = i - 1
      · rw [hk]; exact c1
      · exact Nat.le_trans (hs k (i - 1) q1 (by omega) (by omega)) c1
  have high : ∀ k, i ≤ k → k < b → keyN (f a) ≤ keyN (f k) := fun k q1 q2 => by
    rcases c2 with c2 | c2
    · omega
    · by_cases hk : k = i
      · rw [hk]; exact c2
      · exact Nat.le_trans c2 (hs i k h1 (by omega) q2)
  intro p q q1 q2 q3
  unfold shl
  by_cases a1 : p + 1 < i
  · rw [if_pos ⟨q1, a1⟩]
    by_cases a2 : q + 1 < i
    · rw [if_pos ⟨by omega, a2⟩]; exact hs _ _ (by omega) (by omega) (by omega)
    · rw [if_neg (by omega)]
      by_cases a3 : q + 1 = i
      · rw [if_pos a3]; exact low _ (by omega) (by omega)
      · rw [if_neg a3]; exact hs _ _ (by omega) (by omega) (by omega)
  · rw [if_neg (by omega)]
    by_cases a3 : p + 1 = i
    · rw [if_pos a3, if_neg (by omega), if_neg (by omega)]; exact high _ (by omega) q3
    · rw [if_neg a3, if_neg (by omega), if_neg (by omega)]; exact hs _ _ (by omega) q2 q3
theorem shr_sorted {f : Nat → Nat} {a i m : Nat} (hs : SortedN f a m) (h1 : a ≤ i) (h2 : i ≤ m) (c1 : i = a ∨ keyN (f (i - 1)) ≤ keyN (f m)) (c2 : i = m ∨ keyN (f m) ≤ keyN (f i)) : SortedN (shr f i m) a (m + 1) := by
  have low : ∀ k, a ≤ k → k < i → keyN (f k) ≤ keyN (f m) := fun k q1 q2 => by
    rcases c1 with c1 | c1
    · omega
    · by_cases hk : k = i - 1
      · rw [hk]; exact c1
      · exact Nat.le_trans (hs k (i - 1) q1 (by omega) (by omega)) c1
  have high : ∀ k, i ≤ k → k < m → keyN (f m) ≤ keyN (f k) := fun k q1 q2 => by
    rcases c2 with c2 | c2
    · omega
    · by_cases hk : k = i
      · rw [hk]; exact c2
      · exact Nat.le_trans c2 (hs i k h1 (by omega) q2)
  intro p q q1 q2 q3
  unfold shr
  by_cases a1 : p = i
  · rw [if_pos a1, if_neg (by omega), if_pos (by omega)]; exact high _ (by omega) (by omega)
  · rw [if_neg a1]
    by_cases a2 : q = i
    · rw [if_pos a2, if_neg (by omega)]; exact low _ q1 (by omega)
    · rw [if_neg a2]
      by_cases a3 : i < p ∧ p ≤ m
      · rw [if_pos a3, if_pos (by omega)]; exact hs _ _ (by omega) (by omega) (by omega)
      · rw [if_neg a3]
        by_cases a4 : i < q ∧ q ≤ m
        · rw [if_pos a4]
          by_cases a5 : p = q - 1
          · omega
          · exact hs _ _ q1 (by omega) (by omega)
        · rw [if_neg a4]; exact hs _ _ q1 q2 (by omega)
/-! the halves of a merge -/
def TT (f : Nat → Nat) (n c : Nat) : Prop := keyN (f c) ≤ keyN (f (n - 1 - c))
structure Cut (f : Nat → Nat) (a m b mid st : Nat) : Prop where
  midE : mid = (a + b) / 2
  am : a < m
  mb : m < b
  s0 : a ≤ st
  sm : st ≤ m
  smid : st ≤ mid
  eb : mid + m - st ≤ b
  c1 : (if mid < m then st = mid + m - b else st = a) ∨ TT f (mid + m) (st - 1)
  c2 : (if mid < m then st = mid else st = m) ∨ ¬ TT f (mid + m) st
theorem Cut.halves {f : Nat → Nat} {a m b mid st : Nat} (h : Cut f a m b mid st) (s1 : SortedN f a m) (s2 : SortedN f m b) :
    SortedN (rot f st m (mid + m - st)) a st ∧ SortedN (rot f st m (mid + m - st)) st mid ∧ SortedN (rot f st m (mid + m - st)) mid (mid + m - st) ∧ SortedN (rot f st m (mid + m - st)) (mid + m - st) b ∧
    ∀ i j, a ≤ i → i < mid → mid ≤ j → j < b → keyN (rot f st m (mid + m - st) i) ≤ keyN (rot f st m (mid + m - st) j) := by
  obtain ⟨midE, am, mb, s0, sm, smid, eb, c1, c2⟩ := h
  have g1 : ∀ k, k < st → rot f st m (mid + m - st) k = f k := fun k hk => by unfold rot; rw [if_neg (by omega), if_neg (by omega)]
  have g2 : ∀ k, st ≤ k → k < mid → rot f st m (mid + m - st) k = f (k + (m - st)) := fun k h1 h2 => by unfold rot; rw [if_pos (by omega)]
  have g3 : ∀ k, mid ≤ k → k < mid + m - st → rot f st m (mid + m - st) k = f (k - (mid - st)) := fun k h1 h2 => by
    unfold rot; rw [if_neg (by omega), if_pos (by omega)]; congr 1; omega
  have g4 : ∀ k, mid + m - st ≤ k → rot f st m (mid + m - st) k = f k := fun k h1 => by unfold rot; rw [if_neg (by omega), if_neg (by omega)]
  generalize rot f st m (mid + m - st) = g at g1 g2 g3 g4
  have x1 : ∀ i j, a ≤ i → i < st → mid + m - st ≤ j → j < b → keyN (f i) ≤ keyN (f j) := fun i j q1 q2 q3 q4 => by
    rcases c1 with c1 | c1
    · split at c1 <;> omega
    · unfold TT at c1
      rw [show mid + m - 1 - (st - 1) = mid + m - st by omega] at c1
      have e1 : keyN (f i) ≤ keyN (f (st - 1)) := by
        by_cases hi : i = st - 1
        · rw [hi]; exact Nat.le_refl _
        · exact s1 i (st - 1) q1 (by omega) (by omega)
      have e2 : keyN (f (mid + m - st)) ≤ keyN (f j) := by
        by_cases hj : j = mid + m - st
        · rw [hj]; exact Nat.le_refl _
        · exact s2 (mid + m - st) j (by omega) (by omega) q4
      omega
  have x2 : ∀ i j, m ≤ i → i < mid + m - st → st ≤ j → j < m → keyN (f i) ≤ keyN (f j) := fun i j q1 q2 q3 q4 => by
    rcases c2 with c2 | c2
    · split at c2 <;> omega
    · unfold TT at c2
      rw [show mid + m - 1 - st = mid + m - st - 1 by omega] at c2
      have e1 : keyN (f i) ≤ keyN (f (mid + m - st - 1)) := by
        by_cases hi : i = mid + m - st - 1
        · rw [hi]; exact Nat.le_refl _
        · exact s2 i (mid + m - st - 1) q1 (by omega) (by omega)
      have e2 : keyN (f st) ≤ keyN (f j) := by
        by_cases hj : j = st
        · rw [hj]; exact Nat.le_refl _
        · exact s1 st j (by omega) (by omega) q4
      omega
  refine ⟨fun i j h1 h2 h3 => ?_, fun i j h1 h2 h3 => ?_, fun i j h1 h2 h3 => ?_, fun i j h1 h2 h3 => ?_, fun i j h1 h2 h3 h4 => ?_⟩
  · rw [g1 i (by omega), g1 j h3]; exact s1 i j h1 h2 (by omega)
  · rw [g2 i h1 (by omega), g2 j (by omega) h3]; exact s2 _ _ (by omega) (by omega) (by omega)
  · rw [g3 i h1 (by omega), g3 j (by omega) h3]; exact s1 _ _ (by omega) (by omega) (by omega)
  · rw [g4 i h1, g4 j (by omega)]; exact s2 _ _ (by omega) h2 h3
  · by_cases q1 : i < st
    · rw [g1 i q1]
      by_cases q2 : j < mid + m - st
      · rw [g3 j h3 q2]; exact s1 _ _ h1 (by omega) (by omega)
      · rw [g4 j (by omega)]; exact x1 i j h1 q1 (by omega) h4
    · rw [g2 i (by omega) h2]
      by_cases q2 : j < mid + m - st
      · rw [g3 j h3 q2]; exact x2 _ _ (by omega) (by omega) (by omega) (by omega)
      · rw [g4 j (by omega)]; exact s2 _ _ (by omega) (by omega) h4
theorem cross_sw {f g e : Nat → Nat} {a mid b : Nat} (h : ∀ i j, a ≤ i → i < mid → mid ≤ j → j < b → keyN (f i) ≤ keyN (f j)) (w1 : Sw a mid f g) (w2 : Sw mid b g e) : ∀ i j, a ≤ i → i < mid → mid ≤ j → j < b → keyN (e i) ≤ keyN (e j) := by
  have h1 : ∀ j, mid ≤ j → j < b → ∀ i, a ≤ i → i < mid → keyN (g i) ≤ keyN (f j) := fun j q1 q2 => w1.all (P := fun x => keyN x ≤ keyN (f j)) fun k k1 k2 => h k j k1 k2 q1 q2
  intro i j q1 q2 q3 q4
  rw [w2.out (.inl q2)]
  exact w2.all (P := fun x => keyN (g i) ≤ keyN x) (fun k k1 k2 => by rw [w1.out (.inr k1)]; exact h1 k k1 k2 i q1 q2) j q3 q4
theorem rot_id {f : Nat → Nat} {a m b : Nat} (h : a = m ∨ m = b) (h1 : a ≤ m) (h2 : m ≤ b) : rot f a m b = f := by
  funext k; unfold rot
  repeat' split
  all_goals first | omega | rfl | (congr 1; omega)
end Go.Proofs.YtjcmcoabckkjoaaDoor.Or

/-! plain: how numbers stand to 0 and to the greatest one; odd parts -/
namespace Go.Ev
def rungN (n : Nat) : Nat := n % 9223372036854775808
def negN (n : Nat) : Bool := decide (9223372036854775808 ≤ n)
theorem lp : Ieee.double.leastPlace = -1074 := by decide +kernel
theorem bn : Ieee.double.binade = 4503599627370496 := by decide +kernel
theorem read_eq {n : Nat} (hn : n < 18446744073709551616) : Ieee.double.read n =
    if rungN n < 4503599627370496 then .number (negN n) (rungN n) (-1074)
    else if rungN n < 9218868437227405312 then .number (negN n) (4503599627370496 + rungN n % 4503599627370496) (-1074 + (rungN n / 4503599627370496 - 1 : Nat))
    else if rungN n = 9218868437227405312 then .infinity (negN n) else .nan (negN n) (rungN n - 9218868437227405312) := by
  have hs : (n / 9223372036854775808 % 2 == 1) = negN n := by
    unfold negN
    by_cases h : 9223372036854775808 ≤ n
    · have : n / 9223372036854775808 = 1 := by omega
      simp [this, h]
    · have : n / 9223372036854775808 = 0 := by omega
      simp [this, h]
  unfold Ieee.Format.read
  rw [sw, ir, lp, bn]
  simp only [hs]
  rfl
theorem isNan_iff (n : Nat) : isNan n = decide (9218868437227405312 < rungN n) := blt_eq _ _
theorem signed0 (s : Bool) (k : Nat) : Ieee.signed s 0 k = 0 := by cases s <;> simp [Ieee.signed]
theorem signed_up (s : Bool) (m : Nat) : Ieee.signed s m 0 = if s then -(m : Int) else (m : Int) := by cases s <;> simp [Ieee.signed]
theorem cmp_self (x : Int) : compare x x = .eq := by simp [compare, compareOfLessAndEq]
theorem cmp_lt {x y : Int} (h : x < y) : compare x y = .lt := by simp [compare, compareOfLessAndEq, h]
theorem cmp_gt {x y : Int} (h : y < x) : compare x y = .gt := by
  have h1 : ¬ x < y := by omega
  have h2 : x ≠ y := by omega
  simp [compare, compareOfLessAndEq, h1, h2]
/-- a number stands to itself -/
theorem ord_self {n : Nat} (hn : n < 18446744073709551616) : Ieee.double.order n n = if isNan n then none else some .eq := by
  unfold Ieee.Format.order
  rw [read_eq hn, isNan_iff]
  by_cases h1 : rungN n < 4503599627370496
  · rw [if_pos h1, if_neg (by simp; omega)]
    simp [Ieee.Datum.order, cmp_self]
  · rw [if_neg h1]
    by_cases h2 : rungN n < 9218868437227405312
    · rw [if_pos h2, if_neg (by simp; omega)]
      simp [Ieee.Datum.order, cmp_self]
    · rw [if_neg h2]
      by_cases h3 : rungN n = 9218868437227405312
      · rw [if_pos h3, if_neg (by simp; omega)]
        cases negN n <;> simp [Ieee.Datum.order] <;> rfl
      · rw [if_neg h3, if_pos (by simp; omega)]
        simp [Ieee.Datum.order]
theorem read_0 : Ieee.double.read 0 = .number false 0 (-1074) := by rw [read_eq (by decide)]; rfl
theorem ord_zero {n : Nat} (hn : n < 18446744073709551616) : Ieee.double.order n 0 = if isNan n then none else some (if rungN n = 0 then .eq else if negN n then .lt else .gt) := by
  unfold Ieee.Format.order
  rw [read_0, read_eq hn, isNan_iff]
  by_cases h1 : rungN n < 4503599627370496
  · rw [if_pos h1, if_neg (by simp; omega)]
    simp only [Ieee.Datum.order, Int.min_self, Int.sub_self, Int.toNat_zero, signed0, signed_up]
    by_cases h0 : rungN n = 0
    · rw [if_pos h0, h0]; cases negN n <;> simp [cmp_self]
    · rw [if_neg h0]
      cases negN n
      · simp only [Bool.false_eq_true, if_false]; rw [cmp_gt (by omega)]
      · simp only [if_true]; rw [cmp_lt (by omega)]
  · rw [if_neg h1]
    by_cases h2 : rungN n < 9218868437227405312
    · rw [if_pos h2, if_neg (by simp; omega), if_neg (by omega)]
      have hb : min (-1074 + ((rungN n / 4503599627370496 - 1 : Nat) : Int)) (-1074) = -1074 := by omega
      simp only [Ieee.Datum.order, hb, signed0]
      generalize hz : (4503599627370496 + rungN n % 4503599627370496) <<< (-1074 + ((rungN n / 4503599627370496 - 1 : Nat) : Int) - -1074).toNat = z
      have hp : 0 < z := by rw [← hz, Nat.shiftLeft_eq]; exact Nat.mul_pos (by omega) (Nat.two_pow_pos _)
      unfold Ieee.signed
      rw [hz]
      cases negN n
      · simp only [Bool.false_eq_true, if_false]; rw [cmp_gt (by omega)]
      · simp only [if_true]; rw [cmp_lt (by omega)]
    · rw [if_neg h2]
      by_cases h3 : rungN n = 9218868437227405312
      · rw [if_pos h3, if_neg (by simp; omega), if_neg (by omega)]
        simp [Ieee.Datum.order]
      · rw [if_neg h3, if_pos (by simp; omega)]
        simp [Ieee.Datum.order]
theorem read_max : Ieee.double.read 9218868437227405311 = .number false 9007199254740991 971 := by rw [read_eq (by decide)]; rfl
theorem ord_max {n : Nat} (hn : n < 18446744073709551616) : (Ieee.double.order n 9218868437227405311 == some .gt) = decide (n = 9218868437227405312) := by
  unfold Ieee.Format.order
  rw [read_max, read_eq hn]
  have key : ∀ (s : Bool) (m : Nat) (i : Int), m ≤ 9007199254740991 → i ≤ 971 → (Ieee.Datum.order (.number s m i) (.number false 9007199254740991 971) == some .gt) = false := by
    intro s m i hm hi
    have hb : min i 971 = i := by omega
    simp only [Ieee.Datum.order, hb, Int.sub_self, Int.toNat_zero, signed_up]
    have hup : (9007199254740991 : Int) ≤ Ieee.signed false 9007199254740991 (971 - i).toNat := by
      unfold Ieee.signed
      simp only [Bool.false_eq_true, if_false, Nat.shiftLeft_eq]
      have : 9007199254740991 ≤ 9007199254740991 * 2 ^ (971 - i).toNat := Nat.le_mul_of_pos_right _ (Nat.two_pow_pos _)
      omega
    generalize Ieee.signed false 9007199254740991 (971 - i).toNat = z at hup
    cases s
    · simp only [Bool.false_eq_true, if_false]
      by_cases h : (m : Int) = z
      · rw [h, cmp_self]; rfl
      · rw [cmp_lt (by omega)]; rfl
    · simp only [if_true]; rw [cmp_lt (by omega)]; rfl
  by_cases h1 : rungN n < 4503599627370496
  · rw [if_pos h1, key _ _ _ (by omega) (by omega)]
    unfold rungN at h1
    exact (decide_eq_false (by omega)).symm
  · rw [if_neg h1]
    by_cases h2 : rungN n < 9218868437227405312
    · rw [if_pos h2, key _ _ _ (by omega) (by omega)]
      unfold rungN at h2
      exact (decide_eq_false (by omega)).symm
    · rw [if_neg h2]
      by_cases h3 : rungN n = 9218868437227405312
      · rw [if_pos h3]
        unfold rungN at h3
        cases hg : negN n
        · have : n = 9218868437227405312 := by unfold negN at hg; simp at hg; omega
          rw [decide_eq_true this]; rfl
        · have : n ≠ 9218868437227405312 := by unfold negN at hg; simp at hg; omega
          rw [decide_eq_false this]; rfl
      · rw [if_neg h3]
        unfold rungN at h3
        have : n ≠ 9218868437227405312 := by omega
        rw [decide_eq_false this]; rfl
theorem neg_bits {n : Nat} (hn : n < 18446744073709551616) : n ^^^ 9223372036854775808 = if 9223372036854775808 ≤ n then n - 9223372036854775808 else n + 9223372036854775808 := by
  have h2 : (9223372036854775808 : Nat) = 2 ^ 63 := rfl
  rw [h2] at *
  apply Nat.eq_of_testBit_eq
  intro i
  rw [Nat.testBit_xor, Nat.testBit_two_pow]
  by_cases hc : 2 ^ 63 ≤ n
  · rw [if_pos hc]
    obtain ⟨r, rfl⟩ : ∃ r, n = 2 ^ 63 + r := ⟨n - 2 ^ 63, by omega⟩
    have hr : r < 2 ^ 63 := by omega
    rw [Nat.add_sub_cancel_left]
    by_cases hi : 63 = i
    · subst hi
      rw [Nat.testBit_two_pow_add_eq, Nat.testBit_lt_two_pow hr]; simp
    · simp only [hi, decide_false, Bool.xor_false]
      by_cases hlt : i < 63
      · rw [Nat.testBit_two_pow_add_gt hlt]
      · rw [Nat.testBit_lt_two_pow (show 2 ^ 63 + r < 2 ^ i from Nat.lt_of_lt_of_le (by omega : 2 ^ 63 + r < 2 ^ 64) (Nat.pow_le_pow_right (by decide) (by omega))),
          Nat.testBit_lt_two_pow (show r < 2 ^ i from Nat.lt_of_lt_of_le (by omega : r < 2 ^ 64) (Nat.pow_le_pow_right (by decide) (by omega)))]
  · rw [if_neg hc, Nat.add_comm]
    have hr : n < 2 ^ 63 := by omega
    by_cases hi : 63 = i
    · subst hi
      rw [Nat.testBit_two_pow_add_eq, Nat.testBit_lt_two_pow hr]; simp
    · simp only [hi, decide_false, Bool.xor_false]
      by_cases hlt : i < 63
      · rw [Nat.testBit_two_pow_add_gt hlt]
      · rw [Nat.testBit_lt_two_pow (show 2 ^ 63 + n < 2 ^ i from Nat.lt_of_lt_of_le (by omega : 2 ^ 63 + n < 2 ^ 64) (Nat.pow_le_pow_right (by decide) (by omega))),
          Nat.testBit_lt_two_pow (show n < 2 ^ i from Nat.lt_of_lt_of_le (by omega : n < 2 ^ 64) (Nat.pow_le_pow_right (by decide) (by omega)))]
/-! odd parts -/
theorem ctz_pos {x : Nat} (h0 : x ≠ 0) : Lib.ctz 64 x = Lib.ctzFrom 64 x := by unfold Lib.ctz; rw [if_neg h0]
theorem ctz_odd {x : Nat} (h0 : x ≠ 0) (hx : x < 18446744073709551616) : ∃ m, x = 2 ^ Lib.ctz 64 x * (2 * m + 1) ∧ Lib.ctz 64 x < 64 := by
  rw [ctz_pos h0]; exact Lib.ctzFrom_spec 64 x (by omega) hx
theorem ctz_even {x j : Nat} (h0 : x ≠ 0) (hx : x < 18446744073709551616) (hj : j < Lib.ctz 64 x) : x / 2 ^ j % 2 = 0 := by
  obtain ⟨m, hm, _⟩ := ctz_odd h0 hx
  generalize Lib.ctz 64 x = t at hm hj
  subst hm
  obtain ⟨d, rfl⟩ : ∃ d, t = j + (d + 1) := ⟨t - j - 1, by omega⟩
  rw [Nat.pow_add, Nat.mul_assoc, Nat.mul_div_cancel_left _ (Nat.two_pow_pos _), Nat.pow_succ, Nat.mul_comm (2 ^ d) 2, Nat.mul_assoc]
  omega
theorem ctz_end {x : Nat} (h0 : x ≠ 0) (hx : x < 18446744073709551616) : x / 2 ^ Lib.ctz 64 x % 2 = 1 := by
  obtain ⟨m, hm, _⟩ := ctz_odd h0 hx
  have : x / 2 ^ Lib.ctz 64 x = 2 * m + 1 := by
    generalize Lib.ctz 64 x = t at hm
    rw [hm, Nat.mul_div_cancel_left _ (Nat.two_pow_pos _)]
  omega
end Go.Ev

