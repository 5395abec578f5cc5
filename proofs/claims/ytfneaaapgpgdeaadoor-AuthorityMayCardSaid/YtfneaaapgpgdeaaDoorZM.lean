/- THE EVALUATOR, part 'M': a deterministic reading of the program's code over an abstract heap, and that the model does what it says. Conditions: none beyond each theorem's own. -/
import Derived.Test.YtfneaaapgpgdeaaDoorZOp
set_option linter.unusedSimpArgs false
set_option linter.unusedVariables false
namespace Go.Ev
/-! maps -/
section
variable {α : Type} [DecidableEq α]
def ent (kv : α → Value) (p : α × Value × Nat) : Value × Value × Nat := (kv p.1, p.2.1, p.2.2)
def mget : List (α × Value × Nat) → α → Option Value
  | [], _ => none
  | (k', v, _) :: es, k => if k = k' then some v else mget es k
def midx : List (α × Value × Nat) → α → Option (Nat × Value)
  | [], _ => none
  | (k', v, _) :: es, k => if k = k' then some (0, v) else (midx es k).map fun p => (p.1 + 1, p.2)
def mput : List (α × Value × Nat) → α → Value → List (α × Value × Nat)
  | [], _, _ => []
  | (k', v, b) :: es, k, x => if k = k' then (k', x, b) :: es else (k', v, b) :: mput es k x
def mdel : List (α × Value × Nat) → α → List (α × Value × Nat)
  | [], _ => []
  | (k', v, b) :: es, k => if k = k' then es else (k', v, b) :: mdel es k
/-- a key's type: how keys look, and that they are told apart -/
structure KeyOK (E : Env) (kt : TypeId) (kv : α → Value) : Prop where
  und : ∃ d, und E kt = some d ∧ ∀ a b, (cond (keyOk d) (akeyEq d (kv a) (kv b)) (aeq E 100 kt (kv a) (kv b))) = some (decide (a = b))
  chk : ∀ a, acheck E 20 kt (kv a) = true
  same : ∀ a, sameV 50 (kv a) (kv a) = true
variable {kv : α → Value}
theorem mget_idx : ∀ (M : List (α × Value × Nat)) (k : α), mget M k = (midx M k).map (·.2)
  | [], _ => rfl
  | (k', v, b) :: es, k => by
    simp only [mget, midx]
    by_cases h : k = k'
    · simp [h]
    · simp only [if_neg h, mget_idx es k, Option.map_map]; rfl
theorem afind_ent {E : Env} {kt : TypeId} {d : TypeDesc} (hd : ∀ a b, (cond (keyOk d) (akeyEq d (kv a) (kv b)) (aeq E 100 kt (kv a) (kv b))) = some (decide (a = b))) (k : α) :
    ∀ (M : List (α × Value × Nat)) (i : Nat), afind E kt d (kv k) (M.map (ent kv)) i = some ((midx M k).map fun p => (i + p.1, p.2))
  | [], i => rfl
  | (k', v, b) :: es, i => by
    simp only [List.map_cons, ent, afind, hd, midx]
    by_cases h : k = k'
    · simp [h]
    · simp only [decide_eq_false h, if_neg h]
      rw [show (es.map fun p => ent kv p) = es.map (ent kv) from rfl, afind_ent hd k es (i + 1)]
      simp only [Option.map_map]
      congr 1
      cases midx es k with
      | none => rfl
      | some p => simp; omega
theorem midx_nth : ∀ (M : List (α × Value × Nat)) (k : α) (j : Nat) (v : Value), midx M k = some (j, v) → ∃ b, (M.map (ent kv))[j]? = some (kv k, v, b)
  | [], k, j, v, h => by simp [midx] at h
  | (k', v', b) :: es, k, j, v, h => by
    simp only [midx] at h
    by_cases hk : k = k'
    · rw [if_pos hk] at h; cases h; exact ⟨b, by simp [ent, hk]⟩
    · rw [if_neg hk] at h
      simp only [Option.map_eq_some_iff, Prod.mk.injEq] at h
      obtain ⟨⟨j', v2⟩, h1, rfl, rfl⟩ := h
      obtain ⟨b', h2⟩ := midx_nth es k j' v2 h1
      exact ⟨b', by simpa using h2⟩
theorem midx_set : ∀ (M : List (α × Value × Nat)) (k : α) (j : Nat) (v x : Value), midx M k = some (j, v) → setVal (M.map (ent kv)) j x = (mput M k x).map (ent kv)
  | [], k, j, v, x, h => by simp [midx] at h
  | (k', v', b) :: es, k, j, v, x, h => by
    simp only [midx] at h
    by_cases hk : k = k'
    · rw [if_pos hk] at h; cases h
      simp [setVal, mput, if_pos hk, ent]
    · rw [if_neg hk] at h
      simp only [Option.map_eq_some_iff, Prod.mk.injEq] at h
      obtain ⟨⟨j', v2⟩, h1, rfl, rfl⟩ := h
      have := midx_set es k j' v2 x h1
      simp only [List.map_cons, mput, if_neg hk]
      simp only [setVal, ent, show Nat.beq (j' + 1) 0 = false from rfl, cond_false, Nat.add_sub_cancel]
      rw [this]
theorem midx_del : ∀ (M : List (α × Value × Nat)) (k : α) (j : Nat) (v : Value), midx M k = some (j, v) → (M.map (ent kv)).take j ++ dropN (M.map (ent kv)) (j + 1) = (mdel M k).map (ent kv)
  | [], k, j, v, h => by simp [midx] at h
  | (k', v', b) :: es, k, j, v, h => by
    simp only [midx] at h
    by_cases hk : k = k'
    · rw [if_pos hk] at h; cases h
      simp [mdel, if_pos hk, dropN_eq]
    · rw [if_neg hk] at h
      simp only [Option.map_eq_some_iff, Prod.mk.injEq] at h
      obtain ⟨⟨j', v2⟩, h1, rfl, rfl⟩ := h
      have := midx_del es k j' v2 h1
      simp only [dropN_eq] at this ⊢
      simp only [List.map_cons, mdel, if_neg hk, List.take_succ_cons, List.drop_succ_cons, List.cons_append, this]
theorem mget_put : ∀ (M : List (α × Value × Nat)) (k : α) (x : Value), mget M k ≠ none → ∀ k', mget (mput M k x) k' = if k' = k then some x else mget M k'
  | [], k, x, h, k' => by simp [mget] at h
  | (k0, v, b) :: es, k, x, h, k' => by
    simp only [mget, mput] at h ⊢
    by_cases hk : k = k0
    · subst hk
      simp only [if_true, mget]
      by_cases h1 : k' = k <;> simp [h1]
    · simp only [if_neg hk] at h ⊢
      simp only [mget, mget_put es k x h k']
      by_cases h1 : k' = k0
      · rw [if_pos h1, if_pos h1, if_neg (by rintro rfl; exact hk h1)]
      · rw [if_neg h1, if_neg h1]
theorem mget_snoc : ∀ (M : List (α × Value × Nat)) (k : α) (x : Value) (c : Nat), mget M k = none → ∀ k', mget (M ++ [(k, x, c)]) k' = if k' = k then some x else mget M k'
  | [], k, x, c, h, k' => by simp [mget]
  | (k0, v, b) :: es, k, x, c, h, k' => by
    simp only [mget, List.cons_append] at h ⊢
    by_cases hk : k = k0
    · rw [if_pos hk] at h; cases h
    · rw [if_neg hk] at h
      rw [mget_snoc es k x c h k']
      by_cases h1 : k' = k0
      · rw [if_pos h1, if_pos h1, if_neg (by rintro rfl; exact hk h1)]
      · rw [if_neg h1, if_neg h1]
theorem mget_mem : ∀ (M : List (α × Value × Nat)) (k : α), mget M k = none ↔ k ∉ M.map (·.1)
  | [], k => by simp [mget]
  | (k0, v, b) :: es, k => by
    simp only [mget, List.map_cons, List.mem_cons, not_or]
    by_cases hk : k = k0
    · simp [hk]
    · rw [if_neg hk, mget_mem es k]; simp [hk]
theorem mput_keys : ∀ (M : List (α × Value × Nat)) (k : α) (x : Value), (mput M k x).map (·.1) = M.map (·.1)
  | [], k, x => rfl
  | (k0, v, b) :: es, k, x => by
    simp only [mput]
    by_cases hk : k = k0
    · simp [hk]
    · simp only [if_neg hk, List.map_cons, mput_keys es k x]
theorem mdel_sub : ∀ (M : List (α × Value × Nat)) (k : α), (mdel M k).Sublist M
  | [], k => .slnil
  | (k0, v, b) :: es, k => by
    simp only [mdel]
    by_cases hk : k = k0
    · simp [hk]
    · simp only [if_neg hk]; exact (mdel_sub es k).cons_cons _
theorem mget_del : ∀ (M : List (α × Value × Nat)) (k : α), (M.map (·.1)).Nodup → ∀ k', mget (mdel M k) k' = if k' = k then none else mget M k'
  | [], k, h, k' => by simp [mget, mdel]
  | (k0, v, b) :: es, k, h, k' => by
    simp only [List.map_cons, List.nodup_cons] at h
    simp only [mget, mdel]
    by_cases hk : k = k0
    · subst hk
      simp only [if_true]
      by_cases h1 : k' = k
      · subst h1; simp only [if_true]; exact (mget_mem es k').2 h.1
      · simp [h1]
    · simp only [if_neg hk, mget, mget_del es k h.2 k']
      by_cases h1 : k' = k0
      · rw [if_pos h1, if_pos h1, if_neg (by rintro rfl; exact hk h1)]
      · rw [if_neg h1, if_neg h1]

/-- a map, as a function -/
def MapAt (kv : α → Value) (h : Heap) (r : Nat) (f : α → Option Value) : Prop :=
  r < h.n ∧ ∃ M c, h.b.get r = some (.map (M.map (ent kv)) c) ∧ (M.map (·.1)).Nodup ∧ ∀ k, mget M k = f k
theorem MapAt.ext {h h' : Heap} {r : Nat} {f : α → Option Value} (m : MapAt kv h r f) (hn : h.n ≤ h'.n) (hg : h'.b.get r = h.b.get r) : MapAt kv h' r f := by
  obtain ⟨h1, M, c, h2, h3, h4⟩ := m
  exact ⟨by omega, M, c, by rw [hg, h2], h3, h4⟩
theorem MapAt.new (h : Heap) : MapAt kv (newBlk h (.map [] 0)) h.n (fun _ => none) := ⟨by simp [newBlk], [], 0, newBlk_same _ _, by simp, fun k => rfl⟩
theorem MapAt.congr {h : Heap} {r : Nat} {f g : α → Option Value} (m : MapAt kv h r f) (e : ∀ k, f k = g k) : MapAt kv h r g := by
  obtain ⟨h1, M, c, h2, h3, h4⟩ := m
  exact ⟨h1, M, c, h2, h3, fun k => by rw [h4, e]⟩
theorem MapAt.get {h : Heap} {r : Nat} {f : α → Option Value} (m : MapAt kv h r f) : ∃ M c, getMap h (.map (some r)) = some (M.map (ent kv), c) ∧ (M.map (·.1)).Nodup ∧ ∀ k, mget M k = f k := by
  obtain ⟨h1, M, c, h2, h3, h4⟩ := m
  refine ⟨M, c, ?_, h3, h4⟩
  simp [getMap, blt_eq, h1, h2]
end
section
variable {α : Type} [DecidableEq α] {kv : α → Value} {E : Env} {fr : Fr} {h : Heap} {K : Value → Heap → Prop} {x y z : Operand} {t t' kt et : TypeId} {r : Nat} {f : α → Option Value} {k : α}
def lookK (E : Env) (t : TypeId) (m k : Value) (ok : Bool) (h : Heap) (K : Value → Prop) [Tok K] : Prop := onV (alookup E t m k ok h) K
theorem opW_lookup {ok : Bool} : opW E (.lookup t x y ok) fr h K = evK E fr x fun m => evK E fr y fun k => lookK E t m k ok h fun u => K u h := by
  rw [opW_read rfl (by simp)]
  simp only [readOp, operOf, evK, onV, lookK]
  cases ev E fr x with
  | none => simp
  | some v => cases ev E fr y <;> simp
theorem look_map {zv : Value} {K : Value → Prop} (hm : MapAt kv h r f) (hu : und E t = some (.map kt et)) (hk : KeyOK E kt kv) (hz : zero E et = some zv) (q : K ((f k).getD zv)) :
    lookK E t (.map (some r)) (kv k) false h K := by
  obtain ⟨d, hd, hd2⟩ := hk.und
  obtain ⟨M, c, hg, h3, h4⟩ := hm.get
  have hl : alookup E t (.map (some r)) (kv k) false h = some ((f k).getD zv) := by
    simp only [alookup, hu, hd, hk.chk, cond_true, hg, Option.map_some, afind_ent hd2]
    rw [← h4, mget_idx]
    cases midx M k with
    | none => simp [hz]
    | some p => simp
  simp only [lookK, hl, onV_some']; exact q
theorem look_mapOk {zv : Value} {K : Value → Prop} (hm : MapAt kv h r f) (hu : und E t = some (.map kt et)) (hk : KeyOK E kt kv) (hz : zero E et = some zv) (q : K (.tuple #[(f k).getD zv, .bool (f k).isSome])) :
    lookK E t (.map (some r)) (kv k) true h K := by
  obtain ⟨d, hd, hd2⟩ := hk.und
  obtain ⟨M, c, hg, h3, h4⟩ := hm.get
  have hl : alookup E t (.map (some r)) (kv k) true h = some (.tuple #[(f k).getD zv, .bool (f k).isSome]) := by
    simp only [alookup, hu, hd, hk.chk, cond_true, hg, Option.map_some, afind_ent hd2]
    rw [← h4, mget_idx]
    cases midx M k with
    | none => simp [hz]
    | some p => simp
  simp only [lookK, hl, onV_some']; exact q
def updK (E : Env) (t : TypeId) (m k v : Value) (h : Heap) (K : Value → Heap → Prop) [Tok K] : Prop := onV (amapUpdate E t m k v h) fun h' => K undef h'
theorem opW_mapUpdate : opW E (.mapUpdate t x y z) fr h K = evK E fr x fun m => evK E fr y fun k => evK E fr z fun v => updK E t m k v h K := by
  rw [opW_act rfl (by simp)]
  simp only [actOp, operOf, evK, onV, updK]
  cases ev E fr x with
  | none => simp [onR]
  | some a =>
    cases ev E fr y with
    | none => simp [onR]
    | some b =>
      cases ev E fr z with
      | none => simp [onR]
      | some c =>
        simp only [Option.some.injEq, exists_eq_left']
        generalize amapUpdate E t a b c h = r
        cases r with
        | none => simp [onR]
        | some h' => simp [onR_some]
theorem upd_map {v : Value} (hm : MapAt kv h r f) (hu : und E t = some (.map kt et)) (hk : KeyOK E kt kv) (q : ∀ b, MapAt kv { h with b := h.b.set r b } r (fun k' => if k' = k then some v else f k') → K undef { h with b := h.b.set r b }) :
    updK E t (.map (some r)) (kv k) v h K := by
  obtain ⟨d, hd, hd2⟩ := hk.und
  have hr := hm.1
  obtain ⟨M, c, hg, h3, h4⟩ := hm.get
  unfold updK
  simp only [amapUpdate, hu, hd, hg, hk.chk, cond_true, afind_ent hd2]
  cases hi : midx M k with
  | none =>
    have hn : mget M k = none := by rw [mget_idx, hi]; rfl
    simp only [Option.map_none, onV_some']
    refine q _ ⟨hr, M ++ [(k, v, c)], c + 1, ?_, ?_, fun k' => ?_⟩
    · simp [T.get_set, ent]
    · rw [List.map_append, List.nodup_append]
      refine ⟨h3, by simp, fun a ha b hb => ?_⟩
      simp at hb; subst hb
      rintro rfl
      exact (mget_mem M a).1 hn ha
    · rw [mget_snoc M k v c hn k', h4]
  | some p =>
    obtain ⟨j, v0⟩ := p
    have hs : mget M k ≠ none := by rw [mget_idx, hi]; simp
    obtain ⟨b, hb⟩ := midx_nth (kv := kv) M k j v0 hi
    simp only [Option.map_some, Nat.zero_add, nth_eq, hb, hk.same, cond_true, onV_some', midx_set M k j v0 v hi]
    refine q _ ⟨hr, mput M k v, c, ?_, ?_, fun k' => ?_⟩
    · simp [T.get_set]
    · rw [mput_keys]; exact h3
    · rw [mget_put M k v hs k', h4]
def delK (E : Env) (t : TypeId) (m k : Value) (h : Heap) (K : Value → Heap → Prop) [Tok K] : Prop := onV (adelete E t m k h) fun h' => K undef h'
theorem opW_delete : opW E (.call ⟨.builtin .delete, ⟨[x, y]⟩, ⟨[t, t']⟩⟩) fr h K = evK E fr x fun m => evK E fr y fun k => delK E t m k h K := by
  simp only [opW, opBy, valOp, flOp, qcall, operOf, kindOf, actOp, evs, mapOpt, evK, onV, delK]
  cases ev E fr x with
  | none => simp [onR]
  | some a =>
    cases ev E fr y with
    | none => simp [onR]
    | some b =>
      simp only [Option.some.injEq, exists_eq_left']
      generalize adelete E t a b h = r
      cases r with
      | none => simp [onR]
      | some h' => simp [onR_some]
theorem del_map (hm : MapAt kv h r f) (hu : und E t = some (.map kt et)) (hk : KeyOK E kt kv) (q : ∀ b, MapAt kv { h with b := h.b.set r b } r (fun k' => if k' = k then none else f k') → K undef { h with b := h.b.set r b }) :
    delK E t (.map (some r)) (kv k) h K := by
  obtain ⟨d, hd, hd2⟩ := hk.und
  have hr := hm.1
  obtain ⟨M, c, hg, h3, h4⟩ := hm.get
  unfold delK
  simp only [adelete, hu, hd, hg, hk.chk, cond_true, afind_ent hd2]
  cases hi : midx M k with
  | none =>
    have hn : mget M k = none := by rw [mget_idx, hi]; rfl
    simp only [Option.map_none, onV_some']
    refine q _ ⟨hr, M, c, ?_, h3, fun k' => ?_⟩
    · simp [T.get_set]
    · by_cases hk' : k' = k
      · subst hk'; simp [hn]
      · simp [hk', h4]
  | some p =>
    obtain ⟨j, v0⟩ := p
    simp only [Option.map_some, Nat.zero_add, onV_some', midx_del M k j v0 hi]
    refine q _ ⟨hr, mdel M k, c, ?_, ?_, fun k' => ?_⟩
    · simp [T.get_set]
    · exact h3.sublist ((mdel_sub M k).map _)
    · rw [mget_del M k h3 k', h4]
def isMap (E : Env) (t : TypeId) : Bool := match und E t with | some (.map _ _) => true | _ => false
def lenMK (E : Env) (t : TypeId) (m : Value) (h : Heap) (K : Value → Prop) [Tok K] : Prop := onV (alenR E t m h) K
theorem opW_lenM (ht : isMap E t = true) : opW E (.call ⟨.builtin .len, ⟨[x]⟩, ⟨[t]⟩⟩) fr h K = evK E fr x fun v => lenMK E t v h fun u => K u h := by
  unfold isMap at ht
  split at ht
  · rename_i a b hu
    simp only [opW, opBy, valOp, flOp, qcall, operOf, kindOf, hu, readOp, evs, mapOpt, evK, onR_map, onV, lenMK]
    cases ev E fr x with
    | none => simp
    | some v => simp
  · cases ht
theorem len_map {K : Value → Prop} (hm : MapAt kv h r f) (hu : und E t = some (.map kt et)) (q : ∀ n : Nat, (n = 0 ↔ ∀ k, f k = none) → K (.int .i64 n)) : lenMK E t (.map (some r)) h K := by
  obtain ⟨M, c, hg, h3, h4⟩ := hm.get
  have hl : alenR E t (.map (some r)) h = some (.int .i64 M.length) := by simp [alenR, hu, hg]
  simp only [lenMK, hl, onV_some']
  refine q _ ⟨fun h0 k => ?_, fun h0 => ?_⟩
  · rw [← h4, List.length_eq_zero_iff.1 h0]; rfl
  · cases M with
    | nil => rfl
    | cons p M =>
      have := h0 p.1
      rw [← h4] at this
      simp [mget] at this
theorem opW_makeMap (hu : (und E t).isSome = true) (hns : E.smap t = false) : opW E (.makeMap t none) fr h K = K (.map (some h.n)) (newBlk h (.map [] 0)) := by
  obtain ⟨d, hd⟩ := Option.isSome_iff_exists.1 hu
  rw [opW_alloc' rfl (by simp)]
  simp [allocOp, operOf, hd, onV, hns]
end
end Go.Ev
