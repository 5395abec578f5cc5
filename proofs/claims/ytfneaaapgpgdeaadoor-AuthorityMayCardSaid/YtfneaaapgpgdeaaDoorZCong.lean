/- THE EVALUATOR, part 'Cong': a deterministic reading of the program's code over an abstract heap, and that the model does what it says. Conditions: none beyond each theorem's own. -/
import Derived.Test.YtfneaaapgpgdeaaDoorZPlan
set_option linter.unusedSimpArgs false
set_option linter.unusedVariables false
namespace Go.Ev
section
variable {E : Env} {fr fr' : Fr}

theorem ev_congr {x : Operand} (h : ∀ t, t ∈ tmpOf x → fr.get t = fr'.get t) : ev E fr x = ev E fr' x := by
  cases x with
  | tmp t => simp only [ev, h t (by simp [tmpOf])]
  | _ => rfl

theorem mapOpt_congr {α β : Type} {f g : α → Option β} : ∀ {l : List α}, (∀ x ∈ l, f x = g x) → mapOpt f l = mapOpt g l
  | [], _ => rfl
  | x :: l, h => by
    simp only [mapOpt]
    rw [h x List.mem_cons_self, mapOpt_congr fun y hy => h y (List.mem_cons_of_mem _ hy)]

theorem evs_congr {xs : Array Operand} (h : ∀ x ∈ xs, ev E fr x = ev E fr' x) : evs E fr xs = evs E fr' xs :=
  mapOpt_congr fun x hx => h x (by simpa using hx)
theorem evp_congr {ps : Array (Nat × Operand)} (h : ∀ x ∈ ps.map (·.2), ev E fr x = ev E fr' x) : evp E fr ps = evp E fr' ps :=
  mapOpt_congr fun p hp => by
    show Option.map (p.1, ·) (ev E fr p.2) = Option.map (p.1, ·) (ev E fr' p.2)
    rw [h p.2 (Array.mem_map.2 ⟨p, by simpa using hp, rfl⟩)]
theorem evo_congr {x : Option Operand} (h : ∀ y, x = some y → ev E fr y = ev E fr' y) : evo E fr x = evo E fr' x := by
  cases x with
  | none => rfl
  | some y => simp only [evo, h y rfl]

theorem pureOp_congr {o : Oper} (h : ∀ x ∈ o.op.operands, ev E fr x = ev E fr' x) : pureOp E fr o = pureOp E fr' o := by
  obtain ⟨dst, op, type, pos, after, guard⟩ := o
  cases op <;> simp only [Op.operands] at h <;> simp only [pureOp]
  case build t ps => rw [evp_congr fun x hx => h x (by simpa using hx)]
  case makeFunc fn first cap => rw [evs_congr (xs := first) fun x hx => h x (by simp [hx]), evs_congr (xs := cap) fun x hx => h x (by simp [hx])]
  case slice t x lo hi mx =>
    rw [evo_congr (x := lo) fun y hy => h y (by subst hy; simp), evo_congr (x := hi) fun y hy => h y (by subst hy; simp), evo_congr (x := mx) fun y hy => h y (by subst hy; simp), h x (by simp)]
  case call c => rw [evs_congr (xs := c.args) fun x hx => h x (by simp [Call.operands]; cases c.callee <;> simp [hx])]
  all_goals first | rfl | (simp_all; done)
theorem valOp_congr {o : Oper} (h : ∀ x ∈ o.op.operands, ev E fr x = ev E fr' x) : valOp E fr o = valOp E fr' o := by
  have : flOp E fr o = flOp E fr' o := by
    obtain ⟨dst, op, type, pos, after, guard⟩ := o
    cases op <;> simp only [Op.operands] at h <;> simp only [flOp]
    case binOp op t x y g => rw [h x (by simp), h y (by simp)]
    case call c => simp only [qcall]; rw [evs_congr (xs := c.args) fun x hx => h x (by simp [Call.operands]; cases c.callee <;> simp [hx])]
  unfold valOp
  rw [this, pureOp_congr h]
theorem readOp_congr {o : Oper} (h : ∀ x ∈ o.op.operands, ev E fr x = ev E fr' x) (H : Heap) : readOp E fr o H = readOp E fr' o H := by
  obtain ⟨dst, op, type, pos, after, guard⟩ := o
  cases op <;> simp only [Op.operands] at h <;> simp only [readOp]
  case call c => rw [evs_congr (xs := c.args) fun x hx => h x (by simp [Call.operands]; cases c.callee <;> simp [hx])]
  all_goals first | rfl | (simp_all; done)
theorem allocOp_congr {o : Oper} (h : ∀ x ∈ o.op.operands, ev E fr x = ev E fr' x) : allocOp E fr o = allocOp E fr' o := by
  obtain ⟨dst, op, type, pos, after, guard⟩ := o
  cases op <;> simp only [Op.operands] at h <;> simp only [allocOp]
  case buildSlice t n ps => rw [evp_congr fun x hx => h x (by simpa using hx)]
  case makeMap t r => cases r with
    | none => cases und E t <;> rfl
    | some x =>
      have hx := h x (by simp)
      cases und E t with
      | none => rfl
      | some d => cases d <;> first | rfl | simp only [hx]
  all_goals first | rfl | (simp_all; done)
theorem actOp_congr {o : Oper} (h : ∀ x ∈ o.op.operands, ev E fr x = ev E fr' x) (H : Heap) : actOp E fr o H = actOp E fr' o H := by
  obtain ⟨dst, op, type, pos, after, guard⟩ := o
  cases op <;> simp only [Op.operands] at h <;> simp only [actOp]
  case call c => rw [evs_congr (xs := c.args) fun x hx => h x (by simp [Call.operands]; cases c.callee <;> simp [hx])]
  all_goals first | rfl | (simp_all; done)
theorem target_congr {c : Call} (h : ∀ x ∈ c.operands, ev E fr x = ev E fr' x) : target E fr c = target E fr' c := by
  unfold target
  rw [mapOpt_congr (f := ev E fr) (g := ev E fr') fun x hx => h x (by simp [Call.operands]; cases c.callee <;> simp at hx ⊢ <;> simp [hx])]
  cases hc : c.callee with
  | value f => simp only [h f (by simp [Call.operands, hc])]
  | _ => rfl
theorem opBy_congr {o : Oper} (h : ∀ x ∈ o.op.operands, ev E fr x = ev E fr' x) (call : Fn → List Value → Heap → Option (Value × Heap)) (H : Heap) : opBy E call fr o H = opBy E call fr' o H := by
  unfold opBy
  rw [valOp_congr h, readOp_congr h, allocOp_congr h, actOp_congr h]
  cases ho : o.op with
  | call c =>
    have ht : target E fr c = target E fr' c := target_congr (by intro x hx; exact h x (by rw [ho]; exact hx))
    simp only [ht]
  | _ => rfl

theorem looks_operands {l : List Oper} {o : Oper} (h : ∀ t ∈ looks l o, fr.get t = fr'.get t) : ∀ x ∈ o.op.operands, ev E fr x = ev E fr' x := fun x hx =>
  ev_congr fun t ht => h t (List.mem_append_right _ (List.mem_flatMap.2 ⟨x, by simpa using hx, ht⟩))
theorem wanted_congr {l : List Oper} {o : Oper} (h : ∀ t ∈ looks l o, fr.get t = fr'.get t) : wantedA l fr o = wantedA l fr' o := by
  unfold wantedA
  cases hg : o.guard with
  | none => rfl
  | some p =>
    obtain ⟨j, w⟩ := p
    simp only
    cases hd : (nth l j).bind (·.dst) with
    | none => rfl
    | some d => simp only [h d (List.mem_append_left _ (by simp [hg, hd]))]

/-! reads, and new blocks -/
theorem get_newBlk {h : Heap} {i : Nat} {k : Blk} (hi : i < h.n) : (newBlk h k).b.get i = h.b.get i := by rw [newBlk, T.get_set_ne _ _ (by omega)]
theorem cellsAt_mono {h : Heap} {a : Addr} {n : Nat} {l : List Value} (k : Blk) (e : cellsAt h a n = some l) : cellsAt (newBlk h k) a n = some l := by
  unfold cellsAt at e ⊢
  rw [cond_beq] at e ⊢
  by_cases hn : n = 0
  · rw [if_pos hn] at e ⊢; exact e
  · rw [if_neg hn] at e ⊢
    split at e
    · cases e
    · rw [blt_eq] at e ⊢
      by_cases hlt : a.block < h.n
      · rw [get_newBlk hlt]
        have : a.block < (newBlk h k).n := by simp [newBlk]; omega
        simp only [hlt, this, decide_true, cond_true] at e ⊢
        exact e
      · simp [hlt] at e
theorem getMap_mono {h : Heap} {m : Value} {r : List (Value × Value × Nat) × Nat} (k : Blk) (e : getMap h m = some r) : getMap (newBlk h k) m = some r := by
  unfold getMap at e ⊢
  split at e
  · rename_i j
    rw [blt_eq] at e ⊢
    by_cases hlt : j < h.n
    · rw [get_newBlk hlt]
      have : j < (newBlk h k).n := by simp [newBlk]; omega
      simp only [hlt, this, decide_true, cond_true] at e ⊢
      exact e
    · simp [hlt] at e
  · cases e
theorem loadAt_mono {h : Heap} {t : TypeId} {x v : Value} (k : Blk) (e : loadAt E t x h = some v) : loadAt E t x (newBlk h k) = some v := by
  unfold loadAt at e ⊢
  split at e
  · rename_i a i hi
    have one : ∀ d : TypeDesc, (match cellsAt h a 1 with | some [v] => some v | _ => none) = some v → (match cellsAt (newBlk h k) a 1 with | some [v] => some v | _ => none) = some v := by
      intro d e
      cases hc : cellsAt h a 1 with
      | none => rw [hc] at e; cases e
      | some l => rw [hc] at e; rw [cellsAt_mono k hc]; exact e
    have agg : (cellsAt h a i.size).map (fun l => Value.agg l.toArray) = some v → (cellsAt (newBlk h k) a i.size).map (fun l => Value.agg l.toArray) = some v := by
      intro e
      simp only [Option.map_eq_some_iff] at e ⊢
      obtain ⟨l, hl, hv⟩ := e
      exact ⟨l, cellsAt_mono k hl, hv⟩
    (try simp only [hi])
    cases hd : i.desc with
    | struct fs => rw [hd] at e; exact agg e
    | array n el => rw [hd] at e; exact agg e
    | invalid => rw [hd] at e; exact e
    | _ => rw [hd] at e; exact one .invalid e
  · cases e
theorem getSmap_mono {h : Heap} {r : Nat} {es : List (Nat × Value × Value)} (k : Blk) (e : getSmap h (.map (some r)) = some es) :
    getSmap (newBlk h k) (.map (some r)) = some es ∧ getMap h (.map (some r)) = none ∧ getMap (newBlk h k) (.map (some r)) = none := by
  simp only [getSmap] at e
  cases hb : Nat.blt r h.n with
  | false => rw [hb] at e; cases e
  | true =>
    rw [hb, cond_true] at e
    have hlt : r < h.n := by simpa [Nat.blt_eq] using hb
    have hg : (newBlk h k).b.get r = h.b.get r := get_newBlk hlt
    have hb2 : Nat.blt r (newBlk h k).n = true := by rw [Nat.blt_eq]; simp only [newBlk]; omega
    split at e
    · rename_i es0 he
      cases e
      simp only [getSmap, getMap, hb, hb2, hg, he, cond_true, and_self]
    · cases e
theorem alookup_mono {h : Heap} {t : TypeId} {m x v : Value} {ok : Bool} (k : Blk) (e : alookup E t m x ok h = some v) : alookup E t m x ok (newBlk h k) = some v := by
  unfold alookup at e ⊢
  split at e
  · rename_i kt et hu
    (try simp only [hu])
    split at e
    · cases e
    · rename_i d hd
      (try simp only [hd])
      cases hc : acheck E 20 kt x with
      | false => rw [hc] at e; cases e
      | true =>
        rw [hc] at e
        simp only [cond_true] at e ⊢
        cases m with
        | map r =>
          cases r with
          | none => exact e
          | some r =>
            simp only at e ⊢
            cases hg : getMap h (.map (some r)) with
            | none =>
              rw [hg] at e
              simp only [Option.map_none] at e
              cases hko : keyOk d with
              | false => rw [hko] at e; cases e
              | true =>
                rw [hko] at e
                simp only [cond_true] at e
                cases hs : getSmap h (.map (some r)) with
                | none => rw [hs] at e; cases e
                | some es =>
                  obtain ⟨g1, _, g3⟩ := getSmap_mono k hs
                  rw [hs] at e
                  rw [g3]
                  simp only [Option.map_none, cond_true, g1]
                  exact e
            | some p => rw [hg] at e; rw [getMap_mono k hg]; exact e
        | _ => cases hko : keyOk d <;> simp [getMap, getSmap, hko] at e
  · cases e
theorem aconvertR_mono {h : Heap} {s d : TypeId} {x v : Value} (k : Blk) (e : aconvertR E s d x h = some v) : aconvertR E s d x (newBlk h k) = some v := by
  unfold aconvertR at e ⊢
  split at e
  · rename_i el hs hd
    (try simp only [hs, hd])
    split at e
    · rename_i h1; (try simp only [h1]); exact e
    · rename_i a len c h1
      (try simp only [h1])
      split at e
      · rename_i l hl; rw [cellsAt_mono k hl]; exact e
      · cases e
    · cases e
  · cases e
theorem alenR_mono {h : Heap} {t : TypeId} {x v : Value} (k : Blk) (e : alenR E t x h = some v) : alenR E t x (newBlk h k) = some v := by
  unfold alenR at e ⊢
  split at e
  · rename_i h1; (try simp only [h1]); exact e
  · rename_i h1 hne
    simp only [Option.map_eq_some_iff] at e
    obtain ⟨r, hr, rfl⟩ := e
    rw [getMap_mono k hr]
    rfl
  · cases e
theorem readOp_mono {h : Heap} {o : Oper} {v : Value} (k : Blk) (e : readOp E fr o h = some v) : readOp E fr o (newBlk h k) = some v := by
  unfold readOp at e ⊢
  split at e
  · rename_i ho; (try simp only [ho])
    split at e
    · rename_i hx; (try simp only [hx]); exact loadAt_mono k e
    · cases e
  · rename_i ho; (try simp only [ho])
    split at e
    · rename_i hx hi; (try simp only [hx, hi]); exact alookup_mono k e
    · cases e
  · rename_i ho; (try simp only [ho])
    split at e
    · rename_i hx; (try simp only [hx]); exact aconvertR_mono k e
    · cases e
  · rename_i c ho; (try simp only [ho])
    split at e
    · rename_i hb; (try simp only [hb])
      split at e
      · rename_i h1 h2; (try simp only [h1, h2]); exact alenR_mono k e
      · cases e
    · cases e
  · cases e

end
end Go.Ev
