/- THE EVALUATOR, part 'Eq': a deterministic reading of the program's code over an abstract heap, and that the model does what it says. Conditions: none beyond each theorem's own. -/
import Derived.Test.YtfneaaapgpgdeaaDoorZHeap
import Derived.ChangeKeysEq
import Derived.WideKeyRuns
import Derived.DefersIn
import Derived.Calls
set_option linter.unusedSimpArgs false
set_option linter.unusedVariables false
namespace Go.Ev
open Go.RowKit

/-- does nothing as a deferred call, where nothing panics -/
def HarmD (P : Program) (f : FuncId) : Prop :=
  (∃ fn c, P.funcs[f]? = some fn ∧ fn.body = some c) ∧
  ∀ (args : Array Value) (w : World), CallsDIn Fence.wide 0 P f args .returning w fun e u w' => (∃ v, e = .returned v) ∧ u = .returning ∧ w' = w

structure EnvOK (P : Program) (E : Env) : Prop where
  tab : ∀ t i, E.tab.get t = some i → ∃ info, P.info? t = some info ∧ (i.desc ≠ .invalid → P.underlying t = some i.desc) ∧ info.size = i.size ∧ info.bytes = i.bytes ∧
    info.comparable = i.comparable ∧ (∀ z, i.zero = some z → info.zero = some z ∧ constOk z = true) ∧ (i.stood = false → P.stoodInHeld t = false)
  funs : ∀ f fn, E.funs.get f = some fn → P.funcs[f]? = some fn
  mixed : P.follows .mixedOrders = true
  dfr : ∀ f, E.dfr f = true → HarmD P f
  qc : ∀ f l v, E.qf f = true → E.qc f l = some v → ∀ (ρ : Ren) (w : World) (args' : Array Value), VRL ρ l args'.toList →
    (callFunc f args').run P w = .ok (.enter f args') w ∧ Calls P f args' w fun e w' => ∃ v', e = .returned v' ∧ VR ρ v v' ∧ Below w.heap.size w w'

section
variable {P : Program} {E : Env} {ρ : Ren}
theorem EnvOK.und (hE : EnvOK P E) {t : TypeId} {d : TypeDesc} (h : und E t = some d) (hd : d ≠ .invalid) : P.underlying t = some d := by
  simp only [Ev.und, Option.map_eq_some_iff] at h
  obtain ⟨i, hi, rfl⟩ := h
  obtain ⟨info, _, hu, _⟩ := hE.tab t i hi
  exact hu hd
theorem EnvOK.size (hE : EnvOK P E) {t : TypeId} {n : Nat} (h : Ev.size E t = some n) : ∃ info, P.info? t = some info ∧ info.size = n := by
  simp only [Ev.size, Option.map_eq_some_iff] at h
  obtain ⟨i, hi, rfl⟩ := h
  obtain ⟨info, e, _, hs, _⟩ := hE.tab t i hi
  exact ⟨info, e, hs⟩
theorem EnvOK.run_size (hE : EnvOK P E) {t : TypeId} {n : Nat} (h : Ev.size E t = some n) (w : World) : (sizeOf t).run P w = .ok n w := by
  obtain ⟨info, e, hs⟩ := hE.size h
  simp [sizeOf, Go.run_typeInfo w e, hs]
theorem EnvOK.cellsOf (hE : EnvOK P E) {t : TypeId} {n : Nat} (h : Ev.size E t = some n) : P.cellsOf t = n := by
  obtain ⟨info, e, hs⟩ := hE.size h
  simp [Program.cellsOf, e, hs]
theorem EnvOK.zero (hE : EnvOK P E) {t : TypeId} {z : Value} (h : Ev.zero E t = some z) : (∃ info, P.info? t = some info ∧ info.zero = some z) ∧ constOk z = true := by
  simp only [Ev.zero, Option.bind_eq_some_iff] at h
  obtain ⟨i, hi, hz⟩ := h
  obtain ⟨info, e, _, _, _, _, hzz, _⟩ := hE.tab t i hi
  exact ⟨⟨info, e, (hzz z hz).1⟩, (hzz z hz).2⟩
theorem EnvOK.run_zero (hE : EnvOK P E) {t : TypeId} {z : Value} (h : Ev.zero E t = some z) (w : World) : (zeroValue t).run P w = .ok z w := by
  obtain ⟨⟨info, e, hz⟩, _⟩ := hE.zero h
  simp [zeroValue, Go.run_typeInfo w e, hz]

/-- a part of a struct or an array -/
theorem part_sim (hE : EnvOK P E) {t : TypeId} {xs xs' : Array Value} {off : Nat} {v : Value} (h : partOf E t xs.toList off = some v) (hx : VRL ρ xs.toList xs'.toList) :
    ∃ v', (∀ w : World, (part t xs' off).run P w = .ok v' w) ∧ VR ρ v v' := by
  unfold partOf at h
  cases hi : E.tab.get t with
  | none => simp [hi] at h
  | some i =>
    simp only [hi] at h
    obtain ⟨info, e1, e2, e3, _⟩ := hE.tab t i hi
    have agg : ∀ d : TypeDesc, i.desc = d → (match d with | .struct _ | .array _ _ => true | _ => false) = true → ((takeN i.size (dropN xs.toList off)).map fun l => Value.agg l.toArray) = some v →
        ∃ v', (∀ w : World, (part t xs' off).run P w = .ok v' w) ∧ VR ρ v v' := by
      intro d hd ha hv
      simp only [Option.map_eq_some_iff] at hv
      obtain ⟨l, hl, rfl⟩ := hv
      rw [dropN_eq] at hl
      obtain ⟨h1, rfl⟩ := takeN_eq _ _ _ hl
      have hu := e2 (by intro e; rw [hd] at e; subst e; simp at ha)
      refine ⟨.agg (xs'.extract off (off + i.size)), fun w => ?_, ?_⟩
      · have hia : (Go.isAgg t).run P w = .ok true w := by
          simp only [Go.isAgg, Sem.run_bind, run_underlying hu, Result.andThen_ok]
          rw [hd]; cases d <;> simp at ha <;> rfl
        simp [part, hia, sizeOf, Go.run_typeInfo w e1, e3]
      · refine .agg _ _ ?_
        have : (xs'.extract off (off + i.size)).toList = (xs'.toList.drop off).take i.size := by simp [Array.toList_extract, List.extract_eq_take_drop]
        rw [this]
        simpa using (hx.drop off).take i.size
    cases hd : i.desc with
    | struct fs => simp only [hd] at h; exact agg _ hd rfl h
    | array n e => simp only [hd] at h; exact agg _ hd rfl h
    | invalid => simp [hd] at h
    | _ =>
      simp only [hd, nth_eq] at h
      obtain ⟨v', e', r⟩ := hx.get _ _ h
      have hu := e2 (by rw [hd]; simp)
      refine ⟨v', fun w => ?_, r⟩
      have hia : (Go.isAgg t).run P w = .ok false w := by simp [Go.isAgg, run_underlying hu, hd]
      have : xs'[off]? = some v' := by simpa using e'
      simp [part, hia, this]

theorem eqStr_eq (a b : ByteArray) : eqStr a b = (a.toList == b.toList) := by
  rw [ByteArray.toList_eq, ByteArray.toList_eq]
  unfold eqStr
  generalize a.data.toList = x
  generalize b.data.toList = y
  clear a b
  induction x generalizing y with
  | nil => cases y <;> rfl
  | cons c x ih =>
    cases y with
    | nil => rfl
    | cons d y =>
      simp only [List.map_cons, List.cons_beq_cons, ih y]
      congr 1
      rw [Bool.eq_iff_iff]
      simp [UInt8.toNat_inj]
theorem eqStr_true {a b : ByteArray} (h : eqStr a b = true) : a = b := by
  rw [eqStr_eq] at h
  have h : a.toList = b.toList := by simpa using h
  rw [ByteArray.toList_eq, ByteArray.toList_eq] at h
  cases a; cases b
  simp only [ByteArray.mk.injEq]
  exact Array.toList_inj.1 h

theorem aeq_fields (hE : EnvOK P E) {d D : Nat} {xs ys xs' ys' : Array Value} (hx : VRL ρ xs.toList xs'.toList) (hy : VRL ρ ys.toList ys'.toList)
    (ih : ∀ t x y b x' y', aeq E d t x y = some b → VR ρ x x' → VR ρ y y' → ∀ w, (Op.equalIn D t x' y').run P w = .ok b w) :
    ∀ (fs : List Field) (b : Bool), (fs.foldr (fun f k => cond (f.name == "_") k (match partOf E f.type xs.toList f.offset, partOf E f.type ys.toList f.offset with
        | some p, some q => match aeq E d f.type p q with
          | some true => k
          | r => r
        | _, _ => none)) (some true)) = some b → ∀ w, (Op.eqFields D xs' ys' fs).run P w = .ok b w
  | [], b, h, w => by simp at h; subst h; simp [Op.eqFields]
  | f :: fs, b, h, w => by
    simp only [List.foldr_cons] at h
    have rest := aeq_fields hE hx hy ih fs
    simp only [Op.eqFields]
    by_cases hn : f.name = "_"
    · simp only [hn, beq_self_eq_true, cond_true] at h
      simp only [hn, ne_eq, not_true_eq_false, if_false]
      exact rest b h w
    · rw [show (f.name == "_") = false by simpa using hn] at h
      simp only [cond_false] at h
      simp only [ne_eq, hn, not_false_eq_true, if_true]
      cases hp : partOf E f.type xs.toList f.offset with
      | none => simp [hp] at h
      | some p =>
        cases hq : partOf E f.type ys.toList f.offset with
        | none => simp [hp, hq] at h
        | some q =>
          simp only [hp, hq] at h
          obtain ⟨p', ep, rp⟩ := part_sim hE hp hx
          obtain ⟨q', eq, rq⟩ := part_sim hE hq hy
          cases he : aeq E d f.type p q with
          | none => simp [he] at h
          | some r =>
            have h1 := ih _ _ _ _ _ _ he rp rq w
            simp only [Sem.run_bind, ep, eq, Result.andThen_ok, h1]
            cases r with
            | true => simp only [he] at h; simpa using rest b h w
            | false => simp only [he] at h; cases h; simp
theorem aeq_items (hE : EnvOK P E) {d D n : Nat} {elem : TypeId} {xs ys xs' ys' : Array Value} (hx : VRL ρ xs.toList xs'.toList) (hy : VRL ρ ys.toList ys'.toList)
    (ih : ∀ t x y b x' y', aeq E d t x y = some b → VR ρ x x' → VR ρ y y' → ∀ w, (Op.equalIn D t x' y').run P w = .ok b w) :
    ∀ (is : List Nat) (b : Bool), (is.foldr (fun i k => match partOf E elem xs.toList (i * n), partOf E elem ys.toList (i * n) with
        | some p, some q => match aeq E d elem p q with
          | some true => k
          | r => r
        | _, _ => none) (some true)) = some b → ∀ w, (Op.eqItems D elem n xs' ys' is).run P w = .ok b w
  | [], b, h, w => by simp at h; subst h; simp [Op.eqItems]
  | i :: is, b, h, w => by
    simp only [List.foldr_cons] at h
    have rest := aeq_items hE (n := n) (elem := elem) hx hy ih is
    simp only [Op.eqItems]
    cases hp : partOf E elem xs.toList (i * n) with
    | none => simp [hp] at h
    | some p =>
      cases hq : partOf E elem ys.toList (i * n) with
      | none => simp [hp, hq] at h
      | some q =>
        simp only [hp, hq] at h
        obtain ⟨p', ep, rp⟩ := part_sim hE hp hx
        obtain ⟨q', eq, rq⟩ := part_sim hE hq hy
        cases he : aeq E d elem p q with
        | none => simp [he] at h
        | some r =>
          have h1 := ih _ _ _ _ _ _ he rp rq w
          simp only [Sem.run_bind, ep, eq, Result.andThen_ok, h1]
          cases r with
          | true => simp only [he] at h; simpa using rest b h w
          | false => simp only [he] at h; cases h; simp

set_option maxHeartbeats 1000000 in
theorem aeq_sim (hE : EnvOK P E) : ∀ (d D : Nat), d ≤ D → ∀ (t : TypeId) (x y : Value) (b : Bool) (x' y' : Value), aeq E d t x y = some b → VR ρ x x' → VR ρ y y' →
    ∀ w : World, (Op.equalIn D t x' y').run P w = .ok b w
  | 0, _, _, _, _, _, _, _, _, h, _, _, _ => by simp [aeq] at h
  | d + 1, D, hD, t, x, y, b, x', y', h, hx, hy, w => by
    obtain ⟨D, rfl⟩ : ∃ D', D = D' + 1 := ⟨D - 1, by omega⟩
    have ih := aeq_sim hE d D (by omega)
    unfold aeq at h
    split at h
    · rename_i hu
      have hu := hE.und hu (by simp)
      cases hx; cases hy; cases h
      simp [Op.equalIn, run_underlying hu]
    · rename_i k a k' b' hu
      have hu := hE.und hu (by simp)
      cases hx; cases hy
      by_cases hk : k = k'
      · subst hk; simp at h; subst h; simp [Op.equalIn, run_underlying hu]
      · simp [hk] at h
    · rename_i hu
      have hu := hE.und hu (by simp)
      cases hx; cases hy; cases h
      simp [Op.equalIn, run_underlying hu, eqStr_eq, beq_toListBytes]
    · rename_i hu
      have hu := hE.und hu (by simp)
      cases hx; cases h
      cases hy <;> simp [Op.equalIn, run_underlying hu]
    · rename_i hn hu
      have hu := hE.und hu (by simp)
      cases hy; cases h
      cases hx
      · simp_all
      · simp [Op.equalIn, run_underlying hu]
    · rename_i e a b' hu
      have hu := hE.und hu (by simp)
      split at h
      · rename_i n hs
        rw [cond_beq] at h
        by_cases hb : a.block = b'.block
        · rw [if_pos hb] at h
          cases hx with
          | ptr off h1 =>
            cases hy with
            | ptr off' h2 =>
              simp only at hb; subst hb
              rw [h1] at h2; cases h2
              cases h
              have : ∀ m k : Nat, Nat.beq m k = decide (m = k) := fun m k => by
                cases hh : Nat.beq m k with
                | true => simp [Nat.eq_of_beq_eq_true hh]
                | false => simp [Nat.ne_of_beq_eq_false hh]
              simp [Op.equalIn, run_underlying hu, hE.run_size hs, sameAddr, this]
              rw [Bool.eq_iff_iff]
              simp
        · rw [if_neg hb] at h; cases h
      · cases h
    · rename_i hu
      have hu := hE.und hu (by simp)
      cases hx; cases hy; cases h
      simp [Op.equalIn, run_underlying hu]
    · rename_i hu
      have hu := hE.und hu (by simp)
      cases hx; cases hy; cases h
      simp [Op.equalIn, run_underlying hu]
    · rename_i hu
      have hu := hE.und hu (by simp)
      cases hx; cases hy; cases h
      simp [Op.equalIn, run_underlying hu]
    · rename_i tx vx ty vy hu
      have hu := hE.und hu (by simp)
      cases hx with
      | iface _ _ vx' hvx =>
        cases hy with
        | iface _ _ vy' hvy =>
          rw [cond_beq] at h
          by_cases ht : tx = ty
          · subst ht
            simp only [if_true] at h
            cases hi : E.tab.get tx with
            | none => simp [hi] at h
            | some i =>
              simp only [hi] at h
              obtain ⟨info, e1, _, _, _, ec, _⟩ := hE.tab tx i hi
              cases hc : i.comparable with
              | false => simp [hc] at h
              | true =>
                simp only [hc, cond_true] at h
                simp [Op.equalIn, run_underlying hu, Go.run_typeInfo w e1, ec, hc, ih _ _ _ _ _ _ h hvx hvy w]
          · rw [if_neg ht] at h; cases h
            simp [Op.equalIn, run_underlying hu, ht]
    · rename_i fields xs ys hu
      have hu := hE.und hu (by simp)
      cases hx with
      | agg _ xs' hx =>
        cases hy with
        | agg _ ys' hy =>
          cases hst : stood E t with
          | true => simp [hst] at h
          | false =>
            simp only [hst, cond_false] at h
            have hst' : P.stoodInHeld t = false := by
              unfold stood at hst
              cases hi : E.tab.get t with
              | none => simp [hi] at hst
              | some i =>
                simp only [hi] at hst
                obtain ⟨info, _, _, _, _, _, _, hs⟩ := hE.tab t i hi
                exact hs hst
            have hf : P.fieldsOf t = fields := by simp [Program.fieldsOf, hu]
            rw [run_equalIn_struct w D t xs' ys' (by rw [hf]; exact hu) hst', hf]
            exact aeq_fields hE hx hy ih _ b h w
    · rename_i len elem xs ys hu
      have hu := hE.und hu (by simp)
      cases hx with
      | agg _ xs' hx =>
        cases hy with
        | agg _ ys' hy =>
          split at h
          · cases h
          · rename_i n hs
            obtain ⟨info, e1, e2⟩ := hE.size hs
            rw [run_equalIn_array w D xs' ys' hu e1, hE.cellsOf hs]
            exact aeq_items hE hx hy ih _ b h w
    · rename_i hu
      have hu := hE.und hu (by simp)
      cases hx; cases h
      cases hy <;> simp [Op.equalIn, run_underlying hu]
    · rename_i hn hu
      have hu := hE.und hu (by simp)
      cases hy; cases h
      cases hx <;> first | exact (hn _ _ rfl).elim | exact (hn rfl).elim | simp [Op.equalIn, run_underlying hu]
    · rename_i hu
      have hu := hE.und hu (by simp)
      cases hx; cases h
      cases hy <;> simp [Op.equalIn, run_underlying hu]
    · rename_i hn hu
      have hu := hE.und hu (by simp)
      cases hy; cases h
      cases hx <;> first | exact (hn _ _ rfl).elim | exact (hn rfl).elim | simp [Op.equalIn, run_underlying hu]
    · rename_i hu
      have hu := hE.und hu (by simp)
      cases hx <;> cases hy <;> cases h <;> simp [Op.equalIn, run_underlying hu]
    · rename_i hu
      have hu := hE.und hu (by simp)
      cases hx <;> cases hy <;> cases h <;> simp [Op.equalIn, run_underlying hu]
    · rename_i hu
      have hu := hE.und hu (by simp)
      cases hx <;> cases hy <;> cases h <;> simp [Op.equalIn, run_underlying hu]
    · cases h
end
end Go.Ev
