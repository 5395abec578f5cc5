/- THE EVALUATOR, part 'Pure': a deterministic reading of the program's code over an abstract heap, and that the model does what it says. Conditions: none beyond each theorem's own. -/
import Derived.Test.YtfneaaapgpgdeaaDoorZEq
import Derived.Laws.Entries
set_option linter.unusedSimpArgs false
set_option linter.unusedVariables false
namespace Go.Ev
section
variable {P : Program} {E : Env} {ρ : Ren}

structure FR (E : Env) (ρ : Ren) (fr : Fr) (a : Act) : Prop where
  glob : ∀ g, g < E.ng → ∃ c, ρ g = some (g, c)
  tmp : ∀ t v, fr.get t = some v → VR ρ v (a.tmps.getD t undef)

theorem blt_eq (a b : Nat) : Nat.blt a b = decide (a < b) := by
  cases h : Nat.blt a b with
  | true => have := Nat.le_of_ble_eq_true h; simp; omega
  | false => have : ¬ a + 1 ≤ b := fun e => by rw [Nat.blt, Nat.ble_eq_true_of_le e] at h; cases h
             simp; omega
theorem ble_eq (a b : Nat) : Nat.ble a b = decide (a ≤ b) := by
  cases h : Nat.ble a b with
  | true => have := Nat.le_of_ble_eq_true h; simp [this]
  | false => have : ¬ a ≤ b := fun e => by rw [Nat.ble_eq_true_of_le e] at h; cases h
             simp; omega
theorem beq_eq' (a b : Nat) : Nat.beq a b = decide (a = b) := by
  cases h : Nat.beq a b with
  | true => simp [Nat.eq_of_beq_eq_true h]
  | false => simp [Nat.ne_of_beq_eq_false h]

theorem ev_sim {fr : Fr} {a : Act} (hf : FR E ρ fr a) {x : Operand} {v : Value} (h : ev E fr x = some v) : VR ρ v (a.eval x) := by
  cases x with
  | tmp t =>
    simp only [ev] at h
    exact hf.tmp t v h
  | const c =>
    simp only [ev] at h
    cases hc : constOk c with
    | false => simp [hc] at h
    | true => simp only [hc, cond_true] at h; cases h; exact VR.const ρ hc
  | global g =>
    simp only [ev, blt_eq] at h
    by_cases hg : g < E.ng
    · simp only [hg, decide_true, cond_true] at h; cases h
      obtain ⟨c, e⟩ := hf.glob g hg
      exact .ptr 0 e
    · simp [hg] at h
  | func f => simp only [ev] at h; cases h; exact .func _ _ _ _ _ rfl .nil .nil
theorem mapOpt_some {α β : Type} {f : α → Option β} : ∀ {l : List α} {r : List β}, mapOpt f l = some r → r.length = l.length ∧ ∀ (i : Nat) (x : α), l[i]? = some x → ∃ y, f x = some y ∧ r[i]? = some y
  | [], r, h => by simp [mapOpt] at h; subst h; simp
  | x :: l, r, h => by
    simp only [mapOpt] at h
    cases hf : f x with
    | none => simp [hf] at h
    | some y =>
      cases hm : mapOpt f l with
      | none => simp [hf, hm] at h
      | some q =>
        simp only [hf, hm] at h; cases h
        obtain ⟨h1, h2⟩ := mapOpt_some hm
        refine ⟨by simp [h1], fun i z hz => ?_⟩
        cases i with
        | zero => simp at hz; subst hz; exact ⟨y, hf, by simp⟩
        | succ i => simpa using h2 i z (by simpa using hz)
theorem evs_sim {fr : Fr} {a : Act} (hf : FR E ρ fr a) : ∀ {xs : List Operand} {l : List Value}, mapOpt (ev E fr) xs = some l → VRL ρ l (xs.map a.eval)
  | [], l, h => by simp [mapOpt] at h; subst h; exact .nil
  | x :: xs, l, h => by
    simp only [mapOpt] at h
    cases hx : ev E fr x with
    | none => simp [hx] at h
    | some y =>
      cases hm : mapOpt (ev E fr) xs with
      | none => simp [hx, hm] at h
      | some q => simp only [hx, hm] at h; cases h; exact .cons (ev_sim hf hx) (evs_sim hf hm)
theorem evs_sim' {fr : Fr} {a : Act} (hf : FR E ρ fr a) {xs : Array Operand} {l : List Value} (h : evs E fr xs = some l) : VRL ρ l (xs.map a.eval).toList := by
  simpa using evs_sim hf h

/-! '==' -/
theorem plainKey_guard (hE : EnvOK P E) : ∀ (d : Nat) (t : TypeId), plainKey E d t = true → ∀ D, d ≤ D → P.eqGuardType D t = false
  | 0, _, h, _, _ => by simp [plainKey] at h
  | d + 1, t, h, D, hD => by
    obtain ⟨D, rfl⟩ : ∃ D', D = D' + 1 := ⟨D - 1, by omega⟩
    unfold plainKey at h
    cases hu : und E t with
    | none => simp [hu] at h
    | some k =>
      simp only [hu] at h
      cases k with
      | struct fs =>
        have hu := hE.und hu (by simp)
        simp only [List.all_eq_true] at h
        simp only [Program.eqGuardType, hu]
        rw [← Array.any_toList]
        simp only [List.any_eq_false]
        intro f hf
        have := plainKey_guard hE d f.type (h f hf) D (by omega)
        simp [this]
      | array n e =>
        have hu := hE.und hu (by simp)
        simp only [Program.eqGuardType, hu]
        exact plainKey_guard hE d e h D (by omega)
      | bool => simp [Program.eqGuardType, hE.und hu (by simp)]
      | int _ => simp [Program.eqGuardType, hE.und hu (by simp)]
      | string => simp [Program.eqGuardType, hE.und hu (by simp)]
      | pointer _ => simp [Program.eqGuardType, hE.und hu (by simp)]
      | _ => simp at h

theorem binOp_eql_of {t : TypeId} {x y : Value} (h : numeric x = false) : binOp .eql t x y = (do pure (.bool (← Op.equal t x y))) := by
  cases x <;> first | (simp [numeric] at h; done) | (cases y <;> rfl)
theorem binOp_neq_of {t : TypeId} {x y : Value} (h : numeric x = false) : binOp .neq t x y = (do pure (.bool (!(← Op.equal t x y)))) := by
  cases x <;> first | (simp [numeric] at h; done) | (cases y <;> rfl)
theorem VR.numeric {v v' : Value} (h : VR ρ v v') : Ev.numeric v' = Ev.numeric v := by cases h <;> rfl


theorem bytesLt_eq : ∀ (x y : List UInt8), bytesLt x y = Op.bytesLess x y
  | _, [] => by cases ‹List UInt8› <;> rfl
  | [], _ :: _ => rfl
  | a :: x, b :: y => by
    simp only [bytesLt, Op.bytesLess, bytesLt_eq x y, blt_eq, beq_eq']
    congr 1
    rw [Bool.eq_iff_iff]
    simp [UInt8.toNat_inj]

theorem IntKind.max_ge (k : IntKind) : (127 : Int) ≤ k.max := by cases k <;> decide

/-- '==' on what is no number, or both operands are numbers -/
theorem guard_ok {op : BinOp} {t : TypeId} {X Y : Operand} {x y : Value} (hE : EnvOK P E)
    (hn : x = .nilIface → y = .nilIface → (isConst X || isConst Y) = true) (ha : (op = .eql ∨ op = .neq) → ∀ xs ys, x = .agg xs → y = .agg ys → plainKey E 20 t = true) (w : World) :
    (eqGuard op t X Y x y).run P w = .ok () w := by
  by_cases hop : op = .eql ∨ op = .neq
  · rcases hop with rfl | rfl
    all_goals
      unfold eqGuard
      simp only [Bool.not_true, Bool.false_eq_true, if_false]
      split
      · have hh := hn rfl rfl
        clear hn ha
        cases X <;> cases Y <;> first | (simp [isConst] at hh; done) | rfl
      · have h1 := ha (by simp) _ _ rfl rfl
        have h2 := plainKey_guard hE 20 t h1 P.depth (by unfold Program.depth Made.depth; omega)
        simp [h2]
      · rfl
  · cases op <;> first | (simp at hop; done) | rfl

theorem int_cases {k k' : IntKind} {a b : Int} {op : BinOp} {t : TypeId} {v : Value} (h : abin E op t (.int k a) (.int k' b) = some v) (w : World) :
    (binOp op t (.int k a) (.int k' b)).run P w = .ok v w ∧ VR ρ v v := by
  cases op
  case shl =>
    simp only [abin] at h
    by_cases hb : b < 0
    · simp [hb] at h
    · simp only [hb, decide_false, cond_false] at h; cases h
      exact ⟨by simp [binOp, Op.shift, hb], .int _ _⟩
  case shr =>
    simp only [abin] at h
    by_cases hb : b < 0
    · simp [hb] at h
    · simp only [hb, decide_false, cond_false] at h; cases h
      exact ⟨by simp [binOp, Op.shift, hb], .int _ _⟩
  all_goals
    simp only [abin] at h
    by_cases hk : k = k'
    · subst hk
      simp only [decide_true, cond_true] at h
      first
        | (cases h; exact ⟨by simp [binOp, Op.intArith, Op.intBits, Op.intCmp], by constructor⟩)
        | (by_cases hb : b = 0
           · simp [hb] at h
           · simp only [hb, decide_false, cond_false] at h; cases h
             exact ⟨by simp [binOp, Op.intDiv, hb], by constructor⟩)
    · simp [hk] at h

theorem abin_sim (hE : EnvOK P E) {op : BinOp} {t : TypeId} {x y x' y' v : Value} (h : abin E op t x y = some v) (hx : VR ρ x x') (hy : VR ρ y y') {X Y : Operand}
    (hn : x = .nilIface → y = .nilIface → (isConst X || isConst Y) = true) (w : World) :
    (eqGuard op t X Y x' y').run P w = .ok () w ∧ (binOp op t x' y').run P w = .ok v w ∧ VR ρ v v := by
  have hn' : x' = .nilIface → y' = .nilIface → (isConst X || isConst Y) = true := by
    intro e1 e2
    subst e1; subst e2
    cases hx; cases hy
    exact hn rfl rfl
  by_cases hint : ∃ k a k' b, x = .int k a ∧ y = .int k' b
  · obtain ⟨k, a, k', b, rfl, rfl⟩ := hint
    cases hx; cases hy
    exact ⟨guard_ok hE (fun e => by cases e) (fun _ _ _ e => by cases e) w, int_cases h w⟩
  by_cases hstr : ∃ a b, x = .string a ∧ y = .string b
  · obtain ⟨a, b, rfl, rfl⟩ := hstr
    cases hx; cases hy
    refine ⟨guard_ok hE (fun e => by cases e) (fun _ _ _ e => by cases e) w, ?_⟩
    cases op <;> simp only [abin] at h <;> first
      | (cases h; done)
      | (cases h; exact ⟨by simp [binOp, Op.stringOp, eqStr_eq, bytesLt_eq, ByteArray.toList_eq], by constructor⟩)
      | skip
    rw [blt_eq] at h
    by_cases hl : a.size + b.size < 1000000000
    · simp only [hl, decide_true, cond_true] at h; cases h
      refine ⟨?_, by constructor⟩
      simp only [binOp, Op.stringOp, IntKind.max_i64]
      rw [if_neg (by omega)]; rfl
    · simp [hl] at h
  -- what is left is '==' or '!='
  have key : ∀ (neg : Bool) (r : Option Bool), (r.map fun b => Value.bool (if neg then !b else b)) = some v → op = (if neg then .neq else .eql) → numeric x = false → (∀ b, r = some b → aeq E 100 t x y = some b) →
      (binOp op t x' y').run P w = .ok v w ∧ VR ρ v v := by
    intro neg r hr ho hnum ha
    simp only [Option.map_eq_some_iff] at hr
    obtain ⟨b, hb, rfl⟩ := hr
    have h1 := aeq_sim hE 100 Op.maxDepth (by decide) t x y b x' y' (ha b hb) hx hy w
    have hnum' : numeric x' = false := by rw [hx.numeric]; exact hnum
    cases neg
    · simp only [Bool.false_eq_true, if_false] at ho ⊢; subst ho
      exact ⟨by simp [binOp_eql_of hnum', Op.equal, h1], .bool _⟩
    · simp only [if_true] at ho ⊢; subst ho
      exact ⟨by simp [binOp_neq_of hnum', Op.equal, h1], .bool _⟩
  unfold abin at h
  split at h
  · exact (hint ⟨_, _, _, _, rfl, rfl⟩).elim
  · exact (hint ⟨_, _, _, _, rfl, rfl⟩).elim
  · exact (hint ⟨_, _, _, _, rfl, rfl⟩).elim
  · exact (hstr ⟨_, _, rfl, rfl⟩).elim
  · rename_i xs ys
    cases hp : plainKey E 20 t with
    | false => simp [hp] at h
    | true =>
      simp only [hp, cond_true] at h
      exact ⟨guard_ok hE hn' (fun _ _ _ _ _ => hp) w, key false _ (by simpa using h) rfl rfl (fun b e => e)⟩
  · rename_i xs ys
    cases hp : plainKey E 20 t with
    | false => simp [hp] at h
    | true =>
      simp only [hp, cond_true] at h
      exact ⟨guard_ok hE hn' (fun _ _ _ _ _ => hp) w, key true _ (by simpa using h) rfl rfl (fun b e => e)⟩
  · rename_i hna
    cases hnum : numeric x with
    | true => simp [hnum] at h
    | false =>
      simp only [hnum, cond_false] at h
      refine ⟨guard_ok hE hn' (fun _ xs ys e1 e2 => ?_) w, key false _ (by simpa using h) rfl hnum (fun b e => e)⟩
      subst e1; subst e2
      cases hx; cases hy
      exact (hna _ _ rfl rfl).elim
  · rename_i hna
    cases hnum : numeric x with
    | true => simp [hnum] at h
    | false =>
      simp only [hnum, cond_false] at h
      refine ⟨guard_ok hE hn' (fun _ xs ys e1 e2 => ?_) w, key true _ (by simpa using h) rfl hnum (fun b e => e)⟩
      subst e1; subst e2
      cases hx; cases hy
      exact (hna _ _ rfl rfl).elim
  · cases h

theorem isNan_read (n : Nat) : Ieee.double.read n = .nan (n / 9223372036854775808 % 2 == 1) (n % 9223372036854775808 - 9218868437227405312) ∨ isNan n = false := by
  have e1 : Ieee.double.signWeight = 9223372036854775808 := by decide +kernel
  have e2 : Ieee.double.binade = 4503599627370496 := by decide +kernel
  have e3 : Ieee.double.infRung = 9218868437227405312 := by decide +kernel
  by_cases h : 9218868437227405312 < n % 9223372036854775808
  · left
    simp only [Ieee.Format.read, e1, e2, e3]
    rw [if_neg (by omega), if_neg (by omega), if_neg (by omega)]
  · right; simp [isNan, blt_eq, h]
theorem read_nan {n : Nat} (h : isNan n = true) : ∃ s t, Ieee.double.read n = .nan s t := by
  rcases isNan_read n with hh | hh
  · exact ⟨_, _, hh⟩
  · rw [hh] at h; cases h
theorem sum_nanL (d : Ieee.Datum) (s : Bool) (t : Nat) : (Ieee.Datum.nan s t).sum d = none := by cases d <;> rfl
theorem sum_nanR (d : Ieee.Datum) (s : Bool) (t : Nat) : d.sum (Ieee.Datum.nan s t) = none := by cases d <;> rfl
theorem product_nanL (d : Ieee.Datum) (s : Bool) (t : Nat) : (Ieee.Datum.nan s t).product d = none := by cases d <;> rfl
theorem product_nanR (d : Ieee.Datum) (s : Bool) (t : Nat) : d.product (Ieee.Datum.nan s t) = none := by cases d <;> rfl
theorem quotient_nanL (k : Nat) (d : Ieee.Datum) (s : Bool) (t : Nat) : (Ieee.Datum.nan s t).quotient k d = none := by cases d <;> rfl
theorem quotient_nanR (k : Nat) (d : Ieee.Datum) (s : Bool) (t : Nat) : d.quotient k (Ieee.Datum.nan s t) = none := by cases d <;> rfl
theorem order_nanL (d : Ieee.Datum) (s : Bool) (t : Nat) : (Ieee.Datum.nan s t).order d = none := by cases d <;> rfl
theorem order_nanR (d : Ieee.Datum) (s : Bool) (t : Nat) : d.order (Ieee.Datum.nan s t) = none := by cases d <;> rfl

/-- the bits that are drawn for one that is no number -/
theorem run_nanBits (a b : Nat) (w : World) : ∃ n m, (choose (.nanBits .f64 a b)).run P w = .ok n { w with drawn := m } ∧ isNan n = true ∧ n < 18446744073709551616 := by
  have hf : (Question.nanBits .f64 a b).forced = false := rfl
  refine ⟨(Question.nanBits FloatKind.f64 a b).cut (w.tape w.drawn (Question.nanBits FloatKind.f64 a b)), w.drawn + 1, by simp only [run_choose, hf, Bool.false_eq_true, if_false], ?_, ?_⟩
  · simp only [Question.cut, isNan, blt_eq, decide_eq_true_eq]
    generalize w.tape w.drawn _ = t
    simp only [Nat.reducePow, Nat.reduceSub]
    have hr : t / 2 % 4503599627370495 < 4503599627370495 := Nat.mod_lt _ (by decide)
    generalize t / 2 % 4503599627370495 = r at hr ⊢
    rcases Nat.mod_two_eq_zero_or_one t with h | h <;> rw [h] <;> omega
  · simp only [Question.cut]
    generalize w.tape w.drawn _ = t
    simp only [Nat.reducePow, Nat.reduceSub]
    have hr : t / 2 % 4503599627370495 < 4503599627370495 := Nat.mod_lt _ (by decide)
    generalize t / 2 % 4503599627370495 = r at hr ⊢
    rcases Nat.mod_two_eq_zero_or_one t with h | h <;> rw [h] <;> omega

theorem fop_run {op : BinOp} {t : TypeId} {a b : Nat} {v : Value} (h : fop op a b = some v) (w : World) : ∃ v' n, (binOp op t (.float .f64 a) (.float .f64 b)).run P w = .ok v' { w with drawn := n } ∧ VR ρ v v' := by
  have arith : ∀ (r : Option Nat), v = fres r → (binOp op t (.float .f64 a) (.float .f64 b)).run P w = ((match r with
      | some r => pure (.float .f64 r)
      | none => do pure (.float .f64 (← choose (.nanBits .f64 a b))) : Sem Value)).run P w → ∃ v' n, (binOp op t (.float .f64 a) (.float .f64 b)).run P w = .ok v' { w with drawn := n } ∧ VR ρ v v' := by
    intro r hv hrun
    rw [hrun]
    cases r with
    | some r => subst hv; exact ⟨_, w.drawn, rfl, .float _ _⟩
    | none =>
      subst hv
      obtain ⟨n, m, e, h1, h2⟩ := run_nanBits (P := P) a b w
      exact ⟨.float .f64 n, m, by simp [Sem.run_bind, e], .nanf n h1 h2⟩
  cases op <;> simp only [fop] at h <;> first
    | (cases h; done)
    | (cases h; exact arith _ rfl (by simp only [binOp, Op.floatArith, FloatKind.format]; rfl))
    | (cases h; exact ⟨_, w.drawn, rfl, .bool _⟩)

theorem fopN_run {op : BinOp} {t : TypeId} {a b : Nat} {v : Value} (hn : isNan a = true ∨ isNan b = true) (h : fopN op = some v) (w : World) : ∃ v' n, (binOp op t (.float .f64 a) (.float .f64 b)).run P w = .ok v' { w with drawn := n } ∧ VR ρ v v' := by
  have ho : Ieee.double.order a b = none := by
    rcases hn with hn | hn <;> obtain ⟨s, t, e⟩ := read_nan hn <;> simp only [Ieee.Format.order, e, order_nanL, order_nanR]
  have key : fop op a b = some v := by
    cases op <;> simp only [fopN] at h <;> first
      | (cases h; done)
      | (cases h; simp only [fop, ho]; rfl)
      | (cases h
         rcases hn with hn | hn <;> obtain ⟨s, t, e⟩ := read_nan hn <;>
           simp only [fop, Ieee.Format.add, Ieee.Format.sub, Ieee.Format.mul, Ieee.Format.div, e, Ieee.Datum.opposite, sum_nanL, sum_nanR, product_nanL, product_nanR, quotient_nanL, quotient_nanR, Option.map_none, fres])
  exact fop_run key w

theorem fbin_sim {op : BinOp} {t : TypeId} {x y x' y' v : Value} (h : fbin op x y = some v) (hx : VR ρ x x') (hy : VR ρ y y') (X Y : Operand) (w : World) :
    (eqGuard op t X Y x' y').run P w = .ok () w ∧ ∃ v' n, (binOp op t x' y').run P w = .ok v' { w with drawn := n } ∧ VR ρ v v' := by
  have hg : ∀ a b, (eqGuard op t X Y (.float .f64 a) (.float .f64 b)).run P w = .ok () w := by
    intro a b
    unfold eqGuard
    split <;> rfl
  unfold fbin at h
  split at h
  · cases hx; cases hy; exact ⟨hg _ _, fop_run h w⟩
  · cases hx; cases hy with | nanf n h1 h2 => exact ⟨hg _ _, fopN_run (.inr h1) h w⟩
  · cases hy; cases hx with | nanf n h1 h2 => exact ⟨hg _ _, fopN_run (.inl h1) h w⟩
  · cases hy; cases hx with | nanf n h1 h2 => exact ⟨hg _ _, fopN_run (.inl h1) h w⟩
  · cases h
end
end Go.Ev
