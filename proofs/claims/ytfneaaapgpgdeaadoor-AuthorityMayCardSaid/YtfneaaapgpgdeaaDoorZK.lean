/- THE EVALUATOR, part 'K': a deterministic reading of the program's code over an abstract heap, and that the model does what it says. Conditions: none beyond each theorem's own. -/
import Derived.Test.YtfneaaapgpgdeaaDoorZG
set_option linter.unusedSimpArgs false
set_option linter.unusedVariables false
namespace Go.Ev
section
variable {E : Env} {nt : Nat} {rd : Option Nat} {fr : Fr} {h : Heap} {Q : Ex → Fr → Heap → Prop} {K : Value → Heap → Prop}

/-! pieces of code -/
theorem cw_skip : GC.skip.wp E nt rd fr h Q = Q .normal fr h := Eq.trans rfl rfl
theorem cw_ops {l : List GO} : (GC.ops l).wp E nt rd fr h Q = opsW E l fr h (Q .normal) := Eq.trans rfl rfl
theorem cw_plan {l : List (GO × List GO)} : (GC.plan l).wp E nt rd fr h Q = planW E l fr h (Q .normal) := Eq.trans rfl rfl
theorem cw_seq {a b : GC} : (GC.seq a b).wp E nt rd fr h Q = a.wp E nt rd fr h (seqK (b.wp E nt rd) Q) := Eq.trans rfl rfl
theorem cw_block {id : Nat} {a : GC} : (GC.block id a).wp E nt rd fr h Q = a.wp E nt rd fr h (blockK id Q) := Eq.trans rfl rfl
theorem cw_exit {id : Nat} : (GC.exit id).wp E nt rd fr h Q = Q (.exit id) fr h := Eq.trans rfl rfl
theorem cw_ret : GC.ret.wp E nt rd fr h Q = Q .ret fr h := Eq.trans rfl rfl
theorem seqK_normal {B : Fr → Heap → (Ex → Fr → Heap → Prop) → Prop} : seqK B Q .normal fr h = B fr h Q := Eq.trans rfl rfl
theorem seqK_exit {B : Fr → Heap → (Ex → Fr → Heap → Prop) → Prop} {i : Nat} : seqK B Q (.exit i) fr h = Q (.exit i) fr h := Eq.trans rfl rfl
theorem seqK_ret {B : Fr → Heap → (Ex → Fr → Heap → Prop) → Prop} : seqK B Q .ret fr h = Q .ret fr h := Eq.trans rfl rfl
theorem blockK_normal {id : Nat} : blockK id Q .normal fr h = Q .normal fr h := Eq.trans rfl rfl
theorem blockK_ret {id : Nat} : blockK id Q .ret fr h = Q .ret fr h := Eq.trans rfl rfl
theorem blockK_same {id : Nat} : blockK id Q (.exit id) fr h = Q .normal fr h := by simp [blockK]
theorem blockK_ne {id j : Nat} (hj : j ≠ id) : blockK id Q (.exit j) fr h = Q (.exit j) fr h := by simp [blockK, cond_beq, hj]
theorem loopK_normal {R : Fr → Heap → Prop} : loopK R Q .normal fr h = R fr h := Eq.trans rfl rfl
theorem loopK_exit {R : Fr → Heap → Prop} {i : Nat} : loopK R Q (.exit i) fr h = Q (.exit i) fr h := Eq.trans rfl rfl
theorem loopK_ret {R : Fr → Heap → Prop} : loopK R Q .ret fr h = Q .ret fr h := Eq.trans rfl rfl

/-! slots -/
def getK (fr : Fr) (t : Nat) (K : Value → Prop) [Tok K] : Prop := ∃ v, fr.get t = some v ∧ K v
def evK (E : Env) (fr : Fr) (x : Operand) (K : Value → Prop) [Tok K] : Prop := onV (ev E fr x) K
section
variable {K : Value → Prop}
theorem getK_same {t : Nat} {v : Value} : getK (fr.set t v) t K = K v := by simp [getK, T.get_set]
theorem getK_ne {s t : Nat} {v : Value} (hs : s ≠ t) : getK (fr.set s v) t K = getK fr t K := by simp [getK, T.get_set, hs]
theorem getK_leaf {t : Nat} : getK .leaf t K = False := by simp [getK, T.get_leaf]
theorem getK_of {t : Nat} {v : Value} (e : fr.get t = some v) : ∀ K, getK fr t K = K v := fun K => by simp [getK, e]
theorem getK_eq {t : Nat} {fr0 : Fr} (e : fr.get t = fr0.get t) : ∀ K, getK fr t K = getK fr0 t K := fun K => by simp [getK, e]
theorem evK_tmp {t : Nat} : evK E fr (.tmp t) K = getK fr t K := by
  simp only [evK, getK, ev]; cases fr.get t <;> simp [onV]
theorem evK_const {v : Value} (hc : constOk v = true) : evK E fr (.const v) K = K v := by simp [evK, ev, hc]
theorem evK_int {k : IntKind} {n : Int} : evK E fr (.const (.int k n)) K = K (.int k n) := evK_const rfl
theorem evK_bool {b : Bool} : evK E fr (.const (.bool b)) K = K (.bool b) := evK_const rfl
theorem evK_string {s : ByteArray} : evK E fr (.const (.string s)) K = K (.string s) := evK_const rfl
theorem evK_float {k : FloatKind} {b : Nat} : evK E fr (.const (.float k b)) K = K (.float k b) := evK_const rfl
theorem evK_nilptr : evK E fr (.const (.pointer none)) K = K (.pointer none) := evK_const rfl
theorem evK_nilslice : evK E fr (.const (.slice none 0 0)) K = K (.slice none 0 0) := evK_const rfl
theorem evK_nilmap : evK E fr (.const (.map none)) K = K (.map none) := evK_const rfl
theorem evK_nilFunc : evK E fr (.const .nilFunc) K = K .nilFunc := evK_const rfl
theorem evK_nilIface : evK E fr (.const .nilIface) K = K .nilIface := evK_const rfl
theorem evK_agg {l : List Value} (hc : l.all constOk0 = true) : evK E fr (.const (.agg ⟨l⟩)) K = K (.agg ⟨l⟩) := evK_const hc
theorem evK_func {f : FuncId} : evK E fr (.func f) K = K (.func (.func f) #[] #[]) := by simp [evK, ev]
end
def condV (v : Value) (A B : Prop) [Tok A] [Tok B] : Prop := condK (some v) A B
/-- two ways -/
def brK (p : Prop) (A B : Prop) [Tok A] [Tok B] : Prop := (p → A) ∧ (¬ p → B)
theorem brK_true {A B : Prop} : brK True A B = A := by simp [brK]
theorem brK_false {A B : Prop} : brK False A B = B := by simp [brK]
theorem brK_not {p : Prop} {A B : Prop} : brK (¬ p) A B = brK p B A := by
  unfold brK; apply propext; constructor
  · exact fun h => ⟨fun hp => h.2 (fun hn => hn hp), h.1⟩
  · exact fun h => ⟨h.2, fun hn => Classical.byContradiction fun hb => hn fun hp => hb (h.1 hp)⟩
theorem brK_yes {p : Prop} {A B : Prop} (hp : p) (a : A) : brK p A B := ⟨fun _ => a, fun hn => absurd hp hn⟩
theorem brK_no {p : Prop} {A B : Prop} (hp : ¬ p) (b : B) : brK p A B := ⟨fun h => absurd h hp, fun _ => b⟩
theorem brK_both {p : Prop} {A B : Prop} (a : p → A) (b : ¬ p → B) : brK p A B := ⟨a, b⟩
theorem cw_cond {c : Operand} {a b : GC} : (GC.cond c a b).wp E nt rd fr h Q = evK E fr c fun v => condV v (a.wp E nt rd fr h Q) (b.wp E nt rd fr h Q) := by
  simp only [GC.wp, evK, onV, condV, condK]
  cases ev E fr c with
  | none => simp
  | some v => simp
theorem condV_true {A B : Prop} : condV (.bool true) A B = A := by simp [condV, condK]
theorem condV_false {A B : Prop} : condV (.bool false) A B = B := by simp [condV, condK]
theorem condV_var {b : Bool} {A B : Prop} : condV (.bool b) A B = brK (b = true) A B := by simp [condV, condK, brK]

/-! operations in a row -/
def gdV (v : Value) (w : Bool) (A B : Prop) [Tok A] [Tok B] : Prop := match v with
  | .bool b => (b = w → A) ∧ (b ≠ w → B)
  | _ => B
theorem gdK_some {s : Nat} {w : Bool} {A B : Prop} : gdK (some (s, w)) fr A B = getK fr s fun v => gdV v w A B := by
  simp only [gdK, getK, gdV]
  cases fr.get s with
  | none => simp [undef]
  | some v => cases v <;> simp
theorem gdV_tt {A B : Prop} : gdV (.bool true) true A B = A := by simp [gdV]
theorem gdV_tf {A B : Prop} : gdV (.bool true) false A B = B := by simp [gdV]
theorem gdV_ft {A B : Prop} : gdV (.bool false) true A B = B := by simp [gdV]
theorem gdV_ff {A B : Prop} : gdV (.bool false) false A B = A := by simp [gdV]
theorem gdV_var {b w : Bool} {A B : Prop} : gdV (.bool b) w A B = brK (b = w) A B := by simp [gdV, brK]
theorem gdV_undef {w : Bool} {A B : Prop} : gdV undef w A B = B := by simp [gdV, undef]
section
variable {Q : Fr → Heap → Prop} {os : List GO} {op : Op} {d s : Nat} {w : Bool} {ag : List GO} {ps : List (GO × List GO)}
theorem opsW_nil : opsW E [] fr h Q = Q fr h := Eq.trans rfl rfl
theorem opsW_d : opsW E (⟨none, some d, op⟩ :: os) fr h Q = opW E op fr h fun v h' => opsW E os (fr.set d v) h' Q := Eq.trans rfl rfl
theorem opsW_n : opsW E (⟨none, none, op⟩ :: os) fr h Q = opW E op fr h fun _ h' => opsW E os fr h' Q := Eq.trans rfl rfl
theorem opsW_gd : opsW E (⟨some (s, w), some d, op⟩ :: os) fr h Q = getK fr s fun v => gdV v w (opW E op fr h fun v h' => opsW E os (fr.set d v) h' Q) (opsW E os (fr.set d undef) h Q) := gdK_some
theorem opsW_gn : opsW E (⟨some (s, w), none, op⟩ :: os) fr h Q = getK fr s fun v => gdV v w (opW E op fr h fun _ h' => opsW E os fr h' Q) (opsW E os fr h Q) := gdK_some
theorem planW_nil : planW E [] fr h Q = Q fr h := Eq.trans rfl rfl
theorem planW_d : planW E ((⟨none, some d, op⟩, ag) :: ps) fr h Q = opW E op fr h fun v h' => h.n ≤ h'.n ∧ agK E ag (fr.set d v) h' ∧ planW E ps (fr.set d v) h' Q := Eq.trans rfl rfl
theorem planW_n : planW E ((⟨none, none, op⟩, ag) :: ps) fr h Q = opW E op fr h fun _ h' => h.n ≤ h'.n ∧ agK E ag fr h' ∧ planW E ps fr h' Q := Eq.trans rfl rfl
theorem planW_gd : planW E ((⟨some (s, w), some d, op⟩, ag) :: ps) fr h Q = getK fr s fun v => gdV v w (opW E op fr h fun v h' => h.n ≤ h'.n ∧ agK E ag (fr.set d v) h' ∧ planW E ps (fr.set d v) h' Q) (agK E ag (fr.set d undef) h ∧ planW E ps (fr.set d undef) h Q) := gdK_some
theorem planW_gn : planW E ((⟨some (s, w), none, op⟩, ag) :: ps) fr h Q = getK fr s fun v => gdV v w (opW E op fr h fun _ h' => h.n ≤ h'.n ∧ agK E ag fr h' ∧ planW E ps fr h' Q) (agK E ag fr h ∧ planW E ps fr h Q) := gdK_some
theorem agK_nil : agK E [] fr h = True := Eq.trans rfl rfl
end

/-! operations -/
theorem onR_some {v : Value} {h : Heap} {K : Value → Heap → Prop} : onR (some (v, h)) K = K v h :=
  propext ⟨fun ⟨_, _, e, k⟩ => by cases e; exact k, fun k => ⟨_, _, rfl, k⟩⟩
theorem onR_none {K : Value → Heap → Prop} : onR none K = False := by simp [onR]
theorem onR_map {r : Option Value} : onR (r.map (·, h)) K = onV r fun v => K v h := by
  cases r with
  | none => simp [onR, onV]
  | some v => rw [Option.map_some, onR_some]; simp [onV]
theorem onV_bind {α β : Type} {r : Option α} {f : α → Option β} {K : β → Prop} : onV (r.bind f) K = onV r fun v => onV (f v) K := by
  cases r <;> simp [onV]
theorem onV_some' {α : Type} {v : α} {K : α → Prop} : onV (some v) K = K v := by simp [onV]
theorem onV_none {α : Type} {K : α → Prop} : onV none K = False := by simp [onV]

theorem opW_val {op : Op} (hk : kindOf E op = .pure) (hc : ∀ c, op ≠ .call c) : opW E op fr h K = onV (valOp E fr (operOf op)) fun v => K v h := by
  unfold opW
  split
  · exact absurd rfl (hc _)
  · simp only [opBy, operOf, hk]; exact onR_map
theorem opW_pure {op : Op} (hk : kindOf E op = .pure) (hc : ∀ c, op ≠ .call c) (hf : flOp E fr (operOf op) = none := by rfl) : opW E op fr h K = onV (pureOp E fr (operOf op)) fun v => K v h := by
  rw [opW_val hk hc]
  simp only [valOp, hf]
theorem opW_read {op : Op} (hk : kindOf E op = .read) (hc : ∀ c, op ≠ .call c) : opW E op fr h K = onV (readOp E fr (operOf op) h) fun v => K v h := by
  unfold opW
  split
  · exact absurd rfl (hc _)
  · simp only [opBy, operOf, hk]; exact onR_map
theorem opW_alloc' {op : Op} (hk : kindOf E op = .alloc) (hc : ∀ c, op ≠ .call c) : opW E op fr h K = onV (allocOp E fr (operOf op)) fun p => K (p.2 h.n) (newBlk h p.1) := by
  unfold opW
  split
  · exact absurd rfl (hc _)
  · simp only [opBy, operOf, hk]
    cases allocOp E fr _ with
    | none => simp [onR, onV]
    | some p => rw [Option.map_some, onR_some]; simp [onV]
theorem opW_act {op : Op} (hk : kindOf E op = .act) (hc : ∀ c, op ≠ .call c) : opW E op fr h K = onR (actOp E fr (operOf op) h) K := by
  unfold opW
  split
  · exact absurd rfl (hc _)
  · rename_i hno
    simp only [opBy, operOf, hk]

section
variable {x y z : Operand} {t t' : TypeId}
theorem opW_move : opW E (.move x) fr h K = evK E fr x fun v => K v h := opW_pure rfl (by simp)
theorem opW_assign : opW E (.assign x) fr h K = evK E fr x fun v => K v h := opW_pure rfl (by simp)
def pickV (v : Value) (A B : Prop) : Prop := condV v A B
theorem opW_pick : opW E (.pick x y z) fr h K = evK E fr x fun v => condV v (evK E fr y fun v => K v h) (evK E fr z fun v => K v h) := by
  rw [opW_pure rfl (by simp)]
  simp only [pureOp, operOf, evK, onV, condV, condK]
  cases ev E fr x with
  | none => simp
  | some v =>
    cases v with
    | bool b => cases b <;> simp
    | _ => simp
def binK (E : Env) (op : BinOp) (t : TypeId) (c : Bool) (a b : Value) (K : Value → Prop) [Tok K] : Prop :=
  match a, b with
  | .nilIface, .nilIface => c = true ∧ onV (abin E op t .nilIface .nilIface) K
  | .float .f64 a, .float .f64 b => onV (fop op a b) K
  | .float .f64 _, .chan none => onV (fopN op) K
  | .chan none, .float .f64 _ => onV (fopN op) K
  | .chan none, .chan none => onV (fopN op) K
  | _, _ => onV (abin E op t a b) K
theorem abin_fl {op : BinOp} {a b : Nat} : abin E op t (.float .f64 a) (.float .f64 b) = none := by cases op <;> rfl
theorem abin_flN {op : BinOp} {a : Nat} : abin E op t (.float .f64 a) (.chan none) = none := by cases op <;> rfl
theorem abin_Nfl {op : BinOp} {b : Nat} : abin E op t (.chan none) (.float .f64 b) = none := by cases op <;> rfl
theorem abin_NN {op : BinOp} : abin E op t (.chan none) (.chan none) = none := by cases op <;> rfl
theorem binK_of {op : BinOp} {c : Bool} {a b : Value} {K : Value → Prop} (hn : ¬ (a = .nilIface ∧ b = .nilIface)) (hf : fbin op a b = none) : binK E op t c a b K = onV (abin E op t a b) K := by
  unfold binK
  split
  · exact absurd ⟨rfl, rfl⟩ hn
  · have hf : fop op _ _ = none := hf
    rw [hf, abin_fl]
  · have hf : fopN op = none := hf
    rw [hf, abin_flN]
  · have hf : fopN op = none := hf
    rw [hf, abin_Nfl]
  · have hf : fopN op = none := hf
    rw [hf, abin_NN]
  · rfl
theorem binK_fl {op : BinOp} {c : Bool} {a b u : Value} {K : Value → Prop} (hf : fbin op a b = some u) : binK E op t c a b K = K u := by
  unfold fbin at hf
  split at hf <;> first | (cases hf; done) | (simp only [binK, hf, onV_some'])
theorem opW_bin {op : BinOp} : opW E (.binOp op t x y t') fr h K = evK E fr x fun a => evK E fr y fun b => binK E op t (isConst x || isConst y) a b fun v => K v h := by
  rw [opW_val rfl (by simp)]
  rcases hx : ev E fr x with _ | a
  · simp [valOp, flOp, pureOp, operOf, evK, onV, hx]
  · rcases hy : ev E fr y with _ | b
    · simp [valOp, flOp, pureOp, operOf, evK, onV, hx, hy]
    · have e1 : (evK E fr x fun a => evK E fr y fun b => binK E op t (isConst x || isConst y) a b fun v => K v h) = binK E op t (isConst x || isConst y) a b fun v => K v h := by
        unfold evK onV
        simp [hx, hy]
      rw [e1]
      simp only [valOp, flOp, pureOp, operOf, hx, hy]
      cases hf : fbin op a b with
      | some u => rw [binK_fl hf]; simp only [onV_some']
      | none =>
        simp only
        by_cases hn : a = .nilIface ∧ b = .nilIface
        · obtain ⟨rfl, rfl⟩ := hn
          simp only [binK]
          cases (isConst x || isConst y) <;> simp [onV]
        · rw [binK_of hn hf]
          unfold onV
          split
          · rename_i h1 h2; cases h1; cases h2; exact absurd ⟨rfl, rfl⟩ hn
          · rename_i h1 h2; cases h1; cases h2; rfl
          · rename_i hno; exact absurd rfl (hno a b rfl)
section
variable {c : Bool} {k k' : IntKind} {a b : Int} {K : Value → Prop}
theorem bin_add : binK E .add t c (.int k a) (.int k b) K = K (.int k (k.wrap (a + b))) := by simp [binK, abin]
theorem bin_sub : binK E .sub t c (.int k a) (.int k b) K = K (.int k (k.wrap (a - b))) := by simp [binK, abin]
theorem bin_mul : binK E .mul t c (.int k a) (.int k b) K = K (.int k (k.wrap (a * b))) := by simp [binK, abin]
theorem bin_quo : binK E .quo t c (.int k a) (.int k b) K = (b ≠ 0 ∧ K (.int k (k.wrap (a.tdiv b)))) := by by_cases hb : b = 0 <;> simp [binK, abin, onV, hb]
theorem bin_rem : binK E .rem t c (.int k a) (.int k b) K = (b ≠ 0 ∧ K (.int k (a.tmod b))) := by by_cases hb : b = 0 <;> simp [binK, abin, onV, hb]
theorem bin_and : binK E .and t c (.int k a) (.int k b) K = K (.int k (k.wrap (BitVec.ofInt k.bits a &&& BitVec.ofInt k.bits b).toNat)) := by simp [binK, abin]
theorem bin_or : binK E .or t c (.int k a) (.int k b) K = K (.int k (k.wrap (BitVec.ofInt k.bits a ||| BitVec.ofInt k.bits b).toNat)) := by simp [binK, abin]
theorem bin_xor : binK E .xor t c (.int k a) (.int k b) K = K (.int k (k.wrap (BitVec.ofInt k.bits a ^^^ BitVec.ofInt k.bits b).toNat)) := by simp [binK, abin]
theorem bin_shl : binK E .shl t c (.int k a) (.int k' b) K = (0 ≤ b ∧ K (.int k (k.wrap (a * 2 ^ min b.toNat k.bits)))) := by
  by_cases hb : b < 0
  · have : ¬ 0 ≤ b := by omega
    simp [binK, abin, onV, hb, this]
  · have : 0 ≤ b := by omega
    simp [binK, abin, onV, hb, this]
theorem bin_shr : binK E .shr t c (.int k a) (.int k' b) K = (0 ≤ b ∧ K (.int k (a.fdiv (2 ^ min b.toNat k.bits)))) := by
  by_cases hb : b < 0
  · have : ¬ 0 ≤ b := by omega
    simp [binK, abin, onV, hb, this]
  · have : 0 ≤ b := by omega
    simp [binK, abin, onV, hb, this]
theorem bin_eql : binK E .eql t c (.int k a) (.int k b) K = brK (a = b) (K (.bool true)) (K (.bool false)) := by
  by_cases hp : a = b
  · rw [show (a = b) = True from eq_true hp, brK_true]; simp [binK, abin, hp]
  · rw [show (a = b) = False from eq_false hp, brK_false]; simp [binK, abin, show (a == b) = false by simpa using hp]
theorem bin_neq : binK E .neq t c (.int k a) (.int k b) K = brK (a = b) (K (.bool false)) (K (.bool true)) := by
  by_cases hp : a = b
  · rw [show (a = b) = True from eq_true hp, brK_true]; simp [binK, abin, hp]
  · rw [show (a = b) = False from eq_false hp, brK_false]; simp [binK, abin, show (a != b) = true by simpa using hp]
theorem bin_lss : binK E .lss t c (.int k a) (.int k b) K = brK (a < b) (K (.bool true)) (K (.bool false)) := by
  by_cases hp : a < b
  · rw [show (a < b) = True from eq_true hp, brK_true]; simp [binK, abin, hp]
  · rw [show (a < b) = False from eq_false hp, brK_false]; simp [binK, abin, hp]
theorem bin_leq : binK E .leq t c (.int k a) (.int k b) K = brK (a ≤ b) (K (.bool true)) (K (.bool false)) := by
  by_cases hp : a ≤ b
  · rw [show (a ≤ b) = True from eq_true hp, brK_true]; simp [binK, abin, hp]
  · rw [show (a ≤ b) = False from eq_false hp, brK_false]; simp [binK, abin, hp]
theorem bin_gtr : binK E .gtr t c (.int k a) (.int k b) K = brK (b < a) (K (.bool true)) (K (.bool false)) := by
  by_cases hp : b < a
  · rw [show (b < a) = True from eq_true hp, brK_true]; simp [binK, abin, hp]
  · rw [show (b < a) = False from eq_false hp, brK_false]; simp [binK, abin, hp]
theorem bin_geq : binK E .geq t c (.int k a) (.int k b) K = brK (b ≤ a) (K (.bool true)) (K (.bool false)) := by
  by_cases hp : b ≤ a
  · rw [show (b ≤ a) = True from eq_true hp, brK_true]; simp [binK, abin, hp]
  · rw [show (b ≤ a) = False from eq_false hp, brK_false]; simp [binK, abin, hp]
end
def isOne (E : Env) (t : TypeId) : Bool := match E.tab.get t with
  | some i => match i.desc with | .struct _ | .array _ _ | .invalid => false | _ => true
  | none => false
def isMany (E : Env) (t : TypeId) : Option Nat := match E.tab.get t with
  | some i => match i.desc with | .struct _ | .array _ _ => some i.size | _ => none
  | none => none
/-- one cell -/
def cellAt (h : Heap) (a : Addr) : Option Value := match cellsAt h a 1 with | some [v] => some v | _ => none
theorem cellAt_def {h : Heap} {a : Addr} : (match cellsAt h a 1 with | some [v] => some v | _ => none) = cellAt h a := rfl
def ld1K (h : Heap) (x : Value) (K : Value → Prop) [Tok K] : Prop := match x with | .pointer (some a) => onV (cellAt h a) K | _ => False
def ldNK (h : Heap) (n : Nat) (x : Value) (K : Value → Prop) [Tok K] : Prop := match x with | .pointer (some a) => onV (cellsAt h a n) fun l => K (.agg ⟨l⟩) | _ => False
theorem onV_cell {h : Heap} {a : Addr} {K : Value → Prop} : (∃ v, (match cellsAt h a 1 with | some [v] => some v | _ => none) = some v ∧ K v) = ∃ v, cellAt h a = some v ∧ K v := rfl
theorem opW_load1 (ht : isOne E t = true) : opW E (.load t x) fr h K = evK E fr x fun v => ld1K h v fun u => K u h := by
  rw [opW_read rfl (by simp)]
  simp only [readOp, operOf, evK, onV, ld1K]
  cases ev E fr x with
  | none => simp
  | some v =>
    simp only [loadAt]
    unfold isOne at ht
    cases hi : E.tab.get t with
    | none => rw [hi] at ht; cases ht
    | some i =>
      rw [hi] at ht
      cases v with
      | pointer a =>
        cases a with
        | none => simp
        | some a =>
          have e : ∀ A : Prop, (∃ v, some (Value.pointer (some a)) = some v ∧ match v with | .pointer (some a) => ∃ v, cellAt h a = some v ∧ K v h | _ => False) = ∃ v, cellAt h a = some v ∧ K v h := fun _ => by simp
          rw [e True]
          cases hd : i.desc <;> simp only [hd] at ht ⊢ <;> first | (cases ht; done) | exact onV_cell (K := fun v => K v h)
      | _ => simp
theorem opW_loadN {n : Nat} (ht : isMany E t = some n) : opW E (.load t x) fr h K = evK E fr x fun v => ldNK h n v fun u => K u h := by
  rw [opW_read rfl (by simp)]
  simp only [readOp, operOf, evK, onV, ldNK]
  cases ev E fr x with
  | none => simp
  | some v =>
    simp only [loadAt]
    unfold isMany at ht
    cases hi : E.tab.get t with
    | none => rw [hi] at ht; cases ht
    | some i =>
      rw [hi] at ht
      cases v with
      | pointer a =>
        cases a with
        | none => simp [onV]
        | some a =>
          have : ∀ m, some m = some n → (∃ v, (cellsAt h a m).map (fun l => Value.agg l.toArray) = some v ∧ K v h) = ∃ v, cellsAt h a n = some v ∧ K (.agg v.toArray) h := by
            intro m hm; cases hm; cases cellsAt h a n <;> simp
          cases hd : i.desc <;> simp only [hd] at ht ⊢ <;> first | (cases ht; done) | (rw [this _ ht]; simp)
      | _ => simp
theorem ld1_some {h : Heap} {a : Addr} {K : Value → Prop} : ld1K h (.pointer (some a)) K = onV (cellAt h a) K := Eq.trans rfl rfl
theorem ldN_some {h : Heap} {n : Nat} {a : Addr} {K : Value → Prop} : ldNK h n (.pointer (some a)) K = onV (cellsAt h a n) fun l => K (.agg ⟨l⟩) := Eq.trans rfl rfl

def fldOff (E : Env) (t : TypeId) (f : Nat) : Option Nat := match und E t with
  | some (.struct fields) => match nth fields.toList f with
    | some fd => match size E fd.type with
      | some sz => cond (Nat.beq sz 0) none (some fd.offset)
      | none => none
    | none => none
  | _ => none
def fldAK (off : Nat) (x : Value) (K : Value → Prop) [Tok K] : Prop := match x with | .pointer (some a) => K (.pointer (some (a.add off))) | _ => False
theorem opW_fieldAddr {f n : Nat} (ht : fldOff E t f = some n) : opW E (.fieldAddr t x f) fr h K = evK E fr x fun v => fldAK n v fun u => K u h := by
  rw [opW_pure rfl (by simp)]
  simp only [pureOp, operOf, evK, onV, fldAK]
  cases ev E fr x with
  | none => simp
  | some v =>
    simp only [afieldAddr]
    unfold fldOff at ht
    cases hu : und E t with
    | none => rw [hu] at ht; cases ht
    | some d =>
      rw [hu] at ht
      cases d with
      | struct fields =>
        simp only at ht ⊢
        cases hf : nth fields.toList f with
        | none => rw [hf] at ht; cases ht
        | some fd =>
          rw [hf] at ht
          simp only at ht ⊢
          cases hs : size E fd.type with
          | none => rw [hs] at ht; cases ht
          | some sz =>
            rw [hs] at ht
            simp only at ht ⊢
            cases hz : Nat.beq sz 0 with
            | true => rw [hz] at ht; cases ht
            | false =>
              rw [hz] at ht
              cases ht
              cases v with
              | pointer a => cases a <;> simp [hf, hs, hz]
              | _ => simp
      | _ => simp at ht
theorem fldA_some {n : Nat} {a : Addr} {K : Value → Prop} : fldAK n (.pointer (some a)) K = K (.pointer (some (a.add n))) := Eq.trans rfl rfl

def sliceSz (E : Env) (t : TypeId) : Option Nat := match und E t with
  | some (.slice e) => size E e
  | _ => none
def idxSK (sz : Nat) (x i : Value) (K : Value → Prop) [Tok K] : Prop := match x, i with
  | .slice (some a) len _, .int _ i => (0 ≤ i ∧ i < (len : Int)) ∧ K (.pointer (some (a.add (i.toNat * sz))))
  | _, _ => False
theorem opW_indexAddrS {n : Nat} (ht : sliceSz E t = some n) : opW E (.indexAddr t x y) fr h K = evK E fr x fun v => evK E fr y fun i => idxSK n v i fun u => K u h := by
  rw [opW_pure rfl (by simp)]
  simp only [pureOp, operOf, evK, onV, idxSK]
  cases ev E fr x with
  | none => simp
  | some v =>
    cases ev E fr y with
    | none => simp
    | some i =>
      simp only [aindexAddr]
      unfold sliceSz at ht
      cases hu : und E t with
      | none => rw [hu] at ht; cases ht
      | some d =>
        rw [hu] at ht
        cases d with
        | slice e =>
          simp only at ht ⊢
          cases v with
          | slice a len cap =>
            cases a with
            | none => simp
            | some a =>
              cases i with
              | int k i =>
                simp only [ht]
                by_cases h0 : 0 ≤ i
                · by_cases h1 : i < (len : Int) <;> simp [h0, h1]
                · simp [h0]
              | _ => simp
          | _ => simp
        | _ => simp at ht
theorem idxS_some {sz len cap : Nat} {a : Addr} {k : IntKind} {i : Int} {K : Value → Prop} : idxSK sz (.slice (some a) len cap) (.int k i) K = ((0 ≤ i ∧ i < (len : Int)) ∧ K (.pointer (some (a.add (i.toNat * sz))))) := Eq.trans rfl rfl

/-! calls -/
def evsK (E : Env) (fr : Fr) (xs : List Operand) (K : List Value → Prop) [Tok K] : Prop := onV (mapOpt (ev E fr) xs) K
theorem evs_nil {K : List Value → Prop} : evsK E fr [] K = K [] := by simp [evsK, mapOpt]
theorem evs_cons {x : Operand} {xs : List Operand} {K : List Value → Prop} : evsK E fr (x :: xs) K = evK E fr x fun v => evsK E fr xs fun vs => K (v :: vs) := by
  simp only [evsK, evK, mapOpt, onV]
  cases ev E fr x with
  | none => simp
  | some v => cases mapOpt (ev E fr) xs <;> simp
theorem opW_callq {f : FuncId} {xs : List Operand} {ts : Array TypeId} (hq : E.qf f = true) : opW E (.call ⟨.value (.func f), ⟨xs⟩, ts⟩) fr h K = evsK E fr xs fun as => onV (E.qc f as) fun v => K v h := by
  simp only [opW, isQ, hq, cond_true, opBy, kindOf, operOf, valOp, flOp, qcall, evs, pureOp, evsK, onV]
  cases mapOpt (ev E fr) xs with
  | none => simp [onR]
  | some as =>
    simp only [Option.some.injEq, exists_eq_left']
    cases E.qc f as with
    | none => simp [onR]
    | some v =>
      simp only [Option.map_some, onR, Option.some.injEq, Prod.mk.injEq, eq_iff_iff, exists_eq_left']
      exact ⟨fun ⟨_, _, ⟨rfl, rfl⟩, q⟩ => q, fun q => ⟨_, _, ⟨rfl, rfl⟩, q⟩⟩
theorem opW_call {f : FuncId} {xs : List Operand} {ts : Array TypeId} (hq : E.qf f = false := by rfl) : opW E (.call ⟨.value (.func f), ⟨xs⟩, ts⟩) fr h K = evsK E fr xs fun as => Ret E (.func f) as h K := by
  simp only [opW, isQ, hq, cond_false, target, evsK, ev, onV]
  cases mapOpt (ev E fr) xs <;> simp
def callVK (E : Env) (f : Value) (as : List Value) (h : Heap) (K : Value → Heap → Prop) [Tok K] : Prop := match f with
  | .func (.func g) first captured => @Ret E (.func g) (first.toList ++ as ++ captured.toList) h K Tok.mk
  | .func (.yield l) _ _ => @Ret E (.yield l) as h K Tok.mk
  | _ => False
theorem opW_callV {n : Nat} {xs : List Operand} {ts : Array TypeId} : opW E (.call ⟨.value (.tmp n), ⟨xs⟩, ts⟩) fr h K = evsK E fr xs fun as => getK fr n fun f => callVK E f as h K := by
  have e : ∀ as, (getK fr n fun f => callVK E f as h K) = ∃ f, ev E fr (.tmp n) = some f ∧ callVK E f as h K := fun as => evK_tmp.symm
  simp only [evsK, onV, e]
  simp only [opW, isQ, cond_false, target]
  cases mapOpt (ev E fr) xs with
  | none => simp
  | some as =>
    cases ev E fr (.tmp n) with
    | none => simp
    | some f =>
      cases f with
      | func fn first cap => cases fn <;> simp [callVK]
      | _ => simp [callVK]
theorem callV_some {g : FuncId} {first captured : List Value} {as : List Value} : callVK E (.func (.func g) ⟨first⟩ ⟨captured⟩) as h K = Ret E (.func g) (first ++ as ++ captured) h K := Eq.trans rfl rfl

/-! built-in functions -/
def lenK (x : Value) (K : Value → Prop) [Tok K] : Prop := match x with
  | .slice _ n _ => K (.int .i64 n)
  | _ => False
def isSlice (E : Env) (t : TypeId) : Bool := match und E t with | some (.slice _) => true | _ => false
theorem opW_lenS (ht : isSlice E t = true) : opW E (.call ⟨.builtin .len, ⟨[x]⟩, ⟨[t]⟩⟩) fr h K = evK E fr x fun v => lenK v fun u => K u h := by
  unfold isSlice at ht
  split at ht
  · rename_i e hu
    simp only [opW, opBy, valOp, flOp, qcall, operOf, kindOf, hu, pureOp, evs, mapOpt, evK, onR_map, onV, lenK]
    cases ev E fr x with
    | none => simp
    | some v =>
      simp only [alen, hu]
      cases v <;> simp
  · cases ht
theorem lenS_some {a : Option Addr} {n c : Nat} {K : Value → Prop} : lenK (.slice a n c) K = K (.int .i64 n) := Eq.trans rfl rfl
end

/-! results -/
theorem resK_one {t : Nat} {K : Value → Heap → Prop} : resK E [.tmp t] K .ret fr h = getK fr t fun v => K v h := by
  simp only [resK, mapOpt, resOf, getK, ev]
  cases fr.get t <;> simp [resVal]
theorem resK_one' {t : Nat} {K : Value → Heap → Prop} : resK E [.tmp t] K .normal fr h = getK fr t fun v => K v h := by
  simp only [resK, mapOpt, resOf, getK, ev]
  cases fr.get t <;> simp [resVal]
theorem resK_two {t s : Nat} {K : Value → Heap → Prop} : resK E [.tmp t, .tmp s] K .ret fr h = getK fr t fun v => getK fr s fun u => K (.tuple #[v, u]) h := by
  simp only [resK, mapOpt, resOf, getK, ev]
  cases fr.get t <;> cases fr.get s <;> simp [resVal]
theorem resK_two' {t s : Nat} {K : Value → Heap → Prop} : resK E [.tmp t, .tmp s] K .normal fr h = getK fr t fun v => getK fr s fun u => K (.tuple #[v, u]) h := by
  simp only [resK, mapOpt, resOf, getK, ev]
  cases fr.get t <;> cases fr.get s <;> simp [resVal]
theorem setAll_cons {v : Value} {l : List Value} {i : Nat} : setAll (v :: l) i fr = setAll l (i + 1) (fr.set i v) := Eq.trans rfl rfl
theorem setAll_nil {i : Nat} : setAll [] i fr = fr := Eq.trans rfl rfl

/-- a loop, by what holds at its head, so many rounds ahead at most -/
theorem cw_loopI {a : GC} (I : Nat → Fr → Heap → Prop) (n : Nat) (h1 : I n fr h) (hm : n < 1000000)
    (hs : ∀ n fr' h', I n fr' h' → (∀ t, a.wr t = false → fr'.get t = fr.get t) → a.wp E nt rd fr' h' (loopK (fun fr' h' => ∃ m, m < n ∧ I m fr' h') Q)) :
    (GC.loop a).wp E nt rd fr h Q := by
  refine ⟨n + 1, by omega, ?_⟩
  have key : ∀ N n fr' h', n < N → I n fr' h' → (∀ t, a.wr t = false → fr'.get t = fr.get t) → loopN (a.wp E nt rd) Q N fr' h' := by
    intro N
    induction N with
    | zero => intro n fr h hlt; omega
    | succ N ih =>
      intro n fr' h' hlt hi hk
      refine GC.wp_mono a (hs n fr' h' hi hk) fun ex fr2 h2 hk' q => ?_
      cases ex with
      | normal => obtain ⟨m, hm, hi⟩ := q; exact ih m fr2 h2 (by omega) hi fun t ht => by rw [hk' t ht, hk t ht]
      | exit j => exact q
      | ret => exact q
  exact key _ n _ _ (by omega) h1 fun _ _ => rfl
end
end Go.Ev
namespace Go.Ev
theorem Ret.of_body' {E : Env} {f : FuncId} {fn : Func} {g : GC} {nt : Nat} {rs : List ResultVar} {args : List Value} {h : Heap} {K : Value → Heap → Prop}
    (hx : E.ext f args h = none) (hf : E.funs.get f = some fn) (hg : fn.body.bind (clean E nt) = some g) (hn : fn.ntmps = nt) (hrs : fn.results.toList = rs) (hnt : args.length ≤ nt)
    (w : g.wp E nt none (setAll args 0 .leaf) h (resK E rs K)) : Ret E (.func f) args h K := by
  obtain ⟨c, hb, hc⟩ := Option.bind_eq_some_iff.1 hg
  exact Ret.of_body hx hf hb (by rw [hn, Nat.max_eq_left hnt]; exact hc) (by rw [hn]; exact Nat.max_eq_left hnt) hrs w
end Go.Ev
