/- THE EVALUATOR, part 'N': a deterministic reading of the program's code over an abstract heap, and that the model does what it says. Conditions: none beyond each theorem's own. -/
import Derived.Test.YtfneaaapgpgdeaaDoorZM
set_option linter.unusedSimpArgs false
set_option linter.unusedVariables false
namespace Go.Ev
section
variable {E : Env} {nt : Nat} {rd : Option Nat} {fr : Fr} {h : Heap} {K : Value → Heap → Prop} {x y z : Operand} {t t' : TypeId}
/-! capacity, parts of rows -/
def capK (v : Value) (K : Value → Prop) [Tok K] : Prop := match v with
  | .slice _ _ c => c < UNK ∧ K (.int .i64 c)
  | _ => False
theorem opW_cap (ht : isSlice E t = true) : opW E (.call ⟨.builtin .cap, ⟨[x]⟩, ⟨[t]⟩⟩) fr h K = evK E fr x fun v => capK v fun u => K u h := by
  unfold isSlice at ht
  split at ht
  · rename_i e hu
    simp only [opW, opBy, valOp, flOp, qcall, operOf, kindOf, pureOp, evs, mapOpt, evK, onR_map, onV, capK]
    cases ev E fr x with
    | none => simp
    | some v =>
      cases v with
      | slice a n c =>
        by_cases hc : c < UNK
        · simp [acap, hu, blt_eq, hc]
        · simp [acap, hu, blt_eq, hc]
      | _ => simp [acap, hu]
  · cases ht
theorem cap_nil {K : Value → Prop} : capK (.slice none 0 0) K = K (.int .i64 (0 : Nat)) := by simp [capK, UNK]
def evoK (E : Env) (fr : Fr) (o : Option Operand) (K : Option Value → Prop) [Tok K] : Prop := onV (evo E fr o) K
theorem evo_none {K : Option Value → Prop} : evoK E fr none K = K none := by simp [evoK, evo]
theorem evo_some {K : Option Value → Prop} : evoK E fr (some x) K = evK E fr x fun v => K (some v) := by
  simp only [evoK, evo, evK, onV]
  cases ev E fr x <;> simp
/-- a slice's element's size -/
def slcK (sz : Nat) (v : Value) (lo hi mx : Option Value) (K : Value → Prop) [Tok K] : Prop := match v, lo, hi, mx with
  | .slice a n c, none, some (.int _ j), none => ((c = UNK ∧ sz ≠ 0 ∧ 0 ≤ j ∧ j ≤ n) ∧ K (.slice a j.toNat UNK)) ∨ ((c < UNK ∧ 0 ≤ j ∧ j ≤ c) ∧ K (.slice a j.toNat c))
  | .slice a n c, some (.int _ i), some (.int _ j), none => (c < UNK ∧ 0 ≤ i ∧ i ≤ j ∧ j ≤ c) ∧ K (.slice (cond (Nat.beq c i.toNat) a (a.map (·.add (i.toNat * sz)))) (j - i).toNat (c - i.toNat))
  | _, _, _, _ => False
theorem slc_ok {sz : Nat} {e : TypeId} {v : Value} {lo hi mx : Option Value} {K : Value → Prop} (hu : und E t = some (.slice e)) (hs : size E e = some sz) (w : slcK sz v lo hi mx K) : onV (asliceS E t v lo hi mx) K := by
  unfold slcK at w
  split at w
  · rename_i a n c k j
    rcases w with ⟨⟨rfl, h1, h2, h3⟩, w⟩ | ⟨⟨h1, h2, h3⟩, w⟩
    · have e2 : Nat.beq UNK UNK2 = false := rfl
      have hb : abounds n n none (some (.int k j)) none = some (0, j.toNat, n) := by
        simp [abounds, aboundsM, aboundsL, bound, h2, h3]
      have e3 : asliceS E t (.slice a n UNK) none (some (.int k j)) none = some (.slice a j.toNat UNK) := by
        obtain ⟨m, rfl⟩ : ∃ m, sz = m + 1 := ⟨sz - 1, by omega⟩
        simp [asliceS, hu, e2, hb, hs]
      rw [e3, onV_some']; exact w
    · have e2 : Nat.beq c UNK2 = false := by
        cases hc : Nat.beq c UNK2 with
        | true => have := Nat.eq_of_beq_eq_true hc; subst this; exact absurd h1 (by decide)
        | false => rfl
      have e3 : Nat.beq c UNK = false := by
        cases hc : Nat.beq c UNK with
        | true => have := Nat.eq_of_beq_eq_true hc; omega
        | false => rfl
      have hb : abounds n c none (some (.int k j)) none = some (0, j.toNat, c) := by
        simp [abounds, aboundsM, aboundsL, bound, h2, h3]
      have e4 : asliceS E t (.slice a n c) none (some (.int k j)) none = some (.slice a j.toNat c) := by
        simp only [asliceS, hu, e2, e3, cond_false, hb, hs]
        cases hc : Nat.beq c 0 <;> cases a <;> simp [Addr.add]
      rw [e4, onV_some']; exact w
  · rename_i a n c k i k' j
    obtain ⟨⟨h1, h2, h3, h4⟩, w⟩ := w
    have e2 : Nat.beq c UNK2 = false := by
      cases hc : Nat.beq c UNK2 with
      | true => have := Nat.eq_of_beq_eq_true hc; subst this; exact absurd h1 (by decide)
      | false => rfl
    have e3 : Nat.beq c UNK = false := by
      cases hc : Nat.beq c UNK with
      | true => have := Nat.eq_of_beq_eq_true hc; omega
      | false => rfl
    have hb : abounds n c (some (.int k i)) (some (.int k' j)) none = some (i.toNat, j.toNat, c) := by
      have h5 : 0 ≤ j := by omega
      have h6 : i ≤ (j.toNat : Int) := by omega
      have b1 : bound (.int k' j) c = some j.toNat := by simp only [bound, decide_eq_true h5, decide_eq_true h4]; rfl
      have b2 : bound (.int k i) j.toNat = some i.toNat := by simp only [bound, decide_eq_true h2, decide_eq_true h6]; rfl
      simp only [abounds, aboundsM, aboundsL, b1, b2]
    have e4 : asliceS E t (.slice a n c) (some (.int k i)) (some (.int k' j)) none = some (.slice (cond (Nat.beq c i.toNat) a (a.map (·.add (i.toNat * sz)))) (j - i).toNat (c - i.toNat)) := by
      simp only [asliceS, hu, e2, e3, cond_false, hb, hs]
      rw [show j.toNat - i.toNat = (j - i).toNat by omega]
    rw [e4, onV_some']; exact w
  · exact w.elim
def slzOf (E : Env) (t : TypeId) : Option Nat := match und E t with | some (.slice e) => size E e | _ => none
def sliceVK (E : Env) (t : TypeId) (v : Value) (lo hi mx : Option Value) (K : Value → Prop) [Tok K] : Prop := onV (asliceS E t v lo hi mx) K
theorem opW_slice {lo hi mx : Option Operand} : opW E (.slice t x lo hi mx) fr h K = evK E fr x fun v => evoK E fr lo fun lo => evoK E fr hi fun hi => evoK E fr mx fun mx => sliceVK E t v lo hi mx fun u => K u h := by
  rw [opW_pure rfl (by simp)]
  simp only [pureOp, operOf, evK, evoK, onV, sliceVK]
  cases ev E fr x with
  | none => simp
  | some v =>
    cases evo E fr lo with
    | none => simp
    | some a =>
      cases evo E fr hi with
      | none => simp
      | some b =>
        cases evo E fr mx with
        | none => simp
        | some c => simp
theorem slice_to {sz : Nat} {a : Option Addr} {n : Nat} {k : IntKind} {j : Int} {K : Value → Prop} (hs : slzOf E t = some sz) (hz : sz ≠ 0) (h0 : 0 ≤ j) (h1 : j ≤ n) (q : K (.slice a j.toNat UNK)) : sliceVK E t (.slice a n UNK) none (some (.int k j)) none K := by
  unfold slzOf at hs
  split at hs
  · rename_i e hu
    exact slc_ok hu hs (.inl ⟨⟨rfl, hz, h0, h1⟩, q⟩)
  · cases hs
theorem slice_toC {sz : Nat} {a : Option Addr} {n c : Nat} {k : IntKind} {j : Int} {K : Value → Prop} (hs : slzOf E t = some sz) (hc : c < UNK) (h0 : 0 ≤ j) (h1 : j ≤ c) (q : K (.slice a j.toNat c)) : sliceVK E t (.slice a n c) none (some (.int k j)) none K := by
  unfold slzOf at hs
  split at hs
  · rename_i e hu
    exact slc_ok hu hs (.inr ⟨⟨hc, h0, h1⟩, q⟩)
  · cases hs
theorem slice_fromTo {sz : Nat} {a : Option Addr} {n c : Nat} {k k' : IntKind} {i j : Int} {K : Value → Prop} (hs : slzOf E t = some sz) (hc : c < UNK) (h0 : 0 ≤ i) (h1 : i ≤ j) (h2 : j ≤ c)
    (q : K (.slice (cond (Nat.beq c i.toNat) a (a.map (·.add (i.toNat * sz)))) (j - i).toNat (c - i.toNat))) : sliceVK E t (.slice a n c) (some (.int k i)) (some (.int k' j)) none K := by
  unfold slzOf at hs
  split at hs
  · rename_i e hu
    exact slc_ok hu hs ⟨⟨hc, h0, h1, h2⟩, q⟩
  · cases hs

/-! a slice and nil -/
theorem bin_eqlNil {c : Bool} {a : Option Addr} {n m : Nat} {K : Value → Prop} (ht : isSlice E t = true) : binK E .eql t c (.slice a n m) (.slice none 0 0) K = K (.bool a.isNone) := by
  unfold isSlice at ht
  split at ht
  · rename_i e hu
    have : abin E .eql t (.slice a n m) (.slice none 0 0) = some (.bool a.isNone) := by
      cases a <;> simp [abin, numeric, aeq, hu]
    simp only [binK, this, onV_some']
  · cases ht

/-! reads that are looked at again -/
def agV (fr : Fr) (d : Nat) (v : Value) : Prop := ∃ v', fr.get d = some v' ∧ sameV 50 v v' = true
theorem agV_same {d : Nat} {v u : Value} : agV (fr.set d u) d v = (sameV 50 v u = true) := by simp [agV, T.get_set]
theorem agV_ne {d s : Nat} {v u : Value} (hs : s ≠ d) : agV (fr.set s u) d v = agV fr d v := by simp [agV, T.get_set, hs]
theorem agV_of {d : Nat} {v u : Value} (e : fr.get d = some u) : agV fr d v = (sameV 50 v u = true) := by simp [agV, e]
def agL (E : Env) (t : TypeId) (p : Value) (h : Heap) (K : Value → Prop) [Tok K] : Prop := onV (loadAt E t p h) K
theorem agK_load {d : Nat} {l : List GO} : agK E (⟨none, some d, .load t x⟩ :: l) fr h = ((evK E fr x fun p => agL E t p h fun v => agV fr d v) ∧ agK E l fr h) := by
  simp only [agK, gdK, readOp, operOf, evK, onV, agL, agV]
  cases ev E fr x with
  | none => simp
  | some p => simp
theorem agK_loadG {d s : Nat} {w : Bool} {l : List GO} : agK E (⟨some (s, w), some d, .load t x⟩ :: l) fr h = ((getK fr s fun b => gdV b w (evK E fr x fun p => agL E t p h fun v => agV fr d v) True) ∧ agK E l fr h) := by
  have e : (∃ v v' d', readOp E fr (operOf (.load t x)) h = some v ∧ some d = some d' ∧ fr.get d' = some v' ∧ sameV 50 v v' = true) = (evK E fr x fun p => agL E t p h fun v => agV fr d v) := by
    simp only [readOp, operOf, evK, onV, agL, agV]
    cases ev E fr x with
    | none => simp
    | some p => simp
  simp only [agK, gdK_some, e]
theorem agL_of {p v : Value} {K : Value → Prop} (e : loadAt E t p h = some v) (q : K v) : agL E t p h K := by
  unfold agL; rw [e, onV_some']; exact q
theorem agL_one {v : Value} {K : Value → Prop} (ht : isOne E t = true) : agL E t v h K = ld1K h v K := by
  unfold isOne at ht
  split at ht
  · rename_i i hi
    unfold agL loadAt ld1K
    cases v with
    | pointer a =>
      cases a with
      | none => simp [onV]
      | some a =>
        simp only [hi]
        split
        · rename_i hd; simp [hd] at ht
        · rename_i hd; simp [hd] at ht
        · rename_i hd; simp [hd] at ht
        · rfl
    | _ => simp [onV]
  · cases ht
theorem agL_many {n : Nat} {v : Value} {K : Value → Prop} (ht : isMany E t = some n) : agL E t v h K = ldNK h n v K := by
  unfold isMany at ht
  split at ht
  · rename_i i hi
    unfold agL loadAt ldNK
    cases v with
    | pointer a =>
      cases a with
      | none => simp [onV]
      | some a =>
        simp only [hi]
        split at ht
        · rename_i fs hd
          cases ht
          simp only [hd]
          cases cellsAt h a i.size <;> simp [onV]
        · rename_i m e hd
          cases ht
          simp only [hd]
          cases cellsAt h a i.size <;> simp [onV]
        · cases ht
    | _ => simp [onV]
  · cases ht

/-! results in cells -/
theorem resK_nil {K : Value → Heap → Prop} : resK E [] K .normal fr h = K (resVal []) h := Eq.trans rfl rfl
theorem resK_nil' {K : Value → Heap → Prop} : resK E [] K .ret fr h = K (resVal []) h := Eq.trans rfl rfl
theorem resK_cell {s : Nat} {ex : Ex} {K : Value → Heap → Prop} (hx : ∀ i, ex ≠ .exit i) : resK E [.cell s t] K ex fr h = getK fr s fun p => agL E t p h fun v => K v h := by
  have : ∀ (o : Option Value), (match mapOpt (resOf E fr h) [.cell s t] with | some vs => K (resVal vs) h | none => False) = (getK fr s fun p => agL E t p h fun v => K v h) := by
    intro _
    simp only [mapOpt, resOf, getK, agL, onV]
    cases fr.get s with
    | none => simp
    | some p =>
      simp only [Option.some.injEq, exists_eq_left']
      generalize hr : loadAt E t p h = r
      cases r <;> simp [resVal]
  cases ex with
  | exit i => exact absurd rfl (hx i)
  | _ => exact this none
theorem resK_cellR {s : Nat} {K : Value → Heap → Prop} : resK E [.cell s t] K .ret fr h = getK fr s fun p => agL E t p h fun v => K v h := resK_cell (by simp)
theorem resK_cellN {s : Nat} {K : Value → Heap → Prop} : resK E [.cell s t] K .normal fr h = getK fr s fun p => agL E t p h fun v => K v h := resK_cell (by simp)
theorem resK_ct {s d : Nat} {K : Value → Heap → Prop} : resK E [.cell s t, .tmp d] K .ret fr h = getK fr s fun p => agL E t p h fun v => getK fr d fun u => K (.tuple #[v, u]) h := by
  simp only [resK, mapOpt, resOf, getK, agL, onV, ev]
  cases fr.get s with
  | none => simp
  | some p =>
    simp only [Option.some.injEq, exists_eq_left']
    generalize loadAt E t p h = r
    cases r with
    | none => simp
    | some v => cases fr.get d <;> simp [resVal]
end
end Go.Ev
namespace Go.Ev
section
variable {E : Env} {fr : Fr} {h : Heap} {K : Value → Heap → Prop} {x y z : Operand} {t t' : TypeId}
/-! append -/
def isIntT (E : Env) (t : TypeId) : Bool := match und E t with | some (.int _) => true | _ => false
def appZK (e : TypeId) (sz : Nat) (zs : List Value) (s v : Value) (h : Heap) (K : Value → Heap → Prop) [Tok K] : Prop := match s, v with
  | .slice base sl sc, .int _ l => ((0 ≤ l ∧ l ≤ 100000) ∧ (sl + l.toNat ≤ 100000 ∧ (sl ≤ sc ∨ l.toNat ≠ 0)) ∧
      ((l.toNat = 0 → K (.slice base sl sc) h) ∧ (l.toNat ≠ 0 → (rep l.toNat zs).all oneCell = true ∧ onR (appendRow h e sz base sl sc l.toNat (rep l.toNat zs)) K)))
  | _, _ => False
theorem opW_appendZ {e : TypeId} {sz : Nat} {zs : List Value} (hx : elemOf E t = some (e, sz, zs)) (hs : isIntT E t' = true) :
    opW E (.call ⟨.builtin .append, ⟨[x, y]⟩, ⟨[t, t']⟩⟩) fr h K = evK E fr x fun s => evK E fr y fun v => appZK e sz zs s v h K := by
  obtain ⟨i, z, h1, h2, h3, h4, h5, h6, h7, h8⟩ := elemOf_some hx
  subst h4 h5
  unfold isIntT at hs
  split at hs
  case h_2 => cases hs
  rename_i k hu
  have hm : (some (TypeDesc.int k)).map isSeq = some false := rfl
  simp only [opW, opBy, valOp, flOp, qcall, operOf, kindOf, actOp, evs, mapOpt, evK, onV, appZK]
  cases ev E fr x with
  | none => simp [onR]
  | some s =>
    cases ev E fr y with
    | none => simp [onR]
    | some v =>
      simp only [Option.some.injEq, exists_eq_left', aappend, h1, hu, hm]
      cases s with
      | slice base sl sc =>
        cases v with
        | int kk l =>
          simp only [h1, hu, hm, aappendZ, h2, h3, h6]
          by_cases g0 : 0 ≤ l ∧ l ≤ 100000
          · by_cases g1 : sl + l.toNat ≤ 100000 ∧ (sl ≤ sc ∨ l.toNat ≠ 0)
            · have hg : (decide (0 ≤ l) && decide (l ≤ 100000) && !Nat.beq i.size 0 && Nat.beq i.size i.size && Nat.ble i.bytes 10000 && Nat.ble (sl + l.toNat) 100000 && (Nat.ble sl sc || !Nat.beq l.toNat 0)) = true := by
                simp only [beq_eq', ble_eq, Bool.and_eq_true, Bool.or_eq_true, Bool.not_eq_true', decide_eq_true_eq, decide_eq_false_iff_not]
                exact ⟨⟨⟨⟨⟨⟨g0.1, g0.2⟩, h7⟩, trivial⟩, h8⟩, g1.1⟩, g1.2⟩
              rw [hg, cond_true, cond_beq]
              by_cases hn : l.toNat = 0
              · simp [hn, onR_some, g0, g1.1, g1.2] 
                simp [hn] at g1
                intro _; exact ⟨g1.1, g1.2⟩
              · simp only [if_neg hn]
                cases hall : (rep l.toNat z.cells.toList).all Ev.oneCell with
                | true => simp [hn, g0, g1]
                | false => simp [hn, onR]
            · have hg : (decide (0 ≤ l) && decide (l ≤ 100000) && !Nat.beq i.size 0 && Nat.beq i.size i.size && Nat.ble i.bytes 10000 && Nat.ble (sl + l.toNat) 100000 && (Nat.ble sl sc || !Nat.beq l.toNat 0)) = false := by
                rw [Bool.eq_false_iff]; intro hh
                simp only [beq_eq', ble_eq, Bool.and_eq_true, Bool.or_eq_true, Bool.not_eq_true', decide_eq_true_eq, decide_eq_false_iff_not] at hh
                exact g1 ⟨hh.1.2, hh.2⟩
              rw [hg]
              rw [cond_false, onR_none]; exact propext ⟨False.elim, fun h => g1 h.2.1⟩
          · have hg : (decide (0 ≤ l) && decide (l ≤ 100000) && !Nat.beq i.size 0 && Nat.beq i.size i.size && Nat.ble i.bytes 10000 && Nat.ble (sl + l.toNat) 100000 && (Nat.ble sl sc || !Nat.beq l.toNat 0)) = false := by
              rw [Bool.eq_false_iff]; intro hh
              simp only [beq_eq', ble_eq, Bool.and_eq_true, Bool.or_eq_true, Bool.not_eq_true', decide_eq_true_eq, decide_eq_false_iff_not] at hh
              exact g0 ⟨hh.1.1.1.1.1.1, hh.1.1.1.1.1.2⟩
            rw [hg]
            rw [cond_false, onR_none]; exact propext ⟨False.elim, fun h => g0 h.1⟩
        | _ => simp [h1, hu, isSeq, aappendZ, onR]
      | _ => simp [onR]
theorem appZ_nil {e : TypeId} {sz : Nat} {zs : List Value} {k : IntKind} {l : Int} (h0 : 0 < l) (h1 : l ≤ 100000) (hone : (rep l.toNat zs).all oneCell = true)
    (q : K (.slice (some ⟨h.n, 0, none⟩) l.toNat UNK) (newBlk h (.cells (rep l.toNat zs) e false))) : appZK e sz zs (.slice none 0 0) (.int k l) h K := by
  refine ⟨⟨by omega, h1⟩, ⟨by omega, .inl (by omega)⟩, fun h => by omega, fun _ => ⟨hone, ?_⟩⟩
  have f3 : Nat.ble l.toNat 0 = false := by
    cases hb : Nat.ble l.toNat 0 with
    | true => have := Nat.le_of_ble_eq_true hb; omega
    | false => rfl
  have f1 : Nat.beq 0 UNK2 = false := rfl
  have f2 : Nat.beq 0 UNK = false := rfl
  have : appendRow h e sz none 0 0 l.toNat (rep l.toNat zs) = some (.slice (some ⟨h.n, 0, none⟩) l.toNat UNK, newBlk h (.cells ([] ++ rep l.toNat zs) e false)) := by
    unfold appendRow
    simp only [f1, f2, cond_false, firstCells, Nat.beq_refl, cond_true, Nat.zero_add, f3]
  rw [this, onR_some]
  exact q
/-- a row that does not lie in a block -/
def notIn (v : Value) (j : Nat) : Prop := ∀ a n c, v = .slice (some a) n c → a.block ≠ j
theorem OwnS.notIn {B : Nat} {e : TypeId} {v : Value} {n j : Nat} {cs : List Value} (o : OwnS B h e v n cs) (hj : h.n ≤ j) : notIn v j := by
  intro a n' c e
  cases o with
  | nil => cases e
  | emp i hi => cases e; simp only; omega
  | row i n cs h1 h2 h3 => cases e; simp only; omega
theorem app_ownF {B : Nat} {e : TypeId} {sz n m : Nat} {s y : Value} {cs new : List Value} (o : OwnS B h e s n cs) (hB : B ≤ h.n) (hlen : cs.length = n * sz) (hy : lenOf y = some m) (hm : m ≠ 0) (hsz : n + m ≤ 100000)
    (hnew : firstCells h sz m y = some new) (hnl : new.length = m * sz) (hone : new.all oneCell = true) (hpos : sz ≠ 0)
    (k : ∀ v' h', OwnS B h' e v' (n + m) (cs ++ new) → ExtB B h h' → (∀ j, j < h.n → notIn s j → h'.b.get j = h.b.get j) → K v' h') : appK e sz s y h K := by
  have pos : 0 < m * sz := Nat.mul_pos (by omega) (by omega)
  cases o with
  | nil =>
    simp only [appK, hy]
    refine ⟨⟨by omega, .inr hm⟩, fun h0 => absurd h0 hm, fun _ => ?_⟩
    rw [hnew, onV_some']
    refine ⟨hone, ?_⟩
    have : appendRow h e sz none 0 0 m new = some (.slice (some ⟨h.n, 0, none⟩) m UNK, newBlk h (.cells ([] ++ new) e false)) := by
      unfold appendRow
      have f1 : Nat.beq 0 UNK2 = false := rfl
      have f2 : Nat.beq 0 UNK = false := rfl
      have f3 : Nat.ble m 0 = false := by
        cases hb : Nat.ble m 0 with
        | true => have := Nat.le_of_ble_eq_true hb; omega
        | false => rfl
      simp only [f1, f2, cond_false, firstCells, Nat.beq_refl, cond_true, Nat.zero_add, f3]
    rw [this, onR_some]
    refine k _ _ ?_ (ExtB.new _ hB) (fun j hj _ => newBlk_old _ hj)
    rw [Nat.zero_add]
    exact .row h.n m _ hB (by simp [newBlk]) (newBlk_same _ _)
  | emp i0 hi0 =>
    simp only [appK, hy]
    refine ⟨⟨by omega, .inr hm⟩, fun h0 => absurd h0 hm, fun _ => ?_⟩
    rw [hnew, onV_some']
    refine ⟨hone, ?_⟩
    have : appendRow h e sz (some ⟨i0, 0, none⟩) 0 0 m new = some (.slice (some ⟨h.n, 0, none⟩) m UNK, newBlk h (.cells ([] ++ new) e false)) := by
      unfold appendRow
      have f1 : Nat.beq 0 UNK2 = false := rfl
      have f2 : Nat.beq 0 UNK = false := rfl
      have f3 : Nat.ble m 0 = false := by
        cases hb : Nat.ble m 0 with
        | true => have := Nat.le_of_ble_eq_true hb; omega
        | false => rfl
      simp only [f1, f2, cond_false, firstCells, cellsAt, Nat.zero_mul, Nat.beq_refl, cond_true, Nat.zero_add, f3]
    rw [this, onR_some]
    refine k _ _ ?_ (ExtB.new _ hB) (fun j hj _ => newBlk_old _ hj)
    rw [Nat.zero_add]
    exact .row h.n m _ hB (by simp [newBlk]) (newBlk_same _ _)
  | row i n cs h1 h2 h3 =>
    simp only [appK, hy]
    refine ⟨⟨by omega, .inr hm⟩, fun h0 => absurd h0 hm, fun _ => ?_⟩
    rw [hnew, onV_some']
    refine ⟨hone, ?_⟩
    have : appendRow h e sz (some ⟨i, 0, none⟩) n UNK m new = some (.slice (some ⟨h.n, 0, none⟩) (n + m) UNK, newBlk { h with b := h.b.set i .dead } (.cells (cs ++ new) e false)) := by
      unfold appendRow
      have f1 : Nat.beq UNK UNK2 = false := rfl
      have f2 : Nat.beq UNK UNK = true := Nat.beq_refl _
      have f3 : Nat.ble ((n + m) * sz) cs.length = false := by
        cases hb : Nat.ble ((n + m) * sz) cs.length with
        | true =>
          have := Nat.le_of_ble_eq_true hb
          rw [hlen, Nat.add_mul] at this
          omega
        | false => rfl
      have f4 : Nat.beq (n * sz) cs.length = true := by rw [hlen]; exact Nat.beq_refl _
      simp only [f1, f2, h3, cond_false, cond_true, Nat.beq_refl, f3, f4]
    rw [this, onR_some]
    refine k _ _ ?_ ?_ (fun j hj hno => by
      have hne : i ≠ j := hno ⟨i, 0, none⟩ n UNK rfl
      simp only [newBlk]
      rw [T.get_set_ne _ _ (by omega), T.get_set_ne _ _ hne])
    · exact .row h.n (n + m) _ hB (by simp [newBlk]) (by simp [newBlk, T.get_set])
    · refine ⟨by simp [newBlk], fun j hj => ?_⟩
      simp only [newBlk]
      rw [T.get_set_ne _ _ (by omega), T.get_set_ne _ _ (by omega)]
theorem app_oneF {B : Nat} {e : TypeId} {sz n j : Nat} {s : Value} {cs new : List Value} {h1 : Heap} (o : OwnS B h1 e s n cs) (hB : B ≤ h1.n) (hlen : cs.length = n * sz) (hsz : n + 1 ≤ 100000)
    (hnl : new.length = sz) (hone : new.all oneCell = true) (hpos : sz ≠ 0) (hj : j = h1.n)
    (k : ∀ v' h', OwnS B h' e v' (n + 1) (cs ++ new) → ExtB B h1 h' → (∀ j, j < h1.n → notIn s j → h'.b.get j = h1.b.get j) → K v' h') : appK e sz s (.slice (some ⟨j, 0, none⟩) 1 1) (newBlk h1 (.cells new e true)) K := by
  subst hj
  refine app_ownF (o.new _) (Nat.le_trans hB (Nat.le_succ _)) hlen (m := 1) rfl (by decide) hsz (new := new) ?_ (by omega) hone hpos fun v' h' o' x' f' => k v' h' o' ((ExtB.new _ hB).trans x') fun j hj hno => by rw [f' j (Nat.lt_succ_of_lt hj) hno, newBlk_old _ hj]
  simp only [firstCells, Nat.one_mul]
  exact cellsAt_newE hnl
/-- of any length -/
theorem app_ownG {B : Nat} {e : TypeId} {sz n m : Nat} {s y : Value} {cs new : List Value} (o : OwnS B h e s n cs) (hB : B ≤ h.n) (hlen : cs.length = n * sz) (hy : lenOf y = some m) (hsz : n + m ≤ 100000)
    (hnew : m ≠ 0 → firstCells h sz m y = some new) (hnl : new.length = m * sz) (hone : new.all oneCell = true) (hpos : sz ≠ 0)
    (k : ∀ v' h', OwnS B h' e v' (n + m) (cs ++ new) → ExtB B h h' → K v' h') : appK e sz s y h K := by
  by_cases hm : m = 0
  · subst hm
    have : new = [] := List.length_eq_zero_iff.1 (by omega)
    subst this
    rw [List.append_nil] at k
    cases o with
    | nil => simp only [appK, hy]; exact ⟨⟨by omega, .inl (Nat.le_refl _)⟩, fun _ => k _ _ .nil (ExtB.refl _ _), fun h => absurd rfl h⟩
    | emp i hi => simp only [appK, hy]; exact ⟨⟨by omega, .inl (Nat.le_refl _)⟩, fun _ => k _ _ (.emp i hi) (ExtB.refl _ _), fun h => absurd rfl h⟩
    | row i n cs h1 h2 h3 =>
      simp only [appK, hy]
      exact ⟨⟨by omega, .inl (Nat.le_trans (show n ≤ 100000 by omega) (by decide))⟩, fun _ => k _ _ (.row i n cs h1 h2 h3) (ExtB.refl _ _), fun h => absurd rfl h⟩
  · exact app_own o hB hlen hy hm hsz (hnew hm) hnl hone hpos fun v' h' o x _ => k v' h' o x
theorem over_mid : ∀ (new a b c : List Value), b.length = new.length → over (a ++ (b ++ c)) a.length new = some (a ++ (new ++ c))
  | [], a, [], c, _ => by
    have : ∀ (a : List Value), over (a ++ c) a.length [] = some (a ++ c) := by
      intro a
      cases a with
      | nil => cases c <;> rfl
      | cons x a => rfl
    simpa using this a
  | x :: new, [], y :: b, c, h => by
    have := over_mid new [] b c (by simpa using h)
    simp only [List.nil_append, List.length_nil] at this
    simp only [List.nil_append, List.length_nil, List.cons_append, over, Nat.beq_refl, cond_true, this, Option.map_some]
  | x :: new, z :: a, b, c, h => by
    have := over_mid (x :: new) a b c h
    simp only [List.cons_append, List.length_cons, over, show Nat.beq (a.length + 1) 0 = false from rfl, cond_false, Nat.add_sub_cancel, this, Option.map_some]
/-- a row that was made long enough -/
theorem app_fit {e : TypeId} {sz n m i : Nat} {y : Value} {cs rest new : List Value} {b : Bool} (hb : h.b.get i = some (.cells (cs ++ rest) e false)) (hlen : cs.length = n * sz) (hy : lenOf y = some m) (hsz : n + m ≤ 100000)
    (hnew : m ≠ 0 → firstCells h sz m y = some new) (hnl : new.length = m * sz) (hr : new.length ≤ rest.length) (hone : new.all oneCell = true) (hpos : sz ≠ 0)
    (k : ∀ h', h'.n = h.n → (∀ j, j ≠ i → h'.b.get j = h.b.get j) → h'.b.get i = some (.cells ((cs ++ new) ++ rest.drop new.length) e false) → K (.slice (some ⟨i, 0, none⟩) (n + m) UNK) h') : appK e sz (.slice (some ⟨i, 0, none⟩) n UNK) y h K := by
  simp only [appK, hy]
  refine ⟨⟨hsz, .inl (Nat.le_trans (show n ≤ 100000 by omega) (by decide))⟩, fun h0 => ?_, fun h0 => ?_⟩
  · subst h0
    have : new = [] := List.length_eq_zero_iff.1 (by omega)
    subst this
    exact k h rfl (fun _ _ => rfl) (by simpa using hb)
  · rw [hnew h0, onV_some']
    refine ⟨hone, ?_⟩
    have f1 : Nat.beq UNK UNK2 = false := rfl
    have f2 : Nat.beq UNK UNK = true := Nat.beq_refl _
    have f3 : Nat.ble ((n + m) * sz) (cs ++ rest).length = true := by
      rw [ble_eq, decide_eq_true_eq, List.length_append, hlen, Nat.add_mul]; omega
    have ho : over (cs ++ rest) (n * sz) new = some (cs ++ (new ++ rest.drop new.length)) := by
      have := over_mid new cs (rest.take new.length) (rest.drop new.length) (by rw [List.length_take]; omega)
      rw [List.take_append_drop, hlen] at this
      exact this
    have hne : new ≠ [] := by
      intro he
      have : 0 < m * sz := Nat.mul_pos (by omega) (by omega)
      rw [he] at hnl; simp at hnl; omega
    have hw : writeCells h ⟨i, n * sz, none⟩ new = some { h with b := h.b.set i (.cells (cs ++ (new ++ rest.drop new.length)) e false) } := writeCells_blk hb ho hne
    unfold appendRow
    simp only [f1, f2, hb, cond_false, cond_true, Nat.beq_refl, f3, hw, Option.map_some, onR_some]
    refine k _ rfl (fun j hj => T.get_set_ne _ _ (Ne.symm hj)) ?_
    simp [T.get_set]
/-- a store into a block that is known -/
theorem st_at {n i off : Nat} {cs cs' l : List Value} {e : TypeId} {b : Bool} {v : Value} (hb : h.b.get i = some (.cells cs e b)) (hv : v.cells.toList = l) (hl : l.length = n) (ho : over cs off l = some cs') (h1 : l.all oneCell = true) (hn : n ≠ 0)
    (q : K undef { h with b := h.b.set i (.cells cs' e b) }) : stK n (.pointer (some ⟨i, off, none⟩)) v h K := by
  subst hv
  have hne : v.cells.toList ≠ [] := by intro he; rw [he] at hl; simp at hl; omega
  simp only [stK]
  refine ⟨⟨hl, h1⟩, ?_⟩
  rw [writeCells_blk hb ho hne, onV_some']
  exact q
/-- a row, as cells -/
theorem cellsAt_pts {b off : Nat} : ∀ (l : List Value), l ≠ [] → (∀ j v, l[j]? = some v → cellAt h ⟨b, off + j, none⟩ = some v) → cellsAt h ⟨b, off, none⟩ l.length = some l := by
  intro l hne hp
  have h0 : Nat.beq l.length 0 = false := by
    cases l with
    | nil => exact absurd rfl hne
    | cons a l => rfl
  have first : ∀ j v, l[j]? = some v → cellAt h ⟨b, off + j, none⟩ = some v := hp
  unfold cellsAt
  rw [h0]
  simp only [cond_false]
  have one := fun j v (hj : l[j]? = some v) => (show cellAt h ⟨b, off + j, none⟩ = some v from hp j v hj)
  unfold cellAt cellsAt at one
  simp only [show Nat.beq 1 0 = false from rfl, cond_false] at one
  obtain ⟨a0, l0, rfl⟩ := List.exists_cons_of_ne_nil hne
  have one0 := one 0 a0 rfl
  cases hlt : Nat.blt b h.n with
  | false => rw [hlt] at one0; simp at one0
  | true =>
    rw [hlt] at one
    simp only [cond_true] at one ⊢
    cases hk : h.b.get b with
    | none => have := one 0 a0 rfl; rw [hk] at this; simp at this
    | some k =>
      rw [hk] at one
      cases k with
      | cells cs e x =>
        simp only [dropN_eq] at one ⊢
        have pt : ∀ j v, (a0 :: l0)[j]? = some v → cs[off + j]? = some v := by
          intro j v hj
          have := one j v hj
          cases hd : cs.drop (off + j) with
          | nil => rw [hd] at this; simp [takeN] at this
          | cons c r =>
            rw [hd] at this
            simp only [takeN, Option.map_some] at this
            have e2 : cs[off + j]? = (cs.drop (off + j))[0]? := by simp
            rw [e2, hd]
            simpa using this
        have gen : ∀ (l : List Value) (off : Nat), (∀ j v, l[j]? = some v → cs[off + j]? = some v) → takeN l.length (cs.drop off) = some l := by
          intro l
          induction l with
          | nil => intro off _; cases cs.drop off <;> rfl
          | cons a l ih =>
            intro off hp
            have h1 := hp 0 a rfl
            have hlt := (List.getElem?_eq_some_iff.1 h1).1
            rw [Nat.add_zero] at h1 hlt
            have h2 := ih (off + 1) (fun j v hj => by rw [show off + 1 + j = off + (j + 1) by omega]; exact hp (j + 1) v (by simpa using hj))
            rw [List.drop_eq_getElem_cons hlt]
            simp only [List.length_cons, takeN, h2, Option.map_some]
            rw [(List.getElem?_eq_some_iff.1 h1).2]
        exact gen _ off pt
      | ro g =>
        have pt : ∀ j v, (a0 :: l0)[j]? = some v → g (off + j) = some v := by
          intro j v hj
          have := one j v hj
          simp only [roCells] at this
          cases hg : g (off + j) with
          | none => rw [hg] at this; simp at this
          | some w => rw [hg] at this; simpa using this
        have gen : ∀ (l : List Value) (off : Nat), (∀ j v, l[j]? = some v → g (off + j) = some v) → roCells g off l.length = some l := by
          intro l
          induction l with
          | nil => intro off _; rfl
          | cons a l ih =>
            intro off hp
            have h1 := hp 0 a rfl
            rw [Nat.add_zero] at h1
            have h2 := ih (off + 1) (fun j v hj => by rw [show off + 1 + j = off + (j + 1) by omega]; exact hp (j + 1) v (by simpa using hj))
            simp only [List.length_cons, roCells, h1, h2]
        exact gen _ off pt
      | _ => have := one 0 a0 rfl; simp at this
theorem RowAt.cells {B sz : Nat} {a : Option Addr} {rows : List (List Value)} (r : RowAt B h a sz rows) (hl : ∀ r ∈ rows, r.length = sz) (hz : sz ≠ 0) (hr : rows ≠ []) :
    ∃ b off, a = some ⟨b, off, none⟩ ∧ b < B ∧ cellsAt h ⟨b, off, none⟩ (rows.length * sz) = some rows.flatten := by
  have h0 : 0 < rows.length := List.length_pos_iff.2 hr
  obtain ⟨b, off, rfl, hb, _⟩ := r 0 h0
  refine ⟨b, off, rfl, hb, ?_⟩
  rw [← flat_len rows hl]
  refine cellsAt_pts _ ?_ fun j v hj => ?_
  · intro he
    have := flat_len rows hl
    rw [he] at this
    have : 0 < rows.length * sz := Nat.mul_pos h0 (by omega)
    simp at *; omega
  · have hjl := (List.getElem?_eq_some_iff.1 hj).1
    rw [flat_len rows hl] at hjl
    have hq : j / sz < rows.length := (Nat.div_lt_iff_lt_mul (by omega)).2 hjl
    obtain ⟨b', off', e1, _, e3⟩ := r (j / sz) hq
    cases e1
    have hmod : j % sz < sz := Nat.mod_lt _ (by omega)
    have hin : rows[j / sz][j % sz]? = some v := by
      rw [← flat_drop rows (j / sz) hl hq]
      rw [List.getElem?_take_of_lt hmod, List.getElem?_drop]
      rw [show j / sz * sz + j % sz = j by rw [Nat.mul_comm]; exact Nat.div_add_mod j sz]
      exact hj
    have := cellAt_of e3 hin
    rw [show off + j / sz * sz + j % sz = off + j by rw [Nat.add_assoc]; congr 1; rw [Nat.mul_comm]; exact Nat.div_add_mod j sz] at this
    exact this
end
end Go.Ev
namespace Go.Ev
section
variable {E : Env} {fr : Fr} {h : Heap} {K : Value → Heap → Prop} {t : TypeId}
/-- a store into a part of a block just made -/
theorem st_newP {n off : Nat} {cs cs' : List Value} {e : TypeId} {b : Bool} {v : Value} (ho : over cs off v.cells.toList = some cs') (hc : (Nat.beq v.cells.toList.length n && v.cells.toList.all oneCell && !Nat.beq n 0) = true) (k : K undef (newBlk h (.cells cs' e b))) :
    stK n (.pointer (some ⟨h.n, off, none⟩)) v (newBlk h (.cells cs e b)) K := by
  simp only [Bool.and_eq_true, Bool.not_eq_true'] at hc
  refine st_at (cs' := cs') (newBlk_same _ _) rfl (Nat.eq_of_beq_eq_true hc.1.1) ho hc.1.2 (Nat.ne_of_beq_eq_false hc.2) ?_
  have : ({ newBlk h (.cells cs e b) with b := (newBlk h (.cells cs e b)).b.set h.n (.cells cs' e b) } : Heap) = newBlk h (.cells cs' e b) := by
    simp [newBlk, T.set_set]
  rw [this]; exact k
theorem bs_nil {e : TypeId} {sz : Nat} {zs : List Value} (k : K (.slice (some ⟨h.n, 0, none⟩) 0 0) (newBlk h (.cells [] e true))) : bsK e sz zs 0 [] h K := bs_of (l := []) rfl k
end
end Go.Ev
namespace Go.Ev
section
variable {E : Env} {fr : Fr} {h : Heap} {K : Value → Heap → Prop} {t : TypeId}
/-! arrays made -/
def arrOf (E : Env) (t : TypeId) : Option (List Value × Nat) := match zero E t, und E t with
  | some z, some (.array _ e) => (size E e).map (z.cells.toList, ·)
  | _, _ => none
def bdaK (zs : List Value) (sz : Nat) (ps : List (Nat × Value)) (K : Value → Prop) [Tok K] : Prop := onV (fillL (fun i => some (i * sz, sz)) zs ps) fun l => K (.agg ⟨l⟩)
theorem opW_buildA {zs : List Value} {sz : Nat} {ps : List (Nat × Operand)} (hp : arrOf E t = some (zs, sz)) : opW E (.build t ⟨ps⟩) fr h K = evpK E fr ps fun l => bdaK zs sz l fun u => K u h := by
  unfold arrOf at hp
  split at hp
  · rename_i z n e hz hu
    simp only [Option.map_eq_some_iff, Prod.mk.injEq] at hp
    obtain ⟨p, hp, rfl, rfl⟩ := hp
    rw [opW_pure rfl (by simp)]
    simp only [pureOp, operOf, evp, evpK, onV, bdaK]
    cases mapOpt (fun (p : Nat × Operand) => (ev E fr p.2).map (p.1, ·)) ps with
    | none => simp
    | some l =>
      simp only [abuild, hz, hu, hp, Option.some.injEq, exists_eq_left']
      generalize fillL (fun i => some (i * p, p)) z.cells.toList l = r
      cases r <;> simp
  · cases hp
theorem bda_of {zs l : List Value} {sz : Nat} {ps : List (Nat × Value)} {K : Value → Prop} (hf : fillL (fun i => some (i * sz, sz)) zs ps = some l) (k : K (.agg ⟨l⟩)) : bdaK zs sz ps K := by
  unfold bdaK; rw [hf, onV_some']; exact k
end
end Go.Ev
