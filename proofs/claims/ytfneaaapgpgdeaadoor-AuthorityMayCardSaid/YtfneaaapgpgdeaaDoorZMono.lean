/- THE EVALUATOR, part 'Mono': a deterministic reading of the program's code over an abstract heap, and that the model does what it says. Conditions: none beyond each theorem's own. -/
import Derived.Test.YtfneaaapgpgdeaaDoorZTop
set_option linter.unusedSimpArgs false
set_option linter.unusedVariables false
namespace Go.Ev
section
variable {E : Env}
abbrev CallT := Fn → List Value → Heap → Option (Value × Heap)
def CallLe (c c' : CallT) : Prop := ∀ f a h r, c f a h = some r → c' f a h = some r

theorem opBy_le {c c' : CallT} (hc : CallLe c c') {fr : Fr} {o : Oper} {h : Heap} {r : Value × Heap} (e : opBy E c fr o h = some r) : opBy E c' fr o h = some r := by
  unfold opBy at e ⊢
  cases hk : kindOf E o.op <;> simp only [hk] at e ⊢ <;> try exact e
  split at e
  · rename_i cl hcl
    split at e
    · exact e
    · split at e
      · rename_i f args ht
        exact hc _ _ _ _ e
      · cases e
  · exact e

theorem step_le {c c' : CallT} (hc : CallLe c c') {nt : Nat} {ops : List Oper} {fr : Fr} {o : Oper} {h : Heap} {r : Fr × Heap} (e : step E c nt ops fr o h = some r) : step E c' nt ops fr o h = some r := by
  unfold step at e ⊢
  split at e
  · cases e
  · exact e
  · split at e
    · rename_i p hp; rw [opBy_le hc hp]; exact e
    · cases e

theorem stepsText_le {c c' : CallT} (hc : CallLe c c') {nt : Nat} {all : List Oper} : ∀ (os : List Oper) {fr : Fr} {h : Heap} {r : Fr × Heap}, stepsText E c nt all os fr h = some r → stepsText E c' nt all os fr h = some r
  | [], _, _, _, e => e
  | o :: os, fr, h, r, e => by
    simp only [stepsText] at e ⊢
    split at e
    · rename_i fr1 h1 e1; rw [step_le hc e1]; exact stepsText_le hc os e
    · cases e

theorem stepsPlan_le {c c' : CallT} (hc : CallLe c c') {nt : Nat} {all : List Oper} : ∀ (os : List Item) {fr : Fr} {h : Heap} {r : Fr × Heap}, stepsPlan E c nt all os fr h = some r → stepsPlan E c' nt all os fr h = some r
  | [], _, _, _, e => e
  | x :: xs, fr, h, r, e => by
    simp only [stepsPlan] at e ⊢
    split at e
    · cases e
    · rename_i o ho
      split at e
      · rename_i fr1 h1 e1
        rw [step_le hc e1]
        simp only
        cases hb : (Nat.ble h.n h1.n && againOk E all fr1 h1 x.again) with
        | false => rw [hb] at e; cases e
        | true => rw [hb] at e; exact stepsPlan_le hc xs e
      · cases e

theorem iter_le {f f' : Fr → Heap → Option (Ex × Fr × Heap)} (hf : ∀ fr h r, f fr h = some r → f' fr h = some r) : ∀ (n : Nat) (fr : Fr) (h : Heap) (r : Ex × Fr × Heap), iter f n fr h = some r → iter f' n fr h = some r
  | 0, _, _, _, e => by simp [iter] at e
  | n + 1, fr, h, r, e => by
    simp only [iter] at e ⊢
    split at e
    · rename_i fr1 h1 e1; rw [hf _ _ _ e1]; exact iter_le hf n _ _ _ e
    · rename_i hno
      rw [hf _ _ _ e]
      obtain ⟨ex, fr', h'⟩ := r
      cases ex with
      | normal => exact absurd e (hno _ _)
      | exit id => rfl
      | ret => rfl

theorem mround_le {f f' : Fr → Heap → Option (Ex × Fr × Heap)} (hf : ∀ fr h r, f fr h = some r → f' fr h = some r) {nt : Nat} {M : MHead} {fr0 : Fr} {H : Heap} {x : Value × Value × Nat} {r : Fr × Heap} (e : mround f nt M fr0 H x = some r) : mround f' nt M fr0 H x = some r := by
  unfold mround at e ⊢
  split at e
  · cases e
  · split at e
    · rename_i h1; rw [hf _ _ _ h1]; exact e
    · cases e
theorem mend_le {f f' : Fr → Heap → Option (Ex × Fr × Heap)} (hf : ∀ fr h r, f fr h = some r → f' fr h = some r) {nt : Nat} {M : MHead} {fr0 : Fr} {H : Heap} {r : Ex × Fr × Heap} (e : mend f nt M fr0 H = some r) : mend f' nt M fr0 H = some r := by
  unfold mend at e ⊢
  split at e
  · cases e
  · split at e
    · cases e
    · rename_i hno
      rw [hf _ _ _ e]
      obtain ⟨ex, fr', h'⟩ := r
      cases ex with
      | normal => exact absurd e (hno _ _)
      | exit id => rfl
      | ret => rfl
theorem mrounds_le {f f' : Fr → Heap → Option (Ex × Fr × Heap)} (hf : ∀ fr h r, f fr h = some r → f' fr h = some r) {nt : Nat} {M : MHead} {fr0 : Fr} {H : Heap} : ∀ (es : List (Value × Value × Nat)) {r : List ((Value × Value × Nat) × Fr × Heap)}, mrounds f nt M fr0 H es = some r → mrounds f' nt M fr0 H es = some r
  | [], _, e => e
  | x :: es, r, e => by
    simp only [mrounds] at e ⊢
    split at e
    · rename_i h3 l e1 e2
      rw [mround_le hf e1, mrounds_le hf es e2]
      exact e
    · cases e
theorem mapAll_le {f f' : Fr → Heap → Option (Ex × Fr × Heap)} (hf : ∀ fr h r, f fr h = some r → f' fr h = some r) {nt : Nat} {M : MHead} {fr0 : Fr} {H : Heap} {r : Ex × Fr × Heap} (e : mapAll f nt M fr0 H = some r) : mapAll f' nt M fr0 H = some r := by
  unfold mapAll at e ⊢
  obtain ⟨hat, e⟩ := cond_some e
  rw [hat, cond_true]
  split at e
  · cases e
  · rename_i e1; rw [mrounds_le hf _ e1]; exact mend_le hf e
  · rename_i x f1 h1 e1
    rw [mrounds_le hf _ e1]
    simp only
    obtain ⟨hg, e⟩ := cond_some e
    refine (show ∀ g : Bool, g = true → cond g (mend f' nt M (keepF fr0 f1 (List.range nt)) h1) none = some r from fun g hg => by rw [hg]; exact mend_le hf e) _ ?_
    simp only [Bool.and_eq_true, List.all_eq_true] at hg ⊢
    refine ⟨hg.1, fun y hy => ?_⟩
    have := hg.2 y hy
    simp only [Bool.or_eq_true] at this ⊢
    rcases this with h | h
    · exact .inl h
    · right
      split at h
      · rename_i h3 e3
        rw [mround_le hf e3]
        exact h
      · cases h
  · cases e
theorem code_leN {c c' : CallT} (hc : CallLe c c') {nt : Nat} {rd : Option Nat} : ∀ (N : Nat) (k : Code), SizeOf.sizeOf k ≤ N → ∀ (fr : Fr) (h : Heap) (r : Ex × Fr × Heap), code E c nt rd k fr h = some r → code E c' nt rd k fr h = some r
  | 0, k, hN, _, _, _, _ => absurd hN (by cases k <;> simp)
  | N + 1, .skip, hN, _, _, _, e => e
  | N + 1, .label _, hN, _, _, _, e => e
  | N + 1, .exit _, hN, _, _, _, e => e
  | N + 1, .ret, hN, _, _, _, e => e
  | N + 1, .region _ ops false, hN, fr, h, r, e => by
    simp only [code] at e ⊢
    cases hdf : ops.toList.any isDefer with
    | true => rw [hdf] at e; exact e
    | false =>
    rw [hdf] at e
    simp only [cond_false, Option.map_eq_some_iff] at e ⊢
    obtain ⟨a, e1, e2⟩ := e
    exact ⟨a, stepsText_le hc _ e1, e2⟩
  | N + 1, .region _ ops true, hN, fr, h, r, e => by
    simp only [code] at e ⊢
    split at e
    · simp only [Option.map_eq_some_iff] at e ⊢
      obtain ⟨a, e1, e2⟩ := e
      exact ⟨a, stepsPlan_le hc _ e1, e2⟩
    · split at e
      · rename_i q A Z hplI
        split at e
        · rename_i f0 h0 hrq
          rw [stepsPlan_le hc _ hrq]
          simp only
          cases hall : insAll E ops.toList f0 h0 A with
          | false => rw [hall] at e; cases e
          | true =>
            rw [hall] at e
            simp only [cond_true, Option.map_eq_some_iff] at e ⊢
            obtain ⟨a, e1, e2⟩ := e
            exact ⟨a, stepsPlan_le hc _ e1, e2⟩
        · cases e
      · cases e
  | N + 1, .seq a b, hN, fr, h, r, e => by
    simp only [code] at e ⊢
    split at e
    · rename_i fr1 h1 e1; rw [code_leN hc N a (by simp at hN; omega) _ _ _ e1]; exact code_leN hc N b (by simp at hN; omega) _ _ _ e
    · rename_i hno
      rw [code_leN hc N a (by simp at hN; omega) _ _ _ e]
      obtain ⟨ex, fr', h'⟩ := r
      cases ex with
      | normal => exact absurd e (hno _ _)
      | exit id => rfl
      | ret => rfl
  | N + 1, .cond x a b, hN, fr, h, r, e => by
    simp only [code] at e ⊢
    split at e
    · exact code_leN hc N a (by simp at hN; omega) _ _ _ e
    · exact code_leN hc N b (by simp at hN; omega) _ _ _ e
    · cases e
  | N + 1, .block id b, hN, fr, h, r, e => by
    simp only [code] at e ⊢
    split at e
    · rename_i j fr1 h1 e1; rw [code_leN hc N b (by simp at hN; omega) _ _ _ e1]; exact e
    · rename_i hno
      rw [code_leN hc N b (by simp at hN; omega) _ _ _ e]
      obtain ⟨ex, fr', h'⟩ := r
      cases ex with
      | normal => rfl
      | exit id => exact absurd e (hno _ _ _)
      | ret => rfl
  | N + 1, .loop b, hN, fr, h, r, e => by
    have ih0 : ∀ fr h r, code E c nt rd b fr h = some r → code E c' nt rd b fr h = some r := code_leN hc N b (by simp at hN; omega)
    by_cases hb : ∃ id ops rest, b = .seq (.region id ops false) rest
    · obtain ⟨id, ops, rest, rfl⟩ := hb
      simp only [code] at e ⊢
      split at e
      · exact iter_le (fun fr h r => ih0 fr h r) _ _ _ _ e
      · rename_i M hM
        refine mapAll_le (fun fr h r e => ?_) e
        split at e
        · rename_i f1 h1 e1
          rw [stepsText_le hc _ e1]
          exact code_leN hc N rest (by simp at hN; omega) _ _ _ e
        · cases e
    · have e' : ∀ k, code E k nt rd (.loop b) fr h = iter (code E k nt rd b) 1000000 fr h := by
        intro k
        cases b with
        | seq x y => cases x with
          | region id ops dr => cases dr with
            | true => simp only [code]
            | false => exact absurd ⟨_, _, _, rfl⟩ hb
          | _ => simp only [code]
        | _ => simp only [code]
      rw [e'] at e ⊢
      exact iter_le ih0 _ _ _ _ e
  | N + 1, .scope b, hN, fr, h, r, e => by
    simp only [code] at e ⊢
    exact code_leN hc N b (by simp at hN; omega) _ _ _ e
  | N + 1, .rangeFunc g ps assign bd, hN, fr, h, r, e => by
    simp only [code] at e ⊢
    cases hin : inRound h rd with
    | false => rw [hin] at e; cases e
    | true =>
      rw [hin] at e
      simp only [cond_true] at e ⊢
      split at e
      · split at e
        · cases e
        · split at e
          · rename_i v2 h2 hcall
            rw [hc _ _ _ _ hcall]
            exact e
          · cases e
      · cases e
  | N + 1, .goto .., hN, _, _, _, e => by simp [code] at e
  | N + 1, .refuse .., hN, _, _, _, e => by simp [code] at e

theorem code_le {c c' : CallT} (hc : CallLe c c') {nt : Nat} {rd : Option Nat} (k : Code) (fr : Fr) (h : Heap) (r : Ex × Fr × Heap) : code E c nt rd k fr h = some r → code E c' nt rd k fr h = some r :=
  code_leN hc (SizeOf.sizeOf k) k (Nat.le_refl _) fr h r

theorem callF_succ : ∀ d, CallLe (callF E d) (callF E (d + 1))
  | 0 => fun f a h r e => by simp [callF] at e
  | d + 1 => fun f args h r e => by
    have ih := callF_succ d
    cases f with
    | func f =>
      rw [callF] at e ⊢
      split at e
      · exact e
      · split at e
        · cases e
        · rename_i fn hfn
          split at e
          · cases e
          · rename_i b hb
            split at e
            · cases e
            · rename_i ex fr1 h1 hnx hcode
              rw [code_le ih b _ _ _ hcode]
              cases ex with
              | normal => exact e
              | ret => exact e
              | exit id => exact absurd rfl (hnx id)
            · cases e
    | yield l =>
      rw [callF] at e ⊢
      split at e
      · split at e
        · cases e
        · rename_i fr1 hps
          split at e
          · rename_i fr2 h2 hasg
            rw [code_le ih _ _ _ _ hasg]
            simp only
            split at e
            · cases e
            · rename_i h3 hbeg
              split at e
              · rename_i ex fr4 h4 hbody
                rw [code_le ih _ _ _ _ hbody]
                exact e
              · cases e
          · cases e
      · cases e
    | method n => simp [callF] at e
    | methodOf t n => simp [callF] at e
    | via t p f q => simp [callF] at e
theorem callF_mono {d d' : Nat} (hd : d ≤ d') : CallLe (callF E d) (callF E d') := by
  induction hd with
  | refl => exact fun _ _ _ _ e => e
  | step _ ih => exact fun f a h r e => callF_succ _ _ _ _ _ (ih _ _ _ _ e)

/-- marks what the simplifier is to leave alone -/
class Tok {α : Type} (a : α) : Type where
instance {α : Type} (a : α) : Tok a := ⟨⟩

/-- a call's result, whatever its depth -/
def Ret (E : Env) (f : Fn) (args : List Value) (h : Heap) (K : Value → Heap → Prop) [Tok K] : Prop := ∃ d v h', callF E d f args h = some (v, h') ∧ K v h'
theorem Ret.mono {f : Fn} {args : List Value} {h : Heap} {K K' : Value → Heap → Prop} (r : Ret E f args h K) (k : ∀ v h', K v h' → K' v h') : Ret E f args h K' :=
  let ⟨d, v, h', e, hk⟩ := r; ⟨d, v, h', e, k _ _ hk⟩
theorem Ret.det {f : Fn} {args : List Value} {h : Heap} {K : Value → Heap → Prop} {v : Value} {h' : Heap} (r : Ret E f args h fun v1 h1 => v1 = v ∧ h1 = h') : Ret E f args h K ↔ K v h' := by
  obtain ⟨d, v1, h1, e, rfl, rfl⟩ := r
  refine ⟨fun ⟨d', v2, h2, e', k⟩ => ?_, fun k => ⟨d, _, _, e, k⟩⟩
  have e1 := callF_mono (Nat.le_max_left d d') _ _ _ _ e
  have e2 := callF_mono (Nat.le_max_right d d') _ _ _ _ e'
  rw [e1] at e2
  cases e2
  exact k
end
end Go.Ev
