/- THE EVALUATOR, part 'Fb': a deterministic reading of the program's code over an abstract heap, and that the model does what it says. Conditions: none beyond each theorem's own. -/
import Derived.Test.YtfneaaapgpgdeaaDoorZFl
set_option linter.unusedSimpArgs false
set_option linter.unusedVariables false
namespace Go.Ev
/-! words of numbers are below 2^64 -/
def FB (v : Value) : Prop := v = .chan none ∨ ∃ n, n < 18446744073709551616 ∧ v = .float .f64 n
theorem FB.isF {v : Value} (h : FB v) : isF v = true := by
  rcases h with rfl | ⟨n, _, rfl⟩ <;> rfl
theorem sw : Ieee.double.signWeight = 9223372036854775808 := by decide +kernel
theorem ir : Ieee.double.infRung = 9218868437227405312 := by decide +kernel
theorem word_lt {neg : Bool} {r : Nat} (h : r ≤ Ieee.double.infRung) : Ieee.double.word neg r < 18446744073709551616 := by
  unfold Ieee.Format.word
  rw [sw]
  rw [ir] at h
  split <;> omega
theorem nearest_lt {neg : Bool} {m : Nat} {p : Int} : Ieee.double.nearest neg m p < 18446744073709551616 := by
  unfold Ieee.Format.nearest
  split
  · exact word_lt (Nat.zero_le _)
  · exact word_lt (Nat.min_le_right _ _)
def noNan : Ieee.Datum → Bool
  | .nan .. => false
  | _ => true
theorem write_lt {d : Ieee.Datum} (h : noNan d = true) : Ieee.double.write d < 18446744073709551616 := by
  cases d with
  | number s m e => exact nearest_lt
  | infinity s => exact word_lt (Nat.le_refl _)
  | nan s f => cases h
theorem sum_ok {a b d : Ieee.Datum} (e : a.sum b = some d) : noNan d = true := by
  unfold Ieee.Datum.sum at e
  split at e
  all_goals first | (cases e; done) | (cases e; rfl) | (split at e <;> first | (cases e; done) | (cases e; rfl))
theorem product_ok {a b d : Ieee.Datum} (e : a.product b = some d) : noNan d = true := by
  unfold Ieee.Datum.product at e
  split at e
  all_goals first | (cases e; done) | (cases e; rfl) | (split at e <;> first | (cases e; done) | (cases e; rfl))
theorem quotient_ok {k : Nat} {a b d : Ieee.Datum} (e : a.quotient k b = some d) : noNan d = true := by
  unfold Ieee.Datum.quotient at e
  split at e
  all_goals first
    | (cases e; done)
    | (cases e; rfl)
    | (split at e
       · split at e <;> first | (cases e; done) | (cases e; rfl)
       · simp only [Option.some.injEq] at e; rw [← e]; rfl)
theorem fres_FB {o : Option Ieee.Datum} (h : ∀ d, o = some d → noNan d = true) : FB (fres (o.map Ieee.double.write)) := by
  cases o with
  | none => exact .inl rfl
  | some d => exact .inr ⟨_, write_lt (h d rfl), rfl⟩
theorem fA_FB {op : BinOp} {v w : Value} (ho : arithF op = true) (hv : FB v) (hw : FB w) : FB (fA op v w) := by
  rcases hv with rfl | ⟨n, hn, rfl⟩ <;> rcases hw with rfl | ⟨m, hm, rfl⟩ <;> cases op <;> first
    | (cases ho; done)
    | exact .inl rfl
    | exact fres_FB fun d e => sum_ok e
    | exact fres_FB fun d e => product_ok e
    | exact fres_FB fun d e => quotient_ok e
theorem nearest_FB (n : Int) : FB (.float .f64 (FloatKind.nearest .f64 n)) := .inr ⟨_, write_lt (d := .number (n < 0) n.natAbs 0) rfl, rfl⟩
theorem bs_F {e : TypeId} {z v : Value} {h : Heap} {K : Value → Heap → Prop} (hv : isF v = true) : bsK e 1 [z] 1 [(0, v)] h K = K (.slice (some ⟨h.n, 0, none⟩) 1 1) (newBlk h (.cells [v] e true)) :=
  bs_one (by rw [isF_cells hv]) rfl rfl (by decide)
end Go.Ev
