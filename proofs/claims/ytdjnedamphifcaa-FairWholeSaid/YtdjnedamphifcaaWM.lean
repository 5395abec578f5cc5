/- 'counted', whole. Conditions: each theorem's own. -/
import Derived.Test.YtdjnedamphifcaaWL
set_option linter.unusedSimpArgs false
set_option linter.unusedVariables false
namespace Go.Proofs.Ytdjnedamphifcaa
open Go.Ev
set_option maxRecDepth 100000
set_option maxHeartbeats 400000
def allQ (d : ViewD) : List Int := d.next.filter (0 ≤ ·) ++ (ringsOf d ++ d.global)
def fineAll (d : ViewD) : Bool := allUp (fineRun d) d.runs.length && allUp (fineTim d) d.timers.length
theorem CMf_nil : CMf [] [] [] = fun _ => none := by funext g; simp [CMf]
theorem counted_ret {B : Nat} {a : VA} {d : ViewD} {h : Heap} {K : Value → Heap → Prop} (ho : OnceP d) (hr : Ranges d) (hB : B ≤ h.n) (hv : VOK B h a d)
    (hsl : sameV 50 (.slice a.la d.global.length a.lc) (.slice a.la d.global.length a.lc) = true)
    (hK : ∀ r h', MapAt kvI h' r (CMf (allQ d) (d.runs.filter (0 ≤ ·)) (d.timers.map TimerD.id)) → h.n ≤ r → ExtB h.n h h' → K (.tuple #[.map (some r), .bool (fineAll d)]) h') : Ret env (.func 21) [.agg ⟨vcells a d⟩] h K := by
  refine F21 rfl ?_
  simp -dsimp only [↓cw_ops, ↓cw_seq, ↓seqK_normal, ↓getK_same, ↓getK_ne, ↓evK_tmp, ↓evK_bool, ↓opsW_nil, ↓opsW_d, ↓opsW_n, ↓opW_assign, ↓setAll_cons, ↓setAll_nil, ↓opW_box, ↓box_agg, ↓al_67, ↓mm_67, ↓st_67, ↓r21_82_w, ↓s21_83_w, ↓r21_84_w, ↓s21_85_w, newBlk_n, true_and, ne_eq, Nat.reduceEqDiff, not_false_eq_true, vcells_one a d]
  have V := VBox.new h a d 45
  have X : ExtB h.n h (newBlk h (.cells (vcells a d) 45 true)) := ExtB.new _ (Nat.le_refl _)
  have hn1 : (newBlk h (.cells (vcells a d) 45 true)).n = h.n + 1 := rfl
  generalize newBlk h (.cells (vcells a d) 45 true) = h1 at V X hn1 ⊢
  have hc0 : (newBlk (newBlk h1 (.cells [.map none] 67 true)) (.map [] 0)).b.get h1.n = some (.cells [.map none] 67 true) := by
    rw [newBlk_old _ (by simp [newBlk]), newBlk_same]
  rw [hn1] at hc0
  refine st_at (off := 0) (cs' := [.map (some (h.n + 1 + 1))]) hc0 rfl rfl rfl rfl (by decide) ?_
  simp -dsimp only [↓cw_ops, ↓cw_seq, ↓seqK_normal, ↓getK_same, ↓getK_ne, ↓evK_tmp, ↓evK_bool, ↓evK_func, ↓opsW_nil, ↓opsW_d, ↓opW_assign, ↓evs_nil, ↓evs_cons, ↓setAll_cons, ↓setAll_nil, ↓opW_makeFuncF, ↓r21_76_w, ↓s21_77_w, ↓r21_78_w, ↓s21_79_w, ↓r21_80_w, ↓s21_81_w, newBlk_n, ne_eq, Nat.reduceEqDiff, not_false_eq_true]
  have m0 : MapAt kvI (newBlk (newBlk h1 (.cells [.map none] 67 true)) (.map [] 0)) (h1.n + 1) (CMf [] [] []) := by rw [CMf_nil]; exact MapAt.new _
  have X0 : ExtB h1.n h1 (newBlk (newBlk h1 (.cells [.map none] 67 true)) (.map [] 0)) := (ExtB.new _ (Nat.le_refl _)).trans (ExtB.new _ (by simp [newBlk]))
  have hn0 : (newBlk (newBlk h1 (.cells [.map none] 67 true)) (.map [] 0)).n = h1.n + 2 := rfl
  have hs0 : ({ n := h1.n + 1 + 1, b := (newBlk (newBlk h1 (.cells [.map none] 67 true)) (.map [] 0)).b.set (h.n + 1) (.cells [.map (some (h.n + 1 + 1))] 67 true) } : Heap) = { newBlk (newBlk h1 (.cells [.map none] 67 true)) (.map [] 0) with b := (newBlk (newBlk h1 (.cells [.map none] 67 true)) (.map [] 0)).b.set (h.n + 1) (.cells [.map (some (h.n + 1 + 1))] 67 true) } := rfl
  rw [hs0]
  generalize newBlk (newBlk h1 (.cells [.map none] 67 true)) (.map [] 0) = h2 at m0 X0 hn0 ⊢
  have X1 : ExtB h1.n h1 { h2 with b := h2.b.set (h.n + 1) (.cells [.map (some (h.n + 1 + 1))] 67 true) } := X0.trans (ExtB.set _ (by omega))
  have m1 : MapAt kvI { h2 with b := h2.b.set (h.n + 1) (.cells [.map (some (h.n + 1 + 1))] 67 true) } (h1.n + 1) (CMf [] [] []) := m0.ext (Nat.le_refl _) (T.get_set_ne _ _ (by omega))
  have c1 : ({ h2 with b := h2.b.set (h.n + 1) (.cells [.map (some (h.n + 1 + 1))] 67 true) } : Heap).b.get (h.n + 1) = some (.cells [.map (some (h.n + 1 + 1))] 67 true) := by simp [T.get_set]
  generalize ({ h2 with b := h2.b.set (h.n + 1) (.cells [.map (some (h.n + 1 + 1))] 67 true) } : Heap) = h3 at X1 m1 c1 ⊢
  rw [hn1] at m1 X1
  have XX : ExtB h.n h h3 := X.trans (X1.mono (by omega))
  have x0 : CI B h.n (h.n + 1) (h.n + 1 + 1) h3 a d [] [] [] := ⟨V.ext X1 (by omega), by omega, by omega, by omega, hv.ext (XX.mono hB), c1, m1⟩
  simp only [hn1]
  have hrl : (d.runs.filter (0 ≤ ·)).length ≤ 8 := Nat.le_trans (List.length_filter_le ..) ho.runs
  have hnl : (d.next.filter (0 ≤ ·)).length ≤ 8 := Nat.le_trans (List.length_filter_le ..) ho.next
  have hlq : (allQ d).length ≤ 500 := by
    have h2 : (ringsOf d).length = (d.rings.map (·.l.length)).sum := by unfold ringsOf; rw [List.length_flatten, List.map_map]; rfl
    have := ho.sum
    unfold allQ
    rw [List.length_append, List.length_append]; omega
  refine runs_phase2 ho hr x0 ⟨by simp [T.get_set], by simp [T.get_set], by simp [T.get_set], by simp [T.get_set], by simp [T.get_set]⟩ (by simp [T.get_set]) fun fr4 h4 x4 e4 cf4 f4 => ?_
  refine next_phase2 ho x4 cf4 f4 rfl hrl fun fr5 h5 x5 e5 cf5 f5 => ?_
  refine rings_phase2 ho x5 cf5 f5 hnl hrl hsl fun fr6 h6 x6 e6 cf6 f6 => ?_
  refine timers_phase2 ho x6 cf6 f6 hlq hrl fun h7 m7 e7 => ?_
  have E6 : ExtB h.n h h6 := XX.trans (((e4.trans e5).trans e6).mono (by omega))
  exact hK _ h7 m7 (by omega) (E6.trans (e7.mono (by omega)))
end Go.Proofs.Ytdjnedamphifcaa
