/- THE EVALUATOR, part 'Act5': a deterministic reading of the program's code over an abstract heap, and that the model does what it says. Conditions: none beyond each theorem's own. -/
import Derived.Test.YtfneaaapgpgdeaaDoorZAct4
import Derived.Lib.ConvBytes
import Derived.Laws.AppendOwn
set_option linter.unusedSimpArgs false
set_option linter.unusedVariables false
namespace Go.Ev
section
variable {P : Program} {E : Env} {ρ : Ren} {h : Heap} {w : World}

theorem rep_length {α : Type} (l : List α) : ∀ n, (rep n l).length = n * l.length
  | 0 => by simp [rep]
  | n + 1 => by rw [rep, List.length_append, rep_length l n, Nat.succ_mul, Nat.add_comm]

theorem cells_ge {cs : List Value} {xs : Array Value} (hc : ∀ (i : Nat) (v : Value), cs[i]? = some v → ∃ v', xs[i]? = some v' ∧ VR ρ v v') : cs.length ≤ xs.size := by
  by_cases hz : cs.length = 0
  · omega
  · obtain ⟨v', e', _⟩ := hc (cs.length - 1) _ (List.getElem?_eq_getElem (by omega))
    have := (Array.getElem?_eq_some_iff.1 e').1
    omega

theorem appendRow_sim (hE : EnvOK P E) (hr : HR P ρ h w) {ty : TypeId} {ts : Array TypeId} {xs : Array Value} {st xt elem : TypeId} {sz : Nat} {info : TypeInfo} {z : Value} {base : Option Addr} {sl sc n : Nat} {x' s' : Value} {new new' : List Value} {v : Value} {h' : Heap}
    (e : appendRow h elem sz base sl sc n new = some (v, h'))
    (ht : ts[0]? = some st) (hxt : ts[1]? = some xt) (h0 : xs[0]? = some s') (h1 : xs[1]? = some x') (hu : P.underlying st = some (.slice elem))
    (i1 : P.info? elem = some info) (i3 : info.size = sz) (hzz : info.zero = some z) (g1 : ¬ sz = 0) (g2' : z.cells.size = sz) (g3 : info.bytes ≤ 10000) (g4 : sl + n ≤ 100000) (hn : ¬ n = 0)
    (rs : VR ρ (.slice base sl sc) s') (happ : App P w elem sz xt x' n new') (rnew : VRL ρ new new') (hnl : new.length = n * sz) (hall : new.all Ev.oneCell = true) :
    ∃ v' ρ' w', (Builtin.append_ ts ty xs).run P w = .ok v' w' ∧ VR ρ' v v' ∧ Stp P ρ h w ρ' h' w' := by
  have hs : ∀ w : World, (sizeOf elem).run P w = .ok sz w := fun w => by simp [sizeOf, Go.run_typeInfo w i1, i3]
  have hcell : P.cellsOf elem = sz := by simp [Program.cellsOf, i1, i3]
  have hn0 : n * sz ≠ 0 := Nat.mul_ne_zero hn g1
  unfold appendRow at e
  rw [cond_beq] at e
  by_cases hc2 : sc = UNK2
  · rw [if_pos hc2] at e; cases e
  rw [if_neg hc2, cond_beq] at e
  by_cases hc1 : sc = UNK
  · -- a row that grew
    rw [if_pos hc1] at e
    subst hc1
    split at e
    case h_2 => cases e
    rename_i bi
    split at e
    case h_2 => cases e
    rename_i cs el hk
    rw [cond_beq] at e
    by_cases hel : el = elem
    case neg => rw [if_neg hel] at e; cases e
    rw [if_pos hel] at e
    subst hel
    cases rs with
    | slice _ _ _ _ hlt => exact absurd hlt (Nat.lt_irrefl _)
    | @sliceU _ b c _ _ cap hi' hlu hl hcap =>
      have hcap := hcap rfl
      subst hcap
      obtain ⟨k, o, e1, e2, e3⟩ := hr.blk bi b cap hi'
      rw [hk] at e1; cases e1
      cases e3 with
      | cells _ ys _ _ hcc hss =>
        simp only [Bool.false_eq_true, if_false] at hss
        rw [hcell] at hss
        have hge := cells_ge hcc
        rw [ble_eq] at e
        by_cases hfit : (sl + n) * sz ≤ cs.length
        · -- it surely fits
          simp only [hfit, decide_true, cond_true, Option.map_eq_some_iff, Prod.mk.injEq] at e
          obtain ⟨h2, hw, rfl, rfl⟩ := e
          obtain ⟨w', hst, hstp⟩ := writeCells_sim hr hi' hw rnew hall
          have hle : sl + n ≤ cap := by
            have : (sl + n) * sz ≤ cap * sz := by omega
            exact Nat.le_of_mul_le_mul_right this (by omega)
          have := run_append_fits (ty := ty) (w' := w') ht hxt h0 h1 hu hs happ hle (by simp only [Addr.add_lit, Nat.zero_add]; exact hst)
          exact ⟨_, ρ, w', this, .sliceU 0 _ _ hi' (Nat.lt_of_le_of_lt g4 (by decide)) hle (fun _ => rfl), hstp⟩
        · simp only [hfit, decide_false, cond_false, cond_beq] at e
          by_cases hend : sl * sz = cs.length
          case neg => rw [if_neg hend] at e; cases e
          rw [if_pos hend] at e
          cases e
          by_cases hroom : sl + n ≤ cap
          · -- there was room
            have hlen2 : new'.length = n * sz := by rw [← rnew.length, hnl]
            have hfit2 : sl * sz + new'.length ≤ ys.size := by
              rw [hlen2, ← Nat.add_mul, hss]; exact Nat.mul_le_mul_right _ hroom
            have hrun := run_storeCells_at (P := P) b (sl * sz) el new' 0 ys w e2 (by omega) (rnew.oneCell hall)
            simp only [Nat.add_zero] at hrun
            have := run_append_fits (ty := ty) ht hxt h0 h1 hu hs happ hroom (by simp only [Addr.add_lit, Nat.zero_add]; exact hrun)
            refine ⟨_, ρ.upd h.n (b, cap), _, this, .sliceU 0 _ _ (Ren.upd_same _ _ _) (Nat.lt_of_le_of_lt g4 (by decide)) hroom (fun _ => rfl), ?_⟩
            refine Stp.grown hr hi' hk (by simp [soft]) (o' := .cells (ys.toList.take (sl * sz) ++ new' ++ ys.toList.drop (sl * sz + new'.length)).toArray el (0, 0)) ?_ ?_ (setRow_heap w b ys _ el (0, 0) e2) (fun j hj => setRow_other w b j _ hj) rfl rfl rfl
            · refine .cells _ _ _ _ (fun j v hv => ?_) ?_
              · have hog := over_get (cs := ys.toList) (xs := new') (off := sl * sz) rfl (by simpa using hfit2) j
                simp only [List.getElem?_toArray]
                rw [hog]
                rw [List.getElem?_append] at hv
                by_cases a1 : j < cs.length
                · rw [if_pos a1] at hv
                  rw [if_pos (by omega)]
                  obtain ⟨v', e', r⟩ := hcc j v hv
                  exact ⟨v', by simpa using e', r⟩
                · rw [if_neg a1] at hv
                  rw [if_neg (by omega)]
                  have hj := (List.getElem?_eq_some_iff.1 hv).1
                  rw [if_pos (by rw [← rnew.length]; omega), hend]
                  exact rnew.get _ _ hv
              · simp only [Bool.false_eq_true, if_false]
                rw [hcell, ← hss]
                simp; omega
            · simp [World.setRow]
          · -- there was none
            have hkill := Stp.kill hr hi' (by rw [hk]; simp [soft])
            have hold : ∀ w2 : World, w2.heap = w.heap → (Builtin.firstCells sz sl (.slice (some ⟨b, 0, none⟩) sl cap)).run P w2 = .ok (ys.toList.take cs.length).toArray w2 := by
              intro w2 hw2
              have hcl : ∀ (j : Nat) (v' : Value), (ys.toList.take cs.length)[j]? = some v' → w2.cell? ((⟨b, 0, none⟩ : Addr).add j) = some v' := by
                intro j v' hv
                have hj := (List.getElem?_eq_some_iff.1 hv).1
                have hj : j < cs.length := by simp at hj; omega
                rw [List.getElem?_take_of_lt hj] at hv
                rw [Addr.add_lit, cell_of (by rw [hw2]; exact e2)]
                simpa using hv
              have := run_loadCells_list (P := P) w2 _ _ hcl
              have hlen3 : (ys.toList.take cs.length).length = sl * sz := by simp; omega
              rw [hlen3] at this
              simpa [Builtin.firstCells] using this
            obtain ⟨cap', d, cells, k1, k2, k3, k4⟩ := run_append_grows (ty := ty) ht hxt h0 h1 hu i1 i3 hzz g2' g3 g4 hroom hold happ hn0 (by simp; omega) (by rw [← rnew.length, hnl])
            have hbr : BR P ρ cap' (.cells (cs ++ new) el false) (.cells cells el (0, 0)) := by
              refine .cells _ _ _ _ (fun j v hv => ?_) (by simp only [Bool.false_eq_true, if_false]; rw [hcell, k2])
              have hold3 : VRL ρ cs (ys.toList.take cs.length) := VRL.of_get (by simp; omega) fun j v hv => by
                obtain ⟨v', e', r⟩ := hcc j v hv
                have hj := (List.getElem?_eq_some_iff.1 hv).1
                exact ⟨v', by rw [List.getElem?_take_of_lt hj]; simpa using e', r⟩
              obtain ⟨v', e', r⟩ := (hold3.append rnew).get j v hv
              exact ⟨v', k3 j v' e', r⟩
            refine ⟨_, ρ.upd h.n (w.heap.size, cap'), _, k4, .sliceU 0 _ _ (Ren.upd_same _ _ _) (Nat.lt_of_le_of_lt g4 (by decide)) k1 (fun _ => rfl), hkill.trans ?_⟩
            exact Stp.alloc hkill.hr hbr rfl rfl rfl rfl
  · -- the capacity is known
    rw [if_neg hc1, ble_eq] at e
    by_cases hfit : sl + n ≤ sc
    · simp only [hfit, decide_true, cond_true] at e
      split at e
      case h_2 => cases e
      rename_i bi off
      simp only [Option.map_eq_some_iff, Prod.mk.injEq] at e
      obtain ⟨h2, hw, rfl, rfl⟩ := e
      cases rs with
      | sliceU _ _ _ _ _ _ _ => exact (hc1 rfl).elim
      | sliceE _ _ _ => exact (hc2 rfl).elim
      | @slice _ b c _ _ _ hi' hlt =>
        obtain ⟨w', hst, hstp⟩ := writeCells_sim hr hi' hw rnew hall
        have := run_append_fits (ty := ty) (w' := w') ht hxt h0 h1 hu hs happ hfit (by simp only [Addr.add_lit]; exact hst)
        exact ⟨_, ρ, w', this, .slice _ _ _ hi' hlt, hstp⟩
    · simp only [hfit, decide_false, cond_false] at e
      split at e
      case h_2 => cases e
      rename_i old hold
      cases e
      have hlt : ∀ sc' : Nat, (∃ b, s' = .slice b sl sc') → sc' = sc := by
        intro sc' hh
        obtain ⟨b, rfl⟩ := hh
        cases rs <;> first | rfl | exact (hc1 rfl).elim | exact (hc2 rfl).elim
      have hform : ∃ b, s' = .slice b sl sc := by
        cases rs <;> first | exact ⟨_, rfl⟩ | exact (hc1 rfl).elim | exact (hc2 rfl).elim
      obtain ⟨b, rfl⟩ := hform
      have hol : ∀ a c, Value.slice base sl sc = .slice a 0 c → sl = 0 := fun a c hh => by injection hh
      obtain ⟨old', hold2, rold, hoL⟩ := firstCells_sim hr hold rs hol
      obtain ⟨cap', d, cells, k1, k2, k3, k4⟩ := run_append_grows (ty := ty) ht hxt h0 h1 hu i1 i3 hzz g2' g3 g4 hfit hold2 happ hn0 (by rw [← rold.length, hoL]) (by rw [← rnew.length, hnl])
      have hbr : BR P ρ cap' (.cells (old ++ new) elem false) (.cells cells elem (0, 0)) := by
        refine .cells _ _ _ _ (fun j v hv => ?_) (by simp only [Bool.false_eq_true, if_false]; rw [hcell, k2])
        obtain ⟨v', e', r⟩ := (rold.append rnew).get j v hv
        exact ⟨v', k3 j v' e', r⟩
      exact ⟨_, ρ.upd h.n (w.heap.size, cap'), _, k4, .sliceU 0 _ _ (Ren.upd_same _ _ _) (Nat.lt_of_le_of_lt g4 (by decide)) k1 (fun _ => rfl), Stp.alloc hr hbr rfl rfl rfl rfl⟩

theorem aappend_sim (hE : EnvOK P E) (hr : HR P ρ h w) {ty : TypeId} {ts : Array TypeId} {xs : Array Value} {args : List Value} {v : Value} {h' : Heap} (e : aappend E ts.toList args h = some (v, h')) (hx : VRL ρ args xs.toList) :
    ∃ v' ρ' w', (Builtin.append_ ts ty xs).run P w = .ok v' w' ∧ VR ρ' v v' ∧ Stp P ρ h w ρ' h' w' := by
  unfold aappend at e
  split at e
  case h_2 => cases e
  rename_i st xt ts0 base sl sc x xs0 hts
  have ht : ts[0]? = some st := by
    have : ts.toList[0]? = some st := by rw [hts]; rfl
    simpa using this
  have hxt : ts[1]? = some xt := by
    have : ts.toList[1]? = some xt := by rw [hts]; rfl
    simpa using this
  split at e
  case h_3 => cases e
  case h_2 =>
    rename_i elem hu hux
    have hu := hE.und hu (by simp)
    unfold aappendZ at e
    split at e
    case h_2 => cases e
    rename_i k k' l i hux2 hi
    have hux2 := hE.und hux2 (by simp)
    split at e
    case h_2 => cases e
    rename_i z hz
    obtain ⟨info, i1, i2, i3, i4, i5, i6, i7⟩ := hE.tab elem i hi
    have hzz := i6 z hz
    obtain ⟨s', h0, rs⟩ := hx.get 0 _ rfl
    obtain ⟨x', h1, rx⟩ := hx.get 1 _ rfl
    have h0 : xs[0]? = some s' := by simpa using h0
    have h1 : xs[1]? = some x' := by simpa using h1
    cases rx
    by_cases hg : 0 ≤ l ∧ l ≤ 100000 ∧ ¬ i.size = 0 ∧ z.cells.toList.length = i.size ∧ i.bytes ≤ 10000 ∧ sl + l.toNat ≤ 100000 ∧ (sl ≤ sc ∨ ¬ l.toNat = 0)
    case neg =>
      exfalso
      have : (decide (0 ≤ l) && decide (l ≤ 100000) && !Nat.beq i.size 0 && Nat.beq z.cells.toList.length i.size && Nat.ble i.bytes 10000 && Nat.ble (sl + l.toNat) 100000 && (Nat.ble sl sc || !Nat.beq l.toNat 0)) = false := by
        rw [Bool.eq_false_iff]; intro hh
        simp only [beq_eq', ble_eq, Bool.and_eq_true, Bool.or_eq_true, Bool.not_eq_true', decide_eq_true_eq, decide_eq_false_iff_not] at hh
        exact hg ⟨hh.1.1.1.1.1.1, hh.1.1.1.1.1.2, hh.1.1.1.1.2, hh.1.1.1.2, hh.1.1.2, hh.1.2, hh.2⟩
      rw [this] at e; cases e
    obtain ⟨l0, l1, g1, g2, g3, g4, g5⟩ := hg
    have g2' : z.cells.size = i.size := by simpa using g2
    have hgt : (decide (0 ≤ l) && decide (l ≤ 100000) && !Nat.beq i.size 0 && Nat.beq z.cells.toList.length i.size && Nat.ble i.bytes 10000 && Nat.ble (sl + l.toNat) 100000 && (Nat.ble sl sc || !Nat.beq l.toNat 0)) = true := by
      simp only [beq_eq', ble_eq, Bool.and_eq_true, Bool.or_eq_true, Bool.not_eq_true', decide_eq_true_eq, decide_eq_false_iff_not]
      exact ⟨⟨⟨⟨⟨⟨l0, l1⟩, g1⟩, g2⟩, g3⟩, g4⟩, g5⟩
    rw [hgt, cond_true, cond_beq] at e
    have hs : ∀ w : World, (sizeOf elem).run P w = .ok i.size w := fun w => by simp [sizeOf, Go.run_typeInfo w i1, i3]
    have happ : App P w elem i.size xt (.int k' l) l.toNat (rep l.toNat z.cells.toList) :=
      .made k k' l info z hux2 rfl l0 l1 rfl i1 hzz.1 (by rw [i4]; exact g3) g2' g1 rfl
    by_cases hn : l.toNat = 0
    · rw [if_pos hn] at e
      cases e
      have g5 : sl ≤ sc := g5.resolve_right (by simp [hn])
      rw [hn] at happ
      have fin : ∀ (b : Option Addr) (cap : Nat), s' = .slice b sl cap → sl ≤ cap → ∃ v' ρ' w', (Builtin.append_ ts ty xs).run P w = .ok v' w' ∧ VR ρ' (.slice base sl sc) v' ∧ Stp P ρ h w ρ' h w' := by
        intro b cap hs' hle
        subst hs'
        have := run_append_fits (ty := ty) (w' := w) ht hxt h0 h1 hu hs happ (by omega) (by cases b <;> simp [storeCells, rep])
        exact ⟨_, ρ, w, this, rs, Stp.refl hr⟩
      cases rs with
      | nilslice _ _ _ => exact fin _ _ rfl g5
      | slice _ _ _ _ _ => exact fin _ _ rfl g5
      | sliceU _ _ _ _ _ hl _ => exact fin _ _ rfl hl
      | sliceE _ _ _ => exact fin _ _ rfl (Nat.zero_le _)
    rw [if_neg hn] at e
    cases hall : (rep l.toNat z.cells.toList).all Ev.oneCell with
    | false => simp [hall] at e
    | true =>
    simp only [hall, cond_true] at e
    have rnew : VRL ρ (rep l.toNat z.cells.toList) (rep l.toNat z.cells.toList) := by
      have : ∀ n, VRL ρ (rep n z.cells.toList) (rep n z.cells.toList) := by
        intro n
        induction n with
        | zero => exact .nil
        | succ n ih => exact ((VR.const ρ hzz.2).cells).append ih
      exact this _
    exact appendRow_sim hE hr e ht hxt h0 h1 hu i1 i3 hzz.1 g1 g2' (by rw [i4]; exact g3) g4 hn rs happ rnew (by rw [rep_length, g2]) hall
  rename_i elem hu hux
  have hu := hE.und hu (by simp)
  simp only [Option.map_eq_some_iff] at hux
  obtain ⟨dx, hux, hsq⟩ := hux
  have hux := hE.und hux (by intro hh; subst hh; simp [isSeq] at hsq)
  split at e
  case h_2 => cases e
  rename_i i n hi hm
  split at e
  case h_2 => cases e
  rename_i z hz
  obtain ⟨info, i1, i2, i3, i4, i5, i6, i7⟩ := hE.tab elem i hi
  have hzz := i6 z hz
  obtain ⟨s', h0, rs⟩ := hx.get 0 _ rfl
  obtain ⟨x', h1, rx⟩ := hx.get 1 _ rfl
  have h0 : xs[0]? = some s' := by simpa using h0
  have h1 : xs[1]? = some x' := by simpa using h1
  have hlo := lenOf_sim (P := P) hm rx w
  have hs : ∀ w : World, (sizeOf elem).run P w = .ok i.size w := fun w => by simp [sizeOf, Go.run_typeInfo w i1, i3]
  have hcell : P.cellsOf elem = i.size := by simp [Program.cellsOf, i1, i3]
  by_cases hg : ¬ i.size = 0 ∧ z.cells.toList.length = i.size ∧ i.bytes ≤ 10000 ∧ sl + n ≤ 100000 ∧ (sl ≤ sc ∨ ¬ n = 0)
  case neg =>
    exfalso
    have : (!Nat.beq i.size 0 && Nat.beq z.cells.toList.length i.size && Nat.ble i.bytes 10000 && Nat.ble (sl + n) 100000 && (Nat.ble sl sc || !Nat.beq n 0)) = false := by
      rw [Bool.eq_false_iff]; intro hh
      simp only [beq_eq', ble_eq, Bool.and_eq_true, Bool.or_eq_true, Bool.not_eq_true', decide_eq_true_eq, decide_eq_false_iff_not] at hh
      exact hg ⟨hh.1.1.1.1, hh.1.1.1.2, hh.1.1.2, hh.1.2, hh.2⟩
    rw [this] at e; cases e
  obtain ⟨g1, g2, g3, g4, g5⟩ := hg
  have g2' : z.cells.size = i.size := by simpa using g2
  have hgt : (!Nat.beq i.size 0 && Nat.beq z.cells.toList.length i.size && Nat.ble i.bytes 10000 && Nat.ble (sl + n) 100000 && (Nat.ble sl sc || !Nat.beq n 0)) = true := by
    simp only [beq_eq', ble_eq, Bool.and_eq_true, Bool.or_eq_true, Bool.not_eq_true', decide_eq_true_eq, decide_eq_false_iff_not]
    exact ⟨⟨⟨⟨g1, g2⟩, g3⟩, g4⟩, g5⟩
  rw [hgt, cond_true, cond_beq] at e
  by_cases hn : n = 0
  · -- nothing is appended
    rw [if_pos hn] at e
    cases e
    subst hn
    have g5 : sl ≤ sc := g5.resolve_right (by simp)
    have hnew : ∀ w : World, (Builtin.firstCells i.size 0 x').run P w = .ok [].toArray w := by
      intro w
      unfold lenOf at hm
      split at hm
      · cases hm
        cases rx <;> simp [Builtin.firstCells, loadCells, loadCellsFrom]
      · cases rx
        simp [Builtin.firstCells]
      · cases hm
    have fin : ∀ (b : Option Addr) (cap : Nat), s' = .slice b sl cap → sl ≤ cap → ∃ v' ρ' w', (Builtin.append_ ts ty xs).run P w = .ok v' w' ∧ VR ρ' (.slice base sl sc) v' ∧ Stp P ρ h w ρ' h w' := by
      intro b cap hs' hle
      subst hs'
      have := run_append_fits (ty := ty) (w' := w) (new := []) ht hxt h0 h1 hu hs (.seq _ hux hsq hlo fun w2 hw2 => hnew w2) (by omega) (by cases b <;> simp [storeCells])
      exact ⟨_, ρ, w, this, rs, Stp.refl hr⟩
    cases rs with
    | nilslice _ _ _ => exact fin _ _ rfl g5
    | slice _ _ _ _ _ => exact fin _ _ rfl g5
    | sliceU _ _ _ _ _ hl _ => exact fin _ _ rfl hl
    | sliceE _ _ _ => exact fin _ _ rfl (Nat.zero_le _)
  rw [if_neg hn] at e
  split at e
  case h_2 => cases e
  rename_i new hnewA
  have hnx : ∀ a c, x = .slice a 0 c → n = 0 := fun a c hh => by subst hh; simp [lenOf] at hm; omega
  obtain ⟨new', hnew2, rnew, hnl⟩ := firstCells_sim hr hnewA rx hnx
  have hnew := hnew2 w rfl
  cases hall : new.all Ev.oneCell with
  | false => simp [hall] at e
  | true =>
  simp only [hall, cond_true] at e
  exact appendRow_sim hE hr e ht hxt h0 h1 hu i1 i3 hzz.1 g1 g2' (by rw [i4]; exact g3) g4 hn rs (.seq _ hux hsq hlo hnew2) rnew hnl hall

theorem asbytes_sim (hE : EnvOK P E) (hr : HR P ρ h w) {src dst : TypeId} {x x' v : Value} {h' : Heap} (e : asbytes E src dst x h = some (v, h')) (hx : VR ρ x x') :
    ∃ v' ρ' w', (convert src dst x').run P w = .ok v' w' ∧ VR ρ' v v' ∧ Stp P ρ h w ρ' h' w' := by
  unfold asbytes at e
  split at e
  · rename_i el s hu1 hu2
    split at e
    · rename_i hu3
      cases hc : (!Nat.beq s.size 0 && Nat.ble s.size 100000) with
      | false => rw [hc] at e; cases e
      | true =>
        rw [hc] at e
        simp only [cond_true, Option.some.injEq, Prod.mk.injEq] at e
        obtain ⟨rfl, rfl⟩ := e
        simp only [Bool.and_eq_true, Bool.not_eq_true', ble_eq, decide_eq_true_eq] at hc
        have hs0 : s.size ≠ 0 := fun h0 => by rw [h0] at hc; exact absurd hc.1 (by decide)
        cases hx with
        | string =>
          have hrun := Lib.run_convert_string_bytes (P := P) w src dst el s (hE.und hu1 (by simp)) (hE.und hu2 (by simp)) (hE.und hu3 (by simp))
          have hcap : s.size ≤ grownCap w s.size 0 el := grownCap_ge w s.size 0 el
          have hpush : (Lib.bytesWorld w el s).heap = w.heap.push (.cells (Lib.bytesCells w el s) el ((Lib.bytesCells w el s).size, (Lib.bytesCells w el s).size + 1)) := by
            apply Array.ext_getElem?
            intro j
            rw [Array.getElem?_push]
            by_cases hj : j = w.heap.size
            · rw [if_pos hj, hj, Lib.bytesWorld_at_new]
            · rw [if_neg hj]
              by_cases hlt : j < w.heap.size
              · exact Lib.bytesWorld_at_old w el s j hlt
              · rw [Array.getElem?_eq_none (by rw [Lib.bytesWorld_size]; omega), Array.getElem?_eq_none (by omega)]
          have hbr : BR P ρ (grownCap w s.size 0 el) (.ro fun j => nth (bytesV s) j) (.cells (Lib.bytesCells w el s) el ((Lib.bytesCells w el s).size, (Lib.bytesCells w el s).size + 1)) := by
            refine .ro _ _ fun i v hv => ⟨_, _, _, v, rfl, ?_, ?_⟩
            · rw [nth_eq, bytesV, List.getElem?_map] at hv
              obtain ⟨b, hb, rfl⟩ := Option.map_eq_some_iff.1 hv
              have hi : i < s.data.size := by have := (List.getElem?_eq_some_iff.1 hb).1; simpa using this
              unfold Lib.bytesCells
              rw [Array.getElem?_append_left (by simpa using hi), Array.getElem?_map, ← Array.getElem?_toList, hb]
              rfl
            · rw [nth_eq, bytesV, List.getElem?_map] at hv
              obtain ⟨b, hb, rfl⟩ := Option.map_eq_some_iff.1 hv
              exact .int _ _
          refine ⟨_, ρ.upd h.n (w.heap.size, grownCap w s.size 0 el), _, hrun, .sliceU 0 _ _ (Ren.upd_same _ _ _) (Nat.lt_of_le_of_lt hc.2 (by decide)) hcap (fun _ => rfl), ?_⟩
          exact Stp.alloc hr hbr hpush rfl rfl rfl
    · cases e
  · cases e
theorem ent_sim : ∀ {es : List (Value × Value × Nat)} {es' : List MapEntry} {b : Nat} {p : Value × Value}, MR ρ es es' → entAt es b = some p → ∃ e, es'.find? (·.born == b) = some e ∧ VR ρ p.1 e.key ∧ VR ρ p.2 e.val
  | _, _, b, p, .nil, h => by simp [entAt] at h
  | _, _, b, p, .cons (k' := k') (v' := v') (n := n) hk hv t, h => by
    simp only [entAt, cond_beq] at h
    by_cases hn : n = b
    · rw [if_pos hn] at h
      cases h
      exact ⟨{ key := k', val := v', born := n }, by simp [hn], hk, hv⟩
    · rw [if_neg hn] at h
      obtain ⟨e, h1, h2, h3⟩ := ent_sim t h
      exact ⟨e, by simp [hn, h1], h2, h3⟩
theorem lastN_eq : ∀ l : List Nat, lastN l = l.getLast?
  | [] => rfl
  | [x] => rfl
  | x :: y :: l => by rw [show lastN (x :: y :: l) = lastN (y :: l) from rfl, lastN_eq (y :: l), List.getLast?_cons_cons]
theorem curOf_BR {P : Program} {ρ : Ren} {c : Nat} {k : Blk} {o : Obj} {m born clk : Nat} (h : curOf (some k) = some (m, born, clk)) (r : BR P ρ c k o) :
    ∃ bm cm since seen, ρ m = some (bm, cm) ∧ seen.back? = some born ∧ o = .mapIter (some bm) since seen clk := by
  cases r with
  | mcur hm since seen _ _ hb => simp only [curOf, Option.some.injEq, Prod.mk.injEq] at h; obtain ⟨rfl, rfl, rfl⟩ := h; exact ⟨_, _, _, _, hm, hb, rfl⟩
  | miter hm a l n =>
    simp only [curOf, Option.map_eq_some_iff, Prod.mk.injEq] at h
    obtain ⟨b, hl, rfl, rfl, rfl⟩ := h
    rw [lastN_eq] at hl
    exact ⟨_, _, _, _, hm, by simpa using hl, rfl⟩
  | _ => simp [curOf] at h
theorem aentry_sim (hr : HR P ρ h w) {it it' v : Value} (e : aentry it h = some v) (hx : VR ρ it it') :
    ∃ v', (Instr.entry it').run P w = .ok v' w ∧ VR ρ v v' := by
  unfold aentry at e
  split at e
  · rename_i r
    cases hx with
    | @ptr _ b c _ hi =>
      obtain ⟨k, o, e1, e2, e3⟩ := hr.blk r b c hi
      rw [e1] at e
      split at e
      · rename_i m born clk heq
        obtain ⟨bm, cm, since, seen, hm, hb, rfl⟩ := curOf_BR heq e3
        split at e
        · rename_i es clock hgm
          obtain ⟨i, b', c', es', hmi, hmi', hi', e1', e2', hmr⟩ := getMap_sim hr hgm (.map hm)
          cases hmi; cases hmi'
          rw [cond_beq] at e
          by_cases hc : clk = clock
          · rw [if_pos hc] at e
            subst hc
            obtain ⟨p, hp, rfl⟩ := Option.map_eq_some_iff.1 e
            obtain ⟨en, h1, h2, h3⟩ := ent_sim hmr hp
            refine ⟨.tuple #[en.key, en.val], ?_, .tuple _ _ (.cons h2 (.cons h3 .nil))⟩
            have hg := run_getObj (P := P) e2 (by simp)
            have hg' := run_getObj (P := P) e2' (by simp)
            have hfind : es'.find? (·.born == born) = some en := by rw [← Array.find?_toList]; exact h1
            simp only [Instr.entry, Sem.run_bind, hg, Result.andThen_ok, hb, hg', hfind, bne_self_eq_false, Bool.false_eq_true, if_false, Sem.run_pure]
          · rw [if_neg hc] at e; cases e
        · cases e
      · cases e
  · cases e
theorem byteIn_sim {ρ : Ren} : ∀ {l : List Value} {bs : List UInt8}, mapOpt byteIn l = some bs → bs.length = l.length ∧ ∀ (j : Nat) (x : UInt8), bs[j]? = some x → l[j]? = some (Value.int .u8 (x.toNat : Int))
  | [], bs, h => by simp only [mapOpt, Option.some.injEq] at h; subst h; simp
  | v :: l, bs, h => by
    simp only [mapOpt] at h
    cases hv : byteIn v with
    | none => rw [hv] at h; cases h
    | some b =>
      cases hm : mapOpt byteIn l with
      | none => rw [hv, hm] at h; cases h
      | some q =>
        rw [hv, hm] at h
        simp only [Option.some.injEq] at h
        subst h
        obtain ⟨h1, h2⟩ := byteIn_sim (ρ := ρ) hm
        refine ⟨by simp [h1], fun j x hj => ?_⟩
        cases j with
        | zero =>
          simp only [List.getElem?_cons_zero, Option.some.injEq] at hj ⊢
          subst hj
          unfold byteIn at hv
          split at hv
          · rename_i n
            cases hc : (decide (0 ≤ n) && decide (n < 256)) with
            | false => rw [hc] at hv; cases hv
            | true =>
              rw [hc] at hv
              simp only [cond_true, Option.some.injEq] at hv
              simp only [Bool.and_eq_true, decide_eq_true_eq] at hc
              subst hv
              congr 1
              simp only [UInt8.toNat_ofNat']
              omega
          · cases hv
        | succ j =>
          simp only [List.getElem?_cons_succ] at hj ⊢
          exact h2 j x hj
theorem aunsafeString_sim (hE : EnvOK P E) (hr : HR P ρ h w) {ty : TypeId} {ts : Array TypeId} {xs : Array Value} {args : List Value} {v : Value} {h' : Heap} (e : aunsafeString E ts.toList args h = some (v, h')) (hx : VRL ρ args xs.toList) :
    ∃ v' w', (Builtin.unsafeString_ ts ty xs).run P w = .ok v' w' ∧ VR ρ v v' ∧ Stp P ρ h w ρ h' w' := by
  obtain ⟨xs⟩ := xs
  obtain ⟨ts⟩ := ts
  simp only at e hx
  unfold aunsafeString at e
  split at e
  · rename_i pt it n
    cases hc : decide (n = 0) with
    | false => rw [hc] at e; cases e
    | true =>
      rw [hc] at e
      simp only [cond_true, Option.some.injEq, Prod.mk.injEq] at e
      obtain ⟨rfl, rfl⟩ := e
      have hn := of_decide_eq_true hc
      subst hn
      cases hx with
      | cons r1 t => cases r1; cases t with
        | cons r2 t => cases r2; cases t; exact ⟨_, w, Lib.run_unsafeString_none w pt it ty none, .string _, Stp.refl hr⟩
  · rename_i pt it i n
    split at e
    · rename_i el cs e' ex hu hb
      split at e
      · rename_i hs
        cases hc : (Nat.beq el e' && decide (0 < n) && decide (n ≤ 9223372036854775807) && Nat.blt i h.n) with
        | false => rw [hc] at e; cases e
        | true =>
          rw [hc] at e
          simp only [cond_true] at e
          simp only [Bool.and_eq_true, decide_eq_true_eq, Nat.blt_eq, Nat.beq_eq] at hc
          obtain ⟨⟨⟨rfl, h0⟩, h63⟩, hi⟩ := hc
          split at e
          · rename_i l hl
            split at e
            · rename_i bs hbs
              simp only [Option.some.injEq, Prod.mk.injEq] at e
              obtain ⟨rfl, rfl⟩ := e
              obtain ⟨hle, rfl⟩ := takeN_eq _ _ _ hl
              obtain ⟨hlen, hget⟩ := byteIn_sim (ρ := ρ) hbs
              cases hx with
              | cons r1 t => cases r1 with
                | @ptr _ b c _ hρ => cases t with
                  | cons r2 t => cases r2; cases t with
                    | nil =>
                      obtain ⟨k, o, k1, k2, k3⟩ := hr.blk _ _ _ hρ
                      rw [hb] at k1
                      cases k1
                      cases k3 with
                      | cells _ ys _ _ hcell hsz =>
                        have hblen : bs.length = n.toNat := by rw [hlen, List.length_take]; omega
                        have hn : n = (bs.length : Int) := by omega
                        have hcell2 : ∀ (j : Nat) (x : UInt8), bs[j]? = some x → ys[j]? = some (Value.int .u8 (x.toNat : Int)) := fun j x hj => by
                          have h1 := hget j x hj
                          have hj2 := (List.getElem?_eq_some_iff.1 hj).1
                          rw [List.getElem?_take, if_pos (by omega)] at h1
                          obtain ⟨v', e1, r⟩ := hcell j _ h1
                          cases r
                          exact e1
                        have hys : bs.length ≤ ys.size := by
                          have hb0 : bs.length - 1 < bs.length := by omega
                          have := hcell2 (bs.length - 1) _ (List.getElem?_eq_getElem hb0)
                          have := (Array.getElem?_eq_some_iff.1 this).1
                          omega
                        rw [hn]
                        refine ⟨_, w.freeze ⟨b, 0, none⟩ bs.length, Lib.run_unsafeString_row w pt it ty el (hE.und hu (by simp)) (hE.cellsOf hs) b ys.size (by simp [World.shape?, k2]) bs (by intro hh; rw [hh] at hn; simp at hn; omega) hys (by omega) (fun j x hj => by
                          have : (⟨b, 0, none⟩ : Addr).add j = ⟨b, j, none⟩ := by unfold Addr.add; by_cases hj0 : j = 0 <;> simp [hj0]
                          rw [this]
                          simp only [World.cell?, k2]
                          simpa using hcell2 j x hj), .string _, ?_⟩
                        have hb1 : bs.length ≠ 0 := by omega
                        refine Stp.write (k' := .dead) (o' := .cells ys el (0, 0 + bs.length)) hr hρ hb ?_ (.dead _) ?_ ?_ ?_ ?_ ?_ ?_
                        · simp [soft]
                        · unfold World.freeze; rw [if_neg hb1]; simp
                        · unfold World.freeze; rw [if_neg hb1]; simp [Array.getElem?_modify, k2]
                        · intro j hj; unfold World.freeze; rw [if_neg hb1]; simp [Array.getElem?_modify, Ne.symm hj]
                        · unfold World.freeze; rw [if_neg hb1]
                        · unfold World.freeze; rw [if_neg hb1]
                        · unfold World.freeze; rw [if_neg hb1]
            · cases e
          · cases e
      · cases e
    · cases e
  · cases e
theorem act_sim (hE : EnvOK P E) {fr : Fr} {a : Act} {o : Oper} {v : Value} {h' : Heap} (hf : FR E ρ fr a) (hr : HR P ρ h w) (e : actOp E fr o h = some (v, h')) :
    ActOK P ρ h w (execOp a.eval o) v h' := by
  unfold actOp at e
  split at e
  · rename_i t x y ho
    split at e
    · rename_i u1 u2 h1 h2
      simp only [Option.map_eq_some_iff, Prod.mk.injEq] at e
      obtain ⟨h3, e, rfl, rfl⟩ := e
      obtain ⟨w', hrun, hst⟩ := storeAt_sim hE hr e (ev_sim hf h1) (ev_sim hf h2)
      exact ⟨.skip, undef, ρ, w', by simp [execOp, ho, hrun], rfl, VR.undef ρ, hst⟩
    · cases e
  · rename_i t m k x ho
    split at e
    · rename_i u1 u2 u3 h1 h2 h3
      simp only [Option.map_eq_some_iff, Prod.mk.injEq] at e
      obtain ⟨h4, e, rfl, rfl⟩ := e
      obtain ⟨w', hrun, hst⟩ := amapUpdate_sim hE hr e (ev_sim hf h1) (ev_sim hf h2) (ev_sim hf h3)
      exact ⟨.skip, undef, ρ, w', by simp [execOp, ho, hrun], rfl, VR.undef ρ, hst⟩
    · cases e
  · rename_i t m k x ho
    split at e
    · rename_i u1 u2 u3 h1 h2 h3
      simp only [Option.map_eq_some_iff, Prod.mk.injEq] at e
      obtain ⟨h4, e, rfl, rfl⟩ := e
      obtain ⟨w', hrun, hst⟩ := amapUpdate_sim hE hr e (ev_sim hf h1) (ev_sim hf h2) (ev_sim hf h3)
      exact ⟨.skip, undef, ρ, w', by simp [execOp, ho, hrun], rfl, VR.undef ρ, hst⟩
    · cases e
  · rename_i t m k ho
    split at e
    · rename_i u1 u2 h1 h2
      obtain ⟨v', w', hrun, r, hst⟩ := amapEntry_sim hE hr e (ev_sim hf h1) (ev_sim hf h2)
      exact ⟨.value v', v', ρ, w', by simp [execOp, ho, hrun], rfl, r, hst⟩
    · cases e
  · rename_i t m s x ho
    split at e
    · rename_i u1 u2 u3 h1 h2 h3
      simp only [Option.map_eq_some_iff, Prod.mk.injEq] at e
      obtain ⟨h4, e, rfl, rfl⟩ := e
      obtain ⟨w', hrun, hst⟩ := aentryStore_sim (t := t) hr e (ev_sim hf h1) (ev_sim hf h2) (ev_sim hf h3)
      exact ⟨.skip, undef, ρ, w', by simp [execOp, ho, hrun], rfl, VR.undef ρ, hst⟩
    · cases e
  · rename_i s d x ho
    split at e
    · rename_i u h1
      obtain ⟨v', ρ', w', hrun, r, hst⟩ := asbytes_sim hE hr e (ev_sim hf h1)
      exact ⟨.value v', v', ρ', w', by simp [execOp, ho, hrun], rfl, r, hst⟩
    · cases e
  · rename_i t x ho
    split at e
    · rename_i u h1
      obtain ⟨v', ρ', w', hrun, r, hst⟩ := arange_sim hE hr e (ev_sim hf h1)
      exact ⟨.value v', v', ρ', w', by simp [execOp, ho, hrun], rfl, r, hst⟩
    · cases e
  · rename_i it s ho
    split at e
    · rename_i u h1
      obtain ⟨v', w', hrun, r, hst⟩ := anext_sim hr (ty := o.type) e (ev_sim hf h1)
      exact ⟨.value v', v', ρ, w', by simp [execOp, ho, hrun], rfl, r, hst⟩
    · cases e
  · rename_i it ho
    split at e
    · rename_i u h1
      simp only [Option.map_eq_some_iff, Prod.mk.injEq] at e
      obtain ⟨v0, e, rfl, rfl⟩ := e
      obtain ⟨v', hrun, r⟩ := aentry_sim hr e (ev_sim hf h1)
      exact ⟨.value v', v', ρ, w, by simp [execOp, ho, hrun], rfl, r, Stp.refl hr⟩
    · cases e
  · rename_i c ho
    split at e
    · rename_i b hb
      obtain ⟨cs, call⟩ : ∃ cs : Array Bool, ∀ w : World, (execOp a.eval o).run P w = (builtin b c.argTypes o.type cs (c.args.map a.eval)).run P w := by
        refine ⟨c.args.map fun | .const _ => true | _ => false, fun w => ?_⟩
        simp only [execOp, ho, resolve, hb, Sem.run_bind, Sem.run_pure, Result.andThen_ok, invoke]
        rfl
      split at e
      · cases e
      · rename_i args hargs
        have rx := evs_sim' hf hargs
        split at e
        · obtain ⟨v', ρ', w', hrun, r, hst⟩ := aappend_sim hE hr (ty := o.type) e rx
          exact ⟨.value v', v', ρ', w', by simp [call, builtin, hrun], rfl, r, hst⟩
        · obtain ⟨v', w', hrun, r, hst⟩ := acopy_sim hE hr (ty := o.type) e rx
          exact ⟨.value v', v', ρ, w', by simp [call, builtin, hrun], rfl, r, hst⟩
        · obtain ⟨v', w', hrun, r, hst⟩ := aclear_sim hE hr (ty := o.type) e rx
          exact ⟨.value v', v', ρ, w', by simp [call, builtin, hrun], rfl, r, hst⟩
        · obtain ⟨v', w', hrun, r, hst⟩ := aunsafeString_sim hE hr (ty := o.type) e rx
          exact ⟨.value v', v', ρ, w', by simp [call, builtin, hrun], rfl, r, hst⟩
        · split at e
          · rename_i t ts m k xs ht
            simp only [Option.map_eq_some_iff, Prod.mk.injEq] at e
            obtain ⟨h3, e, rfl, rfl⟩ := e
            have ht : c.argTypes[0]? = some t := by
              have : c.argTypes.toList[0]? = some t := by rw [ht]; rfl
              simpa using this
            obtain ⟨m', h0, rm⟩ := rx.get 0 _ rfl
            obtain ⟨k', h1, rk⟩ := rx.get 1 _ rfl
            obtain ⟨w', hrun, hst⟩ := adelete_sim hE hr (ty := o.type) (xs := c.args.map a.eval) ht (by rw [← Array.getElem?_toList]; exact h0) (by rw [← Array.getElem?_toList]; exact h1) e rm rk
            exact ⟨.value undef, undef, ρ, w', by rw [call]; simp [builtin, hrun], rfl, VR.undef ρ, hst⟩
          · cases e
        · cases e
    · cases e
  · cases e
end
end Go.Ev
