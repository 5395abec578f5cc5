/- THE EVALUATOR, part 'Lib': a deterministic reading of the program's code over an abstract heap, and that the model does what it says. Conditions: none beyond each theorem's own. -/
import Derived.Test.YtfneaaapgpgdeaaDoorZFb
import Derived.Shelf.Strconv.Itoa2
set_option linter.unusedSimpArgs false
set_option linter.unusedVariables false
namespace Go.Ev
open Go.RowKit
/-! functions of the library, taken by their contracts -/
section
variable {P : Program}
/-- a function that changes nothing that was there -/
def extLib (k : FuncId) (g : List Value → Heap → Option Value) (base : ExtT) (f : FuncId) (args : List Value) (h : Heap) : Option (Option (Value × Heap)) :=
  cond (Nat.beq f k) (some ((g args h).map (·, h))) (base f args h)
theorem extLib_ok {ng k : Nat} {g : List Value → Heap → Option Value} {base : ExtT} (h0 : ExtOK P (envOf P ng base)) {fn : Func} {c : Code} (hf : P.funcs[k]? = some fn) (hb : fn.body = some c) (hn : NamesOK P)
    (hk : ∀ args h v, g args h = some v → ∀ (ρ : Ren) (w : World) (args' : Array Value), HR P ρ h w → (∀ i, i < ng → ∃ c, ρ i = some (i, c)) → VRL ρ args args'.toList →
      Calls P k args' w fun e w' => ∃ v', e = .returned v' ∧ VR ρ v v' ∧ Below w.heap.size w w') : ExtOK P (envOf P ng (extLib k g base)) := by
  intro f args h v h' e ρ w args' hr hg ra
  simp only [envOf, extLib, cond_beq] at e
  by_cases hfk : f = k
  · subst hfk
    rw [if_pos rfl] at e
    simp only [Option.some.injEq, Option.map_eq_some_iff, Prod.mk.injEq] at e
    obtain ⟨u, e, rfl, rfl⟩ := e
    refine .inr (.inl ⟨f, args', run_callFunc hf hn hb args' w, (hk args _ _ e ρ w args' hr (fun i hi => hg i hi) ra).mono fun e w' hh => ?_⟩)
    obtain ⟨v', rfl, r, hbl⟩ := hh
    exact ⟨v', ρ, rfl, r, Stp.of_below hr hbl⟩
  · rw [if_neg hfk] at e
    exact h0 f args h v h' e ρ w args' hr hg ra
theorem extLib_ret {E : Env} {k : FuncId} {g : List Value → Heap → Option Value} {base : ExtT} {args : List Value} {h : Heap} {K : Value → Heap → Prop} {v : Value} (he : E.ext k args h = extLib k g base k args h) (hg : g args h = some v) (q : K v h) : Ret E (.func k) args h K := by
  refine Ret.ext (v := v) ?_ q
  rw [he]
  simp only [extLib, Nat.beq_refl, cond_true, hg, Option.map_some]

/-! strconv's digits -/
def digs (u n : Nat) : List Value := (List.range n).map fun t => .int .u8 ((Lib.dg u (n - 1 - t)).toNat : Int)
theorem digs_len (u n : Nat) : (digs u n).length = n := by simp [digs]
def isByte : Value → Bool
  | .int .u8 n => decide (0 ≤ n) && decide (n < 256)
  | _ => false
def fmtOk (cs : List Value) (off n : Nat) (u : Int) : Bool := decide (off + n ≤ cs.length) && ((cs.drop off).take n).all isByte && decide (0 ≤ u) && decide (u.toNat < 10 ^ n) && decide (u < 18446744073709551616) && decide (n < 100)
def fmtG (args : List Value) (h : Heap) : Option (Value × Heap) :=
  match args with
  | [.slice (some ⟨i, off, none⟩) n cap, .int .u64 u] =>
    match h.b.get i with
    | some (.cells cs e true) => cond (Nat.blt i h.n && Nat.blt cap UNK && fmtOk cs off n u) (some (.tuple #[], { h with b := h.b.set i (.cells (cs.take off ++ digs u.toNat n ++ cs.drop (off + n)) e true) })) none
    | _ => none
  | _ => none
def extFmt (k : FuncId) (base : ExtT) (f : FuncId) (args : List Value) (h : Heap) : Option (Option (Value × Heap)) := cond (Nat.beq f k) (some (fmtG args h)) (base f args h)
theorem extFmt_ret {E : Env} {k : FuncId} {base : ExtT} {i off n cap u : Nat} {cs : List Value} {e : TypeId} {h : Heap} {K : Value → Heap → Prop} (he : ∀ args, E.ext k args h = extFmt k base k args h) (hb : h.b.get i = some (.cells cs e true)) (hi : i < h.n)
    (hc : cap < UNK) (h1 : off + n ≤ cs.length) (h2 : ((cs.drop off).take n).all isByte = true) (h3 : u < 10 ^ n) (h4 : u < 18446744073709551616) (h5 : n < 100)
    (q : K (.tuple #[]) { h with b := h.b.set i (.cells (cs.take off ++ digs u n ++ cs.drop (off + n)) e true) }) : Ret E (.func k) [.slice (some ⟨i, off, none⟩) n cap, .int .u64 u] h K := by
  refine Ret.extH (h' := { h with b := h.b.set i (.cells (cs.take off ++ digs u n ++ cs.drop (off + n)) e true) }) ?_ q
  rw [he]
  have hh : (Nat.blt i h.n && Nat.blt cap UNK && fmtOk cs off n (u : Int)) = true := by
    have a0 : (0 : Int) ≤ (u : Int) := by omega
    have a4 : (u : Int) < 18446744073709551616 := by omega
    simp [fmtOk, blt_eq, hi, hc, h1, h2, h3, a0, a4, h5]
  simp only [extFmt, Nat.beq_refl, cond_true, fmtG, hb, hh, Int.toNat_natCast]
theorem extFmt_ok {ng k : Nat} {base : ExtT} (h0 : ExtOK P (envOf P ng base)) {fn : Func} {c : Code} (hf : P.funcs[k]? = some fn) (hb : fn.body = some c) (hn : NamesOK P)
    (hk : ∀ (blk off cap u : Nat) (d : Array UInt8) (w : World), Sort.Holds (fun (b : UInt8) => Value.int .u8 (b.toNat : Int)) w blk off d → u < 10 ^ d.size → u < 18446744073709551616 → d.size < 4611686018427387904 →
      Calls P k #[.slice (some ⟨blk, off, none⟩) d.size cap, .int .u64 u] w fun e w' => e = .returned (.tuple #[]) ∧ ∃ (n v' : Nat) (dk : Array UInt8), w' = (Sort.putRow (fun (b : UInt8) => Value.int .u8 (b.toNat : Int)) w blk off dk).drewN n ∧ Lib.FmtInv d.size u 0 v' dk) :
    ExtOK P (envOf P ng (extFmt k base)) := by
  intro f args h v h' e ρ w args' hr hg ra
  simp only [envOf, extFmt, cond_beq] at e
  by_cases hfk : f = k
  · subst hfk
    rw [if_pos rfl] at e
    simp only [Option.some.injEq] at e
    unfold fmtG at e
    split at e
    · rename_i i off n cap u
      split at e
      · rename_i cs el hbl
        cases hck : (Nat.blt i h.n && Nat.blt cap UNK && fmtOk cs off n u) with
        | false => rw [hck] at e; simp at e
        | true =>
          rw [hck] at e
          simp only [cond_true, Option.some.injEq, Prod.mk.injEq] at e
          obtain ⟨rfl, rfl⟩ := e
          simp only [Bool.and_eq_true, blt_eq, decide_eq_true_eq, fmtOk] at hck
          obtain ⟨⟨hi, hcap⟩, ⟨⟨⟨⟨h1, h2⟩, h3⟩, h4⟩, h5⟩, h6⟩ := hck
          obtain ⟨u, rfl⟩ := Int.eq_ofNat_of_zero_le h3
          simp only [Int.toNat_natCast] at h4 ⊢
          obtain ⟨l⟩ := args'
          simp only at ra
          cases ra with
          | cons r1 t =>
            cases t with
            | cons r2 t =>
              cases t
              cases r2
              have hne : cap ≠ UNK := by omega
              have hne2 : cap ≠ UNK2 := by unfold UNK2; unfold UNK at hcap; omega
              cases r1 with
              | sliceU _ _ _ _ _ _ _ => exact absurd rfl hne
              | sliceE _ _ _ => exact absurd rfl hne2
              | @slice _ b c _ _ _ hρ _ =>
                obtain ⟨k0, o, e1, e2, e3⟩ := hr.blk i b c hρ
                rw [hbl] at e1
                cases e1
                cases e3 with
                | cells _ xs _ _ hc hs =>
                  simp only [if_true] at hs
                  -- the bytes that lie there
                  have hbytes : ∀ j, j < n → ∃ z : Nat, z < 256 ∧ xs[off + j]? = some (.int .u8 (z : Int)) := by
                    intro j hj
                    have hg1 : ((cs.drop off).take n)[j]? = cs[off + j]? := by rw [List.getElem?_take_of_lt hj, List.getElem?_drop]
                    have hg2 : cs[off + j]? = some (cs[off + j]'(by omega)) := List.getElem?_eq_getElem _
                    have hm := List.all_eq_true.1 h2 _ (List.mem_of_getElem? (hg1.trans hg2))
                    obtain ⟨v', ev', r⟩ := hc _ _ hg2
                    generalize cs[off + j]'(by omega) = x at hm r
                    unfold isByte at hm
                    split at hm
                    · rename_i z
                      simp only [Bool.and_eq_true, decide_eq_true_eq] at hm
                      cases r
                      obtain ⟨z, rfl⟩ := Int.eq_ofNat_of_zero_le hm.1
                      exact ⟨z, by omega, ev'⟩
                    · cases hm
                  let byteAt : Nat → UInt8 := fun j => match xs[off + j]? with | some (.int .u8 z) => UInt8.ofNat z.toNat | _ => 0
                  let d : Array UInt8 := ((List.range n).map byteAt).toArray
                  have hds : d.size = n := by simp [d]
                  have hH : Sort.Holds (fun (b : UInt8) => Value.int .u8 (b.toNat : Int)) w b off d := by
                    intro j hj
                    rw [hds] at hj
                    obtain ⟨z, hz, ez⟩ := hbytes j hj
                    have hdj : d[j]! = UInt8.ofNat z := by
                      rw [getElem!_pos d j (by rw [hds]; exact hj)]
                      simp only [d, List.getElem_toArray, List.getElem_map, List.getElem_range, byteAt, ez, Int.toNat_natCast]
                    constructor
                    · rw [cell_of e2, ez, hdj]
                      have : (UInt8.ofNat z).toNat = z := by simp; omega
                      simp only [this]
                    · simp [World.frozen?, e2]
                  have hc2 := hk b off cap u d w hH (by rw [hds]; exact h4) (by omega) (by rw [hds]; omega)
                  rw [hds] at hc2
                  refine .inr (.inl ⟨f, _, run_callFunc hf hn hb _ w, hc2.mono fun e w' hh => ?_⟩)
                  obtain ⟨rfl, m, v', dk, rfl, hF⟩ := hh
                  have hdk : dk.size = n := hF.size
                  refine ⟨_, ρ, rfl, .tuple _ _ .nil, ?_⟩
                  have hheap : (Sort.putRow (fun (b : UInt8) => Value.int .u8 (b.toNat : Int)) w b off dk).heap = w.heap.setIfInBounds b (.cells (Sort.putCells (fun (b : UInt8) => Value.int .u8 (b.toNat : Int)) off dk xs) el (0, 0)) := by
                    unfold Sort.putRow Sort.mapBlock
                    apply Array.ext_getElem?
                    intro q
                    simp only [Array.getElem?_modify, Array.getElem?_setIfInBounds]
                    by_cases hq : b = q
                    · subst hq
                      obtain ⟨hl2, e2'⟩ := Array.getElem?_eq_some_iff.1 e2
                      simp [Sort.onCells, hl2, e2']
                    · simp [hq]
                  have hlt := (Array.getElem?_eq_some_iff.1 e2).1
                  refine Stp.write hr hρ hbl (by simp [soft]) (o' := .cells (Sort.putCells (fun (b : UInt8) => Value.int .u8 (b.toNat : Int)) off dk xs) el (0, 0)) ?_ ?_ ?_ (fun j hj => ?_) rfl rfl rfl
                  · refine .cells _ _ _ _ (fun j v hv => ?_) ?_
                    · have hover := over_get (cs := cs) (xs := digs u n) (off := off) (r := cs.take off ++ digs u n ++ cs.drop (off + n)) (by rw [digs_len]) (by rw [digs_len]; exact h1) j
                      rw [hover, digs_len] at hv
                      simp only [Sort.putCells, Array.getElem?_mapIdx, hdk]
                      by_cases a1 : j < off
                      · rw [if_pos a1] at hv
                        obtain ⟨v', e', r⟩ := hc j v hv
                        refine ⟨v', ?_, r⟩
                        rw [e']; simp [show ¬ (off ≤ j ∧ j < off + n) by omega]
                      · rw [if_neg a1] at hv
                        by_cases a2 : j < off + n
                        · rw [if_pos a2] at hv
                          have hj : j - off < n := by omega
                          simp only [digs, List.getElem?_map, List.getElem?_range hj, Option.map_some, Option.some.injEq] at hv
                          subst hv
                          have hx : xs[j]? = some (xs[j]'(by omega)) := Array.getElem?_eq_getElem _
                          refine ⟨_, by rw [hx]; simp only [Option.map_some, show (off ≤ j ∧ j < off + n) from ⟨by omega, a2⟩, if_true]; rfl, ?_⟩
                          rw [hF.done (j - off) (Nat.zero_le _) hj]
                          exact .int _ _
                        · rw [if_neg a2] at hv
                          obtain ⟨v', e', r⟩ := hc j v hv
                          refine ⟨v', ?_, r⟩
                          rw [e']; simp [show ¬ (off ≤ j ∧ j < off + n) by omega]
                    · simp only [if_true, Sort.putCells, Array.size_mapIdx]
                      rw [hs]; simp [digs_len]; omega
                  · show (Sort.putRow _ w b off dk).heap.size = _
                    rw [hheap]; simp
                  · show (Sort.putRow _ w b off dk).heap[b]? = _
                    rw [hheap]; simp [hlt]
                  · show (Sort.putRow _ w b off dk).heap[j]? = _
                    rw [hheap, Array.getElem?_setIfInBounds, if_neg (Ne.symm hj)]
      · cases e
    · cases e
  · rw [if_neg hfk] at e
    exact h0 f args h v h' e ρ w args' hr hg ra
end
end Go.Ev
namespace Go.Ev
open Go.RowKit
section
variable {P : Program}
/-- what a table's cell holds -/
theorem tabsOk_cell {tabs : List (Nat × List Value)} {h : Heap} {w : World} {ρ : Ren} {ng : Nat} (hr : HR P ρ h w) (hg : ∀ i, i < ng → ∃ c, ρ i = some (i, c)) (htb : tabsOk tabs h = true) (hc : ∀ p ∈ tabs, p.2.all constOk0 = true)
    {p : Nat × List Value} (hp : p ∈ tabs) (hlt : p.1 < ng) {j : Nat} {v : Value} (e : p.2[j]? = some v) : w.cell? ⟨p.1, j, none⟩ = some v := by
  obtain ⟨c, eg⟩ := hg p.1 hlt
  obtain ⟨k, o, k1, k2, k3⟩ := hr.blk _ _ _ eg
  have ht := List.all_eq_true.1 htb p hp
  simp only [k1] at ht
  cases k3 with
  | ro g _ hh =>
    have hrow := rowOk_get (i := 0) ht j v e
    rw [Nat.zero_add] at hrow
    obtain ⟨xs, el, f', v', e1, e2, r⟩ := hh j v hrow
    subst e1
    have hv : constOk0 v = true := List.all_eq_true.1 (hc p hp) v (List.mem_of_getElem? e)
    have : v' = v := VR.const0_eq hv r
    rw [this] at e2
    have := cell_of (off := 0) k2 j
    rw [Nat.zero_add] at this
    rw [this]; exact e2
  | _ => cases ht
/-- strings in a row -/
def strs : List Value → Option (List ByteArray)
  | [] => some []
  | .string s :: l => (strs l).map (s :: ·)
  | _ => none
theorem strs_get : ∀ {l : List Value} {xs : List ByteArray}, strs l = some xs → l = xs.map Value.string
  | [], xs, h => by simp only [strs, Option.some.injEq] at h; subst h; rfl
  | v :: l, xs, h => by
    cases v with
    | string s =>
      simp only [strs, Option.map_eq_some_iff] at h
      obtain ⟨ys, h, rfl⟩ := h
      rw [strs_get h]; rfl
    | _ => simp [strs] at h
theorem strs_map (xs : List ByteArray) : strs (xs.map Value.string) = some xs := by
  induction xs with
  | nil => rfl
  | cons s l ih => simp [strs, ih]
end
end Go.Ev
