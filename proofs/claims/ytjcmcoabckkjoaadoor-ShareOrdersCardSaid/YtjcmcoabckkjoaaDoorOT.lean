/- The reference's Sort. -/
import Derived.Test.YtjcmcoabckkjoaaDoorOR
set_option linter.unusedSimpArgs false
set_option linter.unusedVariables false
namespace Go.Proofs.YtjcmcoabckkjoaaDoor.Or
open Go.Ev
set_option maxRecDepth 100000
set_option maxHeartbeats 400000
def rowN (ns : List Nat) : List Value := ns.map fun n => .float .f64 n
theorem rowN_len (ns : List Nat) : (rowN ns).length = ns.length := by simp [rowN]
theorem rowN_get {ns : List Nat} {k : Nat} (hk : k < ns.length) : (rowN ns)[k]? = some (.float .f64 ns[k]) := by simp [rowN, hk]
theorem rowN_one (ns : List Nat) : (rowN ns).all oneCell = true := by simp [rowN, List.all_eq_true, oneCell]
/-- a part of a row, that is read -/
def Sub (h : Heap) (y : Value) (ns : List Nat) : Prop := ∃ a c, y = .slice a ns.length c ∧ ∀ k (hk : k < ns.length), ∃ i off, a = some ⟨i, off, none⟩ ∧ i < h.n ∧ cellAt h ⟨i, off + k, none⟩ = some (.float .f64 ns[k])
theorem Sub.ext {h h' : Heap} {y : Value} {ns : List Nat} (r : Sub h y ns) (x : ExtB h.n h h') : Sub h' y ns := by
  obtain ⟨a, c, e, q⟩ := r
  refine ⟨a, c, e, fun k hk => ?_⟩
  obtain ⟨i, off, e1, e2, e3⟩ := q k hk
  exact ⟨i, off, e1, by have := x.n; omega, cellAt_ext x e2 e3⟩
theorem Sub.first {h : Heap} {y : Value} {ns : List Nat} (r : Sub h y ns) : lenOf y = some ns.length ∧ (ns.length ≠ 0 → firstCells h 1 ns.length y = some (rowN ns)) := by
  obtain ⟨a, c, rfl, q⟩ := r
  refine ⟨rfl, fun h0 => ?_⟩
  obtain ⟨i, off, rfl, hi, _⟩ := q 0 (by omega)
  simp only [firstCells, Nat.mul_one]
  have := cellsAt_pts (h := h) (b := i) (off := off) (rowN ns) (by intro e; have := rowN_len ns; rw [e] at this; simp at this; omega) fun j v hv => by
    have hj : j < ns.length := by have := (List.getElem?_eq_some_iff.1 hv).1; rwa [rowN_len] at this
    rw [rowN_get hj] at hv
    cases hv
    obtain ⟨i', off', e', _, e3⟩ := q j hj
    cases e'
    exact e3
  rwa [rowN_len] at this
theorem OwnS.sub {B : Nat} {h : Heap} {v : Value} {ns : List Nat} (o : OwnS B h 27 v ns.length (rowN ns)) : Sub h v ns := by
  generalize hc : rowN ns = cs at o
  generalize hl : ns.length = n at o
  cases o with
  | nil => exact ⟨_, _, by rw [hl], fun k hk => by omega⟩
  | emp i hi => exact ⟨_, _, by rw [hl], fun k hk => by omega⟩
  | row i n cs h1 h2 h3 => exact ⟨_, _, by rw [hl], fun k hk => ⟨i, 0, rfl, h2, cellAt_blk h2 h3 (by rw [← hc, Nat.zero_add]; exact rowN_get hk)⟩⟩
theorem own_mono {B B' : Nat} {h : Heap} {e : TypeId} {v : Value} {n : Nat} {cs : List Value} (o : OwnS B h e v n cs) (hB : B' ≤ B) : OwnS B' h e v n cs := by
  cases o with
  | nil => exact .nil
  | emp i hi => exact .emp i hi
  | row i n cs h1 h2 h3 => exact .row i n cs (by omega) h2 h3
theorem pre_of {B : Nat} {h : Heap} {v : Value} {ns : List Nat} {at_ : Nat} {K : Value → Prop} (o : OwnS B h 27 v ns.length (rowN ns)) (ha : at_ ≤ ns.length) (hn : ns.length ≤ 1000)
    (q : ∀ y, Sub h y (ns.take at_) → K y) : sliceVK env 25 v none (some (.int .i64 (at_ : Nat))) none K := by
  have s := OwnS.sub o
  have ht : (ns.take at_).length = at_ := by rw [List.length_take]; omega
  have key : ∀ a c c', v = .slice a ns.length c → K (.slice a at_ c') := fun a c c' e => by
    subst e
    obtain ⟨a', c'', e, qq⟩ := s
    cases e
    refine q _ ⟨_, _, by rw [ht], fun k hk => ?_⟩
    obtain ⟨i, off, e1, e2, e3⟩ := qq k (by omega)
    exact ⟨i, off, e1, e2, by rw [List.getElem_take]; exact e3⟩
  generalize hc : rowN ns = cs at o
  generalize hl : ns.length = n at o
  cases o with
  | nil =>
    refine slice_toC slz_25 (by decide) (by omega) (by omega) ?_
    exact key _ _ _ (by rw [hl])
  | emp i hi =>
    refine slice_toC slz_25 (by decide) (by omega) (by omega) ?_
    exact key _ _ _ (by rw [hl])
  | row i n cs h1 h2 h3 =>
    refine slice_to slz_25 (by decide) (by omega) (by omega) ?_
    exact key _ _ _ (by rw [hl])
theorem slice_fromC {t : TypeId} {a : Option Addr} {sz : Nat} {K : Value → Prop} (hs : slzOf env t = some sz) (q : ∀ a', K (.slice a' 0 0)) : sliceVK env t (.slice a 0 0) (some (.int .i64 0)) none none K := by
  unfold slzOf at hs
  split at hs
  · rename_i e hu
    have f1 : Nat.beq 0 UNK2 = false := rfl
    have f2 : Nat.beq 0 UNK = false := rfl
    have hb : bound (.int .i64 0) 0 = some 0 := rfl
    have hab : abounds 0 0 (some (.int .i64 0)) none none = some (0, 0, 0) := by
      simp only [abounds, aboundsM, aboundsL, hb]
    simp only [sliceVK, asliceS, hu, f1, f2, cond_false, hab, hs, onV_some']
    exact q _
  · cases hs
theorem suf_of {B : Nat} {h : Heap} {v : Value} {ns : List Nat} {at_ : Nat} {K : Value → Prop} (o : OwnS B h 27 v ns.length (rowN ns)) (ha : at_ ≤ ns.length) (hn : ns.length ≤ 1000)
    (q : ∀ y, Sub h y (ns.drop at_) → K y) : sliceVK env 25 v (some (.int .i64 (at_ : Nat))) none none K := by
  have s := OwnS.sub o
  have hd : (ns.drop at_).length = ns.length - at_ := List.length_drop
  generalize hc : rowN ns = cs at o
  generalize hl : ns.length = n at o
  cases o with
  | nil =>
    have e0 : at_ = 0 := by omega
    subst e0
    exact slice_fromC slz_25 fun a' => q _ ⟨_, _, by rw [hd, hl], fun k hk => by omega⟩
  | emp i hi =>
    have e0 : at_ = 0 := by omega
    subst e0
    exact slice_fromC slz_25 fun a' => q _ ⟨_, _, by rw [hd, hl], fun k hk => by omega⟩
  | row i n cs h1 h2 h3 =>
    by_cases e0 : at_ = 0
    · subst e0
      refine slice_from0 slz_25 (by decide) (by omega) ?_
      refine q _ ?_
      rw [List.drop_zero]; exact s
    · refine slice_fromU slz_25 (by decide) rfl (by omega) (by omega) fun y hy => ?_
      rcases hy with ⟨hlt, rfl⟩ | ⟨he, rfl⟩
      · refine q _ ⟨some ⟨i, at_, none⟩, UNK, ?_, fun k hk => ⟨i, at_, rfl, h2, ?_⟩⟩
        · rw [Option.map_some, Addr.add_lit, zero_add_one, hd, hl]
        · refine cellAt_blk h2 h3 ?_
          rw [← hc, rowN_get (by omega)]
          simp
      · exact q _ ⟨_, _, by rw [hd, hl, he, Nat.sub_self], fun k hk => by omega⟩
end Go.Proofs.YtjcmcoabckkjoaaDoor.Or

namespace Go.Proofs.YtjcmcoabckkjoaaDoor.Or
open Go.Ev
set_option maxRecDepth 100000
set_option maxHeartbeats 400000
def SortL (ns : List Nat) : Prop := ns.Pairwise fun a b => keyN a ≤ keyN b
theorem SortL.ins {ns : List Nat} {x p : Nat} (hs : SortL ns) (hp : p ≤ ns.length) (h1 : ∀ j (hj : j < ns.length), j < p → keyN ns[j] ≤ keyN x) (h2 : ∀ (h : p < ns.length), keyN x < keyN ns[p]) : SortL (ns.take p ++ [x] ++ ns.drop p) := by
  unfold SortL at hs ⊢
  have low : ∀ a ∈ ns.take p, keyN a ≤ keyN x := fun a ha => by
    obtain ⟨j, hj, rfl⟩ := List.getElem_of_mem ha
    rw [List.getElem_take]
    rw [List.length_take] at hj
    exact h1 j (by omega) (by omega)
  have high : ∀ b ∈ ns.drop p, keyN x ≤ keyN b := fun b hb => by
    obtain ⟨j, hj, rfl⟩ := List.getElem_of_mem hb
    rw [List.length_drop] at hj
    rw [List.getElem_drop]
    have hpl : p < ns.length := by omega
    have := h2 hpl
    by_cases hj0 : j = 0
    · subst hj0; simp only [Nat.add_zero]; omega
    · have := (List.pairwise_iff_getElem.1 hs) p (p + j) hpl (by omega) (by omega)
      omega
  rw [List.pairwise_append, List.pairwise_append]
  refine ⟨⟨hs.sublist (List.take_sublist _ _), List.pairwise_singleton _ _, fun a ha b hb => ?_⟩, hs.sublist (List.drop_sublist _ _), fun a ha b hb => ?_⟩
  · rw [List.mem_singleton.1 hb]; exact low a ha
  · rcases List.mem_append.1 ha with ha | ha
    · exact Nat.le_trans (low a ha) (high b hb)
    · rw [List.mem_singleton.1 ha]; exact high b hb
theorem ins_perm (ns : List Nat) (x p : Nat) : (ns.take p ++ [x] ++ ns.drop p).Perm (x :: ns) := by
  have := List.perm_middle (a := x) (l₁ := ns.take p) (l₂ := ns.drop p)
  rw [List.take_append_drop] at this
  simpa using this
theorem ins_len {ns : List Nat} {x p : Nat} (hp : p ≤ ns.length) : (ns.take p ++ [x] ++ ns.drop p).length = ns.length + 1 := by
  simp only [List.length_append, List.length_take, List.length_drop, List.length_cons, List.length_nil]; omega
theorem rowN_ins (ns : List Nat) (x p : Nat) : rowN (ns.take p) ++ [Value.float .f64 x] ++ rowN (ns.drop p) = rowN (ns.take p ++ [x] ++ ns.drop p) := by simp [rowN]
/-- a row's bits -/
def bitsL (f : Nat → Nat) (N : Nat) : List Nat := (List.range N).map f
theorem rsort_ret {v : Value} {f : Nat → Nat} {N : Nat} {h : Heap} {K : Value → Heap → Prop} (r : Rd h v f N) (hN : N ≤ 900) (hf : Bits f N)
    (hK : ∀ ns v' h', OwnS h.n h' 27 v' ns.length (rowN ns) → ExtB h.n h h' → ns.Perm (bitsL f N) → SortL ns → K v' h') : Ret env (.func 25) [v] h K := by
  refine F25 rfl ?_
  obtain ⟨a, c, rfl, q⟩ := id r
  repeat' (first | done | with_reducible (first | refine y1 ?_ (by omega) | refine y2 ?_ (by omega) | refine y3 (fun _ => ?_) (fun _ => ?_) | refine y4 ?_ (by omega) (by omega) | refine y5 ?_ (by omega) | refine y6 ?_ (by with_unfolding_all rfl) | refine y7 ?_ (by with_unfolding_all rfl) | refine y8 ?_ (by with_unfolding_all rfl) | refine y9 ?_ (by with_unfolding_all rfl) | refine ya ?_ (by with_unfolding_all rfl)) | ((with_reducible refine And.intro ?_ ?_); (· omega)) | (simp -dsimp only [↓cw_ops, ↓cw_seq, ↓cw_block, ↓seqK_normal, ↓evK_int, ↓evK_nilslice, ↓opsW_nil, ↓opsW_d, ↓opW_assign, ↓setAll_cons, ↓setAll_nil, ↓s25_22_w, ↓s25_23_w, ↓r25_24_w, ↓s25_25_w, ↓s25_26_w, ↓r25_27_w, ↓s25_28_w, ↓r25_29_w, ↓s25_30_w]))
  refine cw_loopI (fun x fr' h' => ∃ (k : Nat) (ns : List Nat) (out : Value), k ≤ N ∧ x = N - k ∧ fr'.get 4 = some (.int .i64 (k : Nat)) ∧ fr'.get 3 = some out ∧ OwnS h.n h' 27 out ns.length (rowN ns) ∧ ExtB h.n h h' ∧ ns.Perm (bitsL f k) ∧ SortL ns) N ?_ (by omega) ?_
  · exact ⟨0, [], _, by omega, by omega, by simp [T.get_set], by simp [T.get_set], .nil, ExtB.refl _ _, .refl _, List.Pairwise.nil⟩
  rintro x fr1 h1 ⟨k, ns, out, hk, rfl, y4, y3, o, X1, hp, hs⟩ hag
  have n1 := X1.n
  have hlen : ns.length = k := by have := hp.length_eq; simpa [bitsL] using this
  have g4 := getK_of y4
  have g3 := getK_of y3
  have z0 := hag 0 rfl
  have a0 := getK_eq (hag 0 rfl)
  by_cases hlt : k < N
  · have c1 : (k : Int) < (N : Int) := by omega
    obtain ⟨i, rfl, hi, d1⟩ := q k hlt
    have r1 := r.ext X1
    have d1' : cellAt h1 ⟨i, k, none⟩ = some (.float .f64 (f k)) := cellAt_ext X1 hi d1
    have z1 : 0 + k * 1 = k := zero_add_one _
    have w1 : IntKind.i64.wrap ((k : Int) + 1) = ((k + 1 : Nat) : Int) := by rw [wrap_i64 (by omega) (by omega)]; omega
    have hsub := OwnS.sub o
    obtain ⟨oa, oc, rfl, oq⟩ := id hsub
    have hbn : ∀ j (hj : j < ns.length), ns[j] < 18446744073709551616 := fun j hj => by
      have hm := hp.mem_iff.1 (List.getElem_mem hj)
      obtain ⟨t, ht, e⟩ := List.mem_map.1 hm
      rw [← e]; exact hf t (by have := List.mem_range.1 ht; omega)
    repeat' (first | done | with_reducible (first | refine y1 ?_ (by omega) | refine y2 ?_ (by omega) | refine y3 (fun _ => ?_) (fun _ => ?_) | refine y4 ?_ (by omega) (by omega) | refine y5 ?_ (by omega) | refine y6 ?_ (by with_unfolding_all rfl) | refine y7 ?_ (by with_unfolding_all rfl) | refine y8 ?_ (by with_unfolding_all rfl) | refine y9 ?_ (by with_unfolding_all rfl) | refine ya ?_ (by with_unfolding_all rfl)) | ((with_reducible refine And.intro ?_ ?_); (· omega)) | (simp -dsimp only [↓cw_skip, ↓cw_ops, ↓cw_seq, ↓cw_block, ↓cw_cond, ↓seqK_normal, ↓getK_same, ↓getK_ne, ↓evK_tmp, ↓evK_int, ↓condV_var, ↓opsW_nil, ↓opsW_d, ↓opW_move, ↓opW_assign, ↓opW_bin, ↓bin_lss, ↓lenS_some, ↓len_25, ↓s25_13_w, ↓s25_14_w, ↓r25_15_w, ↓s25_16_w, ↓s25_17_w, ↓s25_18_w, ↓r25_19_w, ↓s25_20_w, ↓s25_21_w, brK_true, ne_eq, Nat.reduceEqDiff, not_false_eq_true, ↓g4, ↓a0, c1]))
    refine cw_loopI (fun x fr' h' => h' = h1 ∧ ∃ p : Nat, p ≤ ns.length ∧ x = ns.length - p ∧ fr'.get 5 = some (.int .i64 (p : Nat)) ∧ ∀ j (hj : j < ns.length), j < p → keyN ns[j] ≤ keyN (f k)) ns.length ?_ (by omega) ?_
    · exact ⟨rfl, 0, by omega, by omega, by simp [T.get_set], fun j _ h => by omega⟩
    rintro x fr2 h' ⟨rfl, p, hpl, rfl, y5, hlow⟩ hag2
    have g5 := getK_of y5
    have u0 : fr2.get 0 = some (.slice (some ⟨i, 0, none⟩) N c) := ((hag2 0 rfl).trans (by simp [T.get_set])).trans (z0.trans (by simp [T.get_set]))
    have u3 : fr2.get 3 = some (.slice oa ns.length oc) := ((hag2 3 rfl).trans (by simp [T.get_set])).trans y3
    have u4 : fr2.get 4 = some (.int .i64 (k : Nat)) := ((hag2 4 rfl).trans (by simp [T.get_set])).trans y4
    have b0 := getK_of u0
    have b3 := getK_of u3
    have b4 := getK_of u4
    -- what stands behind the search
    have fin : (∀ (h : p < ns.length), keyN (f k) < keyN ns[p]) → ∀ (fr' : Fr) (Q : Ex → Fr → Heap → Prop), fr'.get 0 = fr2.get 0 → fr'.get 3 = fr2.get 3 → fr'.get 4 = fr2.get 4 → fr'.get 5 = fr2.get 5 →
        (∀ (fr3 : Fr) (h3 : Heap) (v3 : Value), fr3.get 4 = some (.int .i64 (k : Nat)) → fr3.get 3 = some v3 → OwnS h'.n h3 27 v3 (ns.take p ++ [f k] ++ ns.drop p).length (rowN (ns.take p ++ [f k] ++ ns.drop p)) → ExtB h'.n h' h3 → Q .normal fr3 h3) → s25_5.wp env 45 none fr' h' Q := by
      intro hhi fr' Q e0 e3 e4 e5 hQ
      have j0 := getK_of (e0.trans u0)
      have j3 := getK_of (e3.trans u3)
      have j4 := getK_of (e4.trans u4)
      have j5 := getK_of (e5.trans y5)
      have u4' := e4.trans u4
      repeat' (first | done | with_reducible (first | refine y1 ?_ (by omega) | refine y2 ?_ (by omega) | refine y3 (fun _ => ?_) (fun _ => ?_) | refine y4 ?_ (by omega) (by omega) | refine y5 ?_ (by omega) | refine y6 ?_ (by with_unfolding_all rfl) | refine y7 ?_ (by with_unfolding_all rfl) | refine y8 ?_ (by with_unfolding_all rfl) | refine y9 ?_ (by with_unfolding_all rfl) | refine ya ?_ (by with_unfolding_all rfl)) | ((with_reducible refine And.intro ?_ ?_); (· omega)) | (simp -dsimp only [↓cw_plan, ↓getK_same, ↓getK_ne, ↓evK_tmp, ↓planW_d, ↓agK_nil, ↓opW_move, ↓opW_slice, ↓evo_none, ↓evo_some, ↓p25_4_w, ↓s25_5_w, Nat.le_refl, true_and, ne_eq, Nat.reduceEqDiff, not_false_eq_true, ↓j3, ↓j5]))
      refine pre_of o hpl (by omega) fun y sy => ?_
      have lt : (ns.take p).length = p := by rw [List.length_take]; omega
      have ld : (ns.drop p).length = ns.length - p := List.length_drop
      repeat' (first | done | with_reducible (first | refine y1 ?_ (by omega) | refine y2 ?_ (by omega) | refine y3 (fun _ => ?_) (fun _ => ?_) | refine y4 ?_ (by omega) (by omega) | refine y5 ?_ (by omega) | refine y6 ?_ (by with_unfolding_all rfl) | refine y7 ?_ (by with_unfolding_all rfl) | refine y8 ?_ (by with_unfolding_all rfl) | refine y9 ?_ (by with_unfolding_all rfl) | refine ya ?_ (by with_unfolding_all rfl)) | ((with_reducible refine And.intro ?_ ?_); (· omega)) | (simp -dsimp only [↓getK_same, ↓getK_ne, ↓evK_tmp, ↓planW_d, ↓agK_nil, ↓opW_move, ↓ld1_some, ↓idxS_some, ↓evp_nil, ↓evp_cons, ↓opW_slice, ↓evo_none, ↓evo_some, ↓ia_25, ↓ld_27, ↓bsl_25_1, newBlk_n, onV_some', Nat.le_refl, true_and, ne_eq, Nat.reduceEqDiff, not_false_eq_true, Addr.add_lit, Int.toNat_natCast, ↓j0, ↓j3, ↓j4, ↓j5, z1, d1']))
      have hl1 : (Value.float .f64 (f k)).cells.toList = [Value.float .f64 (f k)] := rfl
      rw [hl1]
      have XA : ExtB h'.n h' (newBlk h' (.cells [.float .f64 (f k)] 27 true)) := ExtB.new _ (Nat.le_refl _)
      have hbA : (newBlk h' (.cells [.float .f64 (f k)] 27 true)).b.get h'.n = some (.cells [.float .f64 (f k)] 27 true) := newBlk_same _ _
      have hnA : (newBlk h' (.cells [.float .f64 (f k)] 27 true)).n = h'.n + 1 := rfl
      generalize newBlk h' (.cells [.float .f64 (f k)] 27 true) = hA at XA hbA hnA ⊢
      have sA : Sub hA (.slice (some ⟨h'.n, 0, none⟩) 1 1) [f k] := ⟨_, _, rfl, fun j hj => ⟨h'.n, 0, rfl, by omega, cellAt_blk (by omega) hbA (by
        have : j = 0 := by simpa using hj
        subst this; rfl)⟩⟩
      refine suf_of (OwnS.ext o XA (Nat.le_refl _)) hpl (by omega) fun y2 sy2 => ?_
      have dA : cellAt hA ⟨i, k, none⟩ = some (.float .f64 (f k)) := cellAt_ext XA (by omega) d1'
      obtain ⟨l1, l2⟩ := (sy.ext XA).first
      repeat' (first | done | with_reducible (first | refine y1 ?_ (by omega) | refine y2 ?_ (by omega) | refine y3 (fun _ => ?_) (fun _ => ?_) | refine y4 ?_ (by omega) (by omega) | refine y5 ?_ (by omega) | refine y6 ?_ (by with_unfolding_all rfl) | refine y7 ?_ (by with_unfolding_all rfl) | refine y8 ?_ (by with_unfolding_all rfl) | refine y9 ?_ (by with_unfolding_all rfl) | refine ya ?_ (by with_unfolding_all rfl)) | ((with_reducible refine And.intro ?_ ?_); (· omega)) | (simp -dsimp only [↓getK_same, ↓getK_ne, ↓evK_tmp, ↓evK_nilslice, ↓planW_d, ↓agK_nil, ↓ap_25_25, true_and, ne_eq, Nat.reduceEqDiff, not_false_eq_true]))
      refine app_ownG (OwnS.nil (B := hA.n)) (Nat.le_refl _) rfl l1 (by omega) l2 (by rw [rowN_len, Nat.mul_one]) (rowN_one _) (by decide) fun v1 h2 o1 X2 => ?_
      rw [Nat.zero_add, List.nil_append] at o1
      have n2 := X2.n
      have d2 : cellAt h2 ⟨i, k, none⟩ = some (.float .f64 (f k)) := cellAt_ext X2 (by omega) dA
      obtain ⟨q1, q2⟩ := (sA.ext X2).first
      repeat' (first | done | with_reducible (first | refine y1 ?_ (by omega) | refine y2 ?_ (by omega) | refine y3 (fun _ => ?_) (fun _ => ?_) | refine y4 ?_ (by omega) (by omega) | refine y5 ?_ (by omega) | refine y6 ?_ (by with_unfolding_all rfl) | refine y7 ?_ (by with_unfolding_all rfl) | refine y8 ?_ (by with_unfolding_all rfl) | refine y9 ?_ (by with_unfolding_all rfl) | refine ya ?_ (by with_unfolding_all rfl)) | ((with_reducible refine And.intro ?_ ?_); (· omega)) | (simp -dsimp only [↓getK_same, ↓getK_ne, ↓evK_tmp, ↓planW_d, ↓agK_nil, ↓ld1_some, ↓agK_load, ↓agV_same, ↓agV_ne, ↓agl_27, ↓ap_25_25, onV_some', and_true, ne_eq, Nat.reduceEqDiff, not_false_eq_true, Addr.add_lit, Int.toNat_natCast, z1, d2, agl_27]))
      refine ⟨by simp [sameV], ?_⟩
      refine app_ownG o1 (by omega) (by rw [rowN_len, Nat.mul_one]) q1 (by simp; omega) q2 (by rw [rowN_len, Nat.mul_one]) (rowN_one _) (by decide) fun v2 h3 o2 X3 => ?_
      have n3 := X3.n
      have X23 := X2.trans X3
      obtain ⟨m1, m2⟩ := (sy2.ext X23).first
      repeat' (first | done | with_reducible (first | refine y1 ?_ (by omega) | refine y2 ?_ (by omega) | refine y3 (fun _ => ?_) (fun _ => ?_) | refine y4 ?_ (by omega) (by omega) | refine y5 ?_ (by omega) | refine y6 ?_ (by with_unfolding_all rfl) | refine y7 ?_ (by with_unfolding_all rfl) | refine y8 ?_ (by with_unfolding_all rfl) | refine y9 ?_ (by with_unfolding_all rfl) | refine ya ?_ (by with_unfolding_all rfl)) | ((with_reducible refine And.intro ?_ ?_); (· omega)) | (simp -dsimp only [↓getK_same, ↓getK_ne, ↓evK_tmp, ↓planW_d, ↓agK_nil, ↓ap_25_25, true_and, ne_eq, Nat.reduceEqDiff, not_false_eq_true]))
      refine app_ownG o2 (by omega) (by simp [rowN]) m1 (by simp; omega) m2 (by rw [rowN_len, Nat.mul_one]) (rowN_one _) (by decide) fun v3 h4 o3 X4 => ?_
      have n4 := X4.n
      rw [show rowN (ns.take p) ++ rowN [f k] ++ rowN (ns.drop p) = rowN (ns.take p ++ [f k] ++ ns.drop p) by simp [rowN], show (ns.take p).length + [f k].length + (ns.drop p).length = (ns.take p ++ [f k] ++ ns.drop p).length by simp; omega] at o3
      repeat' (first | done | with_reducible (first | refine y1 ?_ (by omega) | refine y2 ?_ (by omega) | refine y3 (fun _ => ?_) (fun _ => ?_) | refine y4 ?_ (by omega) (by omega) | refine y5 ?_ (by omega) | refine y6 ?_ (by with_unfolding_all rfl) | refine y7 ?_ (by with_unfolding_all rfl) | refine y8 ?_ (by with_unfolding_all rfl) | refine y9 ?_ (by with_unfolding_all rfl) | refine ya ?_ (by with_unfolding_all rfl)) | ((with_reducible refine And.intro ?_ ?_); (· omega)) | (simp -dsimp only [↓getK_same, ↓evK_tmp, ↓planW_nil, ↓planW_d, ↓agK_nil, ↓opW_assign, Nat.le_refl, true_and, Addr.add_lit, Int.toNat_natCast]))
      refine hQ _ h4 v3 ?_ ?_ (own_mono o3 (by omega)) (XA.trans ((X23.trans X4).mono (by omega)))
      · simp only [T.get_set]; simpa using u4'
      · simp [T.get_set]
    have next : ∀ (fr3 : Fr) (h3 : Heap) (v3 : Value), (∀ (h : p < ns.length), keyN (f k) < keyN ns[p]) → fr3.get 4 = some (.int .i64 ((k + 1 : Nat) : Int)) → fr3.get 3 = some v3 → OwnS h'.n h3 27 v3 (ns.take p ++ [f k] ++ ns.drop p).length (rowN (ns.take p ++ [f k] ++ ns.drop p)) → ExtB h'.n h' h3 →
        ∃ m, m < N - k ∧ ∃ (k : Nat) (ns : List Nat) (out : Value), k ≤ N ∧ m = N - k ∧ fr3.get 4 = some (.int .i64 (k : Nat)) ∧ fr3.get 3 = some out ∧ OwnS h.n h3 27 out ns.length (rowN ns) ∧ ExtB h.n h h3 ∧ ns.Perm (bitsL f k) ∧ SortL ns := by
      intro fr3 h3 v3 hhi q4 q3 o3 X3
      refine ⟨N - (k + 1), by omega, k + 1, _, v3, by omega, rfl, q4, q3, own_mono o3 n1, X1.trans (X3.mono n1), ?_, hs.ins hpl hlow hhi⟩
      refine (ins_perm ns (f k) p).trans ((hp.cons (f k)).trans ?_)
      unfold bitsL
      rw [List.range_succ, List.map_append]
      exact (List.perm_append_comm (l₁ := [f k]) (l₂ := (List.range k).map f))
    by_cases hpn : p < ns.length
    · have c2 : (p : Int) < (ns.length : Int) := by omega
      obtain ⟨j, off, rfl, hj, e3⟩ := oq p hpn
      have z3 : off + p * 1 = off + p := by omega
      have w2 : IntKind.i64.wrap ((p : Int) + 1) = ((p + 1 : Nat) : Int) := by rw [wrap_i64 (by omega) (by omega)]; omega
      repeat' (first | done | with_reducible (first | refine y1 ?_ (by omega) | refine y2 ?_ (by omega) | refine y3 (fun _ => ?_) (fun _ => ?_) | refine y4 ?_ (by omega) (by omega) | refine y5 ?_ (by omega) | refine y6 ?_ (by with_unfolding_all rfl) | refine y7 ?_ (by with_unfolding_all rfl) | refine y8 ?_ (by with_unfolding_all rfl) | refine y9 ?_ (by with_unfolding_all rfl) | refine ya ?_ (by with_unfolding_all rfl)) | ((with_reducible refine And.intro ?_ ?_); (· omega)) | (simp -dsimp only [↓cw_plan, ↓cw_seq, ↓getK_same, ↓getK_ne, ↓evK_tmp, ↓gdV_var, ↓planW_d, ↓planW_gd, ↓agK_nil, ↓opW_move, ↓opW_bin, ↓bin_lss, ↓ld1_some, ↓idxS_some, ↓evs_nil, ↓evs_cons, ↓opW_call, ↓lenS_some, ↓len_25, ↓ia_25, ↓ld_27, ↓p25_10_w, ↓s25_11_w, ↓s25_12_w, onV_some', brK_true, Nat.le_refl, true_and, and_true, ne_eq, Nat.reduceEqDiff, not_false_eq_true, Addr.add_lit, Int.toNat_natCast, ↓b0, ↓b3, ↓b4, ↓g5, c2, z1, z3, d1', e3]))
      refine rless_ret (hf k hlt) (hbn p hpn) ?_
      by_cases hl : keyN (f k) < keyN ns[p]
      · rw [decide_eq_true hl]
        repeat' (first | done | with_reducible (first | refine y1 ?_ (by omega) | refine y2 ?_ (by omega) | refine y3 (fun _ => ?_) (fun _ => ?_) | refine y4 ?_ (by omega) (by omega) | refine y5 ?_ (by omega) | refine y6 ?_ (by with_unfolding_all rfl) | refine y7 ?_ (by with_unfolding_all rfl) | refine y8 ?_ (by with_unfolding_all rfl) | refine y9 ?_ (by with_unfolding_all rfl) | refine ya ?_ (by with_unfolding_all rfl)) | ((with_reducible refine And.intro ?_ ?_); (· omega)) | (simp -dsimp only [↓cw_exit, ↓cw_cond, ↓seqK_normal, ↓seqK_exit, ↓blockK_same, ↓loopK_exit, ↓getK_same, ↓getK_ne, ↓evK_tmp, ↓condV_var, ↓gdV_var, ↓planW_nil, ↓planW_d, ↓planW_gd, ↓agK_nil, ↓opW_pick, ↓opW_un, ↓un_not, ↓s25_9_w, brK_true, brK_false, Nat.le_refl, true_and, ne_eq, Nat.reduceEqDiff, not_false_eq_true, Addr.add_lit, Int.toNat_natCast, Bool.false_eq_true,  Bool.not_true]))
        refine fin (fun _ => hl) _ _ ?_ ?_ ?_ ?_ fun fr3 h3 v3 q4 q3 o3 X3 => ?_
        · simp [T.get_set]
        · simp [T.get_set]
        · simp [T.get_set]
        · simp [T.get_set]
        have g4 := getK_of q4
        repeat' (first | done | with_reducible (first | refine y1 ?_ (by omega) | refine y2 ?_ (by omega) | refine y3 (fun _ => ?_) (fun _ => ?_) | refine y4 ?_ (by omega) (by omega) | refine y5 ?_ (by omega) | refine y6 ?_ (by with_unfolding_all rfl) | refine y7 ?_ (by with_unfolding_all rfl) | refine y8 ?_ (by with_unfolding_all rfl) | refine y9 ?_ (by with_unfolding_all rfl) | refine ya ?_ (by with_unfolding_all rfl)) | ((with_reducible refine And.intro ?_ ?_); (· omega)) | (simp -dsimp only [↓cw_ops, ↓seqK_normal, ↓blockK_normal, ↓loopK_normal, ↓getK_same, ↓evK_tmp, ↓evK_int, ↓opsW_nil, ↓opsW_d, ↓opW_move, ↓opW_assign, ↓opW_bin, ↓bin_add, ↓r25_2_w, ↓s25_3_w, ↓g4, w1]))
        refine next _ h3 v3 (fun _ => hl) ?_ ?_ o3 X3
        · simp [T.get_set]
        · simp only [T.get_set]; simpa using q3
      · rw [decide_eq_false hl]
        repeat' (first | done | with_reducible (first | refine y1 ?_ (by omega) | refine y2 ?_ (by omega) | refine y3 (fun _ => ?_) (fun _ => ?_) | refine y4 ?_ (by omega) (by omega) | refine y5 ?_ (by omega) | refine y6 ?_ (by with_unfolding_all rfl) | refine y7 ?_ (by with_unfolding_all rfl) | refine y8 ?_ (by with_unfolding_all rfl) | refine y9 ?_ (by with_unfolding_all rfl) | refine ya ?_ (by with_unfolding_all rfl)) | ((with_reducible refine And.intro ?_ ?_); (· omega)) | (simp -dsimp only [↓cw_skip, ↓cw_ops, ↓cw_block, ↓cw_cond, ↓seqK_normal, ↓blockK_normal, ↓loopK_normal, ↓getK_same, ↓getK_ne, ↓evK_tmp, ↓evK_int, ↓condV_var, ↓gdV_var, ↓opsW_nil, ↓opsW_d, ↓planW_nil, ↓planW_d, ↓planW_gd, ↓agK_nil, ↓opW_move, ↓opW_assign, ↓opW_pick, ↓opW_bin, ↓bin_add, ↓opW_un, ↓un_not, ↓r25_6_w, ↓s25_7_w, ↓s25_8_w, ↓s25_9_w, brK_true, Nat.le_refl, true_and, ne_eq, Nat.reduceEqDiff, not_false_eq_true, Addr.add_lit, Int.toNat_natCast, ↓g5, Bool.not_false, w2]))
        refine ⟨ns.length - (p + 1), by omega, p + 1, by omega, rfl, by simp [T.get_set], fun j hj hjp => ?_⟩
        by_cases hjj : j = p
        · subst hjj; omega
        · exact hlow j hj (by omega)
    · have c2 : ¬ (p : Int) < (ns.length : Int) := by omega
      repeat' (first | done | with_reducible (first | refine y1 ?_ (by omega) | refine y2 ?_ (by omega) | refine y3 (fun _ => ?_) (fun _ => ?_) | refine y4 ?_ (by omega) (by omega) | refine y5 ?_ (by omega) | refine y6 ?_ (by with_unfolding_all rfl) | refine y7 ?_ (by with_unfolding_all rfl) | refine y8 ?_ (by with_unfolding_all rfl) | refine y9 ?_ (by with_unfolding_all rfl) | refine ya ?_ (by with_unfolding_all rfl)) | ((with_reducible refine And.intro ?_ ?_); (· omega)) | (simp -dsimp only [↓cw_plan, ↓cw_seq, ↓cw_exit, ↓cw_cond, ↓seqK_normal, ↓seqK_exit, ↓blockK_same, ↓loopK_exit, ↓getK_same, ↓getK_ne, ↓evK_tmp, ↓evK_bool, ↓condV_var, ↓gdV_var, ↓planW_nil, ↓planW_d, ↓planW_gd, ↓agK_nil, ↓opW_move, ↓opW_pick, ↓opW_bin, ↓bin_lss, ↓lenS_some, ↓len_25, ↓s25_9_w, ↓p25_10_w, ↓s25_11_w, ↓s25_12_w, brK_false, Nat.le_refl, true_and, ne_eq, Nat.reduceEqDiff, not_false_eq_true, Bool.false_eq_true,  ↓b3, ↓g5, c2]))
      refine fin (fun h => absurd h hpn) _ _ ?_ ?_ ?_ ?_ fun fr3 h3 v3 q4 q3 o3 X3 => ?_
      · simp [T.get_set]
      · simp [T.get_set]
      · simp [T.get_set]
      · simp [T.get_set]
      have g4 := getK_of q4
      repeat' (first | done | with_reducible (first | refine y1 ?_ (by omega) | refine y2 ?_ (by omega) | refine y3 (fun _ => ?_) (fun _ => ?_) | refine y4 ?_ (by omega) (by omega) | refine y5 ?_ (by omega) | refine y6 ?_ (by with_unfolding_all rfl) | refine y7 ?_ (by with_unfolding_all rfl) | refine y8 ?_ (by with_unfolding_all rfl) | refine y9 ?_ (by with_unfolding_all rfl) | refine ya ?_ (by with_unfolding_all rfl)) | ((with_reducible refine And.intro ?_ ?_); (· omega)) | (simp -dsimp only [↓cw_ops, ↓seqK_normal, ↓blockK_normal, ↓loopK_normal, ↓getK_same, ↓evK_tmp, ↓evK_int, ↓opsW_nil, ↓opsW_d, ↓opW_move, ↓opW_assign, ↓opW_bin, ↓bin_add, ↓r25_2_w, ↓s25_3_w, ↓g4, w1]))
      refine next _ h3 v3 (fun h => absurd h hpn) ?_ ?_ o3 X3
      · simp [T.get_set]
      · simp only [T.get_set]; simpa using q3
  · have e : k = N := by omega
    subst e
    have c1 : ¬ (k : Int) < (k : Int) := by omega
    repeat' (first | done | with_reducible (first | refine y1 ?_ (by omega) | refine y2 ?_ (by omega) | refine y3 (fun _ => ?_) (fun _ => ?_) | refine y4 ?_ (by omega) (by omega) | refine y5 ?_ (by omega) | refine y6 ?_ (by with_unfolding_all rfl) | refine y7 ?_ (by with_unfolding_all rfl) | refine y8 ?_ (by with_unfolding_all rfl) | refine y9 ?_ (by with_unfolding_all rfl) | refine ya ?_ (by with_unfolding_all rfl)) | ((with_reducible refine And.intro ?_ ?_); (· omega)) | (simp -dsimp only [↓cw_ops, ↓cw_seq, ↓cw_exit, ↓cw_ret, ↓cw_cond, ↓seqK_normal, ↓seqK_exit, ↓blockK_same, ↓loopK_exit, ↓getK_same, ↓getK_ne, ↓evK_tmp, ↓condV_var, ↓opsW_nil, ↓opsW_d, ↓opW_move, ↓opW_assign, ↓opW_bin, ↓bin_lss, ↓lenS_some, ↓resK_one, ↓len_25, ↓r25_0_w, ↓s25_1_w, ↓s25_18_w, ↓r25_19_w, ↓s25_20_w, ↓s25_21_w, brK_false, ne_eq, Nat.reduceEqDiff, not_false_eq_true, Bool.false_eq_true,  ↓g4, ↓g3, ↓a0, c1]))
    exact hK ns out h1 o X1 hp hs
end Go.Proofs.YtjcmcoabckkjoaaDoor.Or

