/- Tables, contexts, places, domains as they are made. Conditions, each theorem's own. -/
import Derived.Test.YtdjnedamphifcaaVP
import Derived.Test.YtdjnedamphifcaaVD
set_option linter.unusedSimpArgs false
set_option linter.unusedVariables false
namespace Go.Proofs.Ytdjnedamphifcaa
open Go.Ev
set_option maxRecDepth 100000
set_option maxHeartbeats 400000
/-! rows that grow, told apart by their types -/
def RowG (B : Nat) (h : Heap) (e : TypeId) (v : Value) (n : Nat) (cs : List Value) : Prop :=
  (v = .slice none 0 0 ∧ n = 0 ∧ cs = []) ∨ (∃ i, v = .slice (some ⟨i, 0, none⟩) n UNK ∧ B ≤ i ∧ i < h.n ∧ h.b.get i = some (.cells cs e false) ∧ n ≠ 0)
theorem RowG.own {B : Nat} {h : Heap} {e : TypeId} {v : Value} {n : Nat} {cs : List Value} (r : RowG B h e v n cs) : OwnS B h e v n cs := by
  rcases r with ⟨rfl, rfl, rfl⟩ | ⟨i, rfl, h1, h2, h3, _⟩
  · exact .nil
  · exact .row i n cs h1 h2 h3
theorem RowG.of {B : Nat} {h : Heap} {e : TypeId} {v : Value} {n : Nat} {cs : List Value} (o : OwnS B h e v n cs) (hn : n ≠ 0) : RowG B h e v n cs := by
  cases o with
  | nil => exact absurd rfl hn
  | emp i hi => exact absurd rfl hn
  | row i n cs h1 h2 h3 => exact .inr ⟨i, rfl, h1, h2, h3, hn⟩
theorem RowG.keep {B : Nat} {h h' : Heap} {e : TypeId} {v : Value} {n : Nat} {cs : List Value} (r : RowG B h e v n cs) (hn : h.n ≤ h'.n) (hf : ∀ j, B ≤ j → j < h.n → h.b.get j = some (.cells cs e false) → h'.b.get j = h.b.get j) : RowG B h' e v n cs := by
  rcases r with ⟨rfl, rfl, rfl⟩ | ⟨i, rfl, h1, h2, h3, h4⟩
  · exact .inl ⟨rfl, rfl, rfl⟩
  · exact .inr ⟨i, rfl, h1, by omega, (hf i h1 h2 h3).trans h3, h4⟩
/-- blocks of other types stay -/
def Keeps (e : TypeId) (h h' : Heap) : Prop := ∀ j cs' e' b', j < h.n → h.b.get j = some (.cells cs' e' b') → (e' ≠ e ∨ b' = true) → h'.b.get j = h.b.get j
theorem RowG.notIn {B : Nat} {h : Heap} {e : TypeId} {v : Value} {n : Nat} {cs : List Value} (r : RowG B h e v n cs) {j : Nat} {cs' : List Value} {e' : TypeId} {b' : Bool} (hj : h.b.get j = some (.cells cs' e' b')) (hd : e' ≠ e ∨ b' = true) : Go.Ev.notIn v j := by
  intro a m c hv
  rcases r with ⟨rfl, _, _⟩ | ⟨i, rfl, h1, h2, h3, h4⟩
  · cases hv
  · cases hv
    rintro rfl
    rw [h3] at hj
    cases hj
    rcases hd with hd | hd
    · exact hd rfl
    · cases hd
theorem app_row {B : Nat} {e : TypeId} {sz n j : Nat} {s : Value} {cs new : List Value} {h1 : Heap} {K : Value → Heap → Prop} (o : RowG B h1 e s n cs) (hB : B ≤ h1.n) (hlen : cs.length = n * sz) (hsz : n + 1 ≤ 100000)
    (hnl : new.length = sz) (hone : new.all oneCell = true) (hpos : sz ≠ 0) (hj : j = h1.n)
    (k : ∀ v' h', RowG B h' e v' (n + 1) (cs ++ new) → ExtB B h1 h' → Keeps e h1 h' → h1.n + 1 ≤ h'.n → K v' h') : appK e sz s (.slice (some ⟨j, 0, none⟩) 1 1) (newBlk h1 (.cells new e true)) K := by
  subst hj
  refine app_ownF (o.own.new _) (Nat.le_trans hB (Nat.le_succ _)) hlen (m := 1) rfl (by decide) hsz (new := new) ?_ (by omega) hone hpos fun v' h' o' x' f' => k v' h' (.of o' (by omega)) ((ExtB.new _ hB).trans x') (fun j cs' e' b' hj hg hd => by rw [f' j (Nat.lt_succ_of_lt hj) (o.notIn hg hd), newBlk_old _ hj]) x'.n
  simp only [firstCells, Nat.one_mul]
  exact cellsAt_newE hnl
theorem RowG.pos {B : Nat} {h : Heap} {e : TypeId} {v : Value} {n : Nat} {cs : List Value} (r : RowG B h e v n cs) (hn : n ≠ 0) : ∃ i, v = .slice (some ⟨i, 0, none⟩) n UNK ∧ B ≤ i ∧ i < h.n ∧ h.b.get i = some (.cells cs e false) := by
  rcases r with ⟨_, h0, _⟩ | ⟨i, h1, h2, h3, h4, _⟩
  · exact absurd h0 hn
  · exact ⟨i, h1, h2, h3, h4⟩
theorem RowG.set {B i : Nat} {h : Heap} {e : TypeId} {v : Value} {n : Nat} {cs : List Value} (r : RowG B h e v n cs) (k : Blk) (hi : i < B) : RowG B { h with b := h.b.set i k } e v n cs := r.keep (Nat.le_refl _) fun j hj _ _ => T.get_set_ne _ _ (by omega)
/-! places, contexts, domains as they are made -/
def g0 : List Value := [.int .i64 0, .bool false, .int .i64 0, .int .u64 0, .int .i64 0, .int .u64 0, .int .u8 0, .int .i64 0, .int .i64 0, .int .u64 0, .int .u64 0, .int .u64 0, .int .u64 0, .int .u64 0, .int .u64 0, .int .u64 0, .int .u64 0, .int .i64 0, .int .u64 0]
def place0 : List Value := .int .u64 1 :: .bool false :: g0
def many (n : Nat) (r : List Value) : List Value := (List.replicate n r).flatten
theorem many_succ (n : Nat) (r : List Value) : many (n + 1) r = many n r ++ r := by simp [many, List.replicate_succ']
theorem many_len (n : Nat) (r : List Value) : (many n r).length = n * r.length := by simp [many]
def downL (size k : Nat) : List Int := (List.range k).map fun i => ((size - 1 - i : Nat) : Int)
theorem downL_succ (size k : Nat) : downL size (k + 1) = downL size k ++ [((size - 1 - k : Nat) : Int)] := by simp [downL, List.range_succ]
theorem iV_append (a b : List Int) : iV (a ++ b) = iV a ++ iV b := by simp [iV]
theorem iV_len (a : List Int) : (iV a).length = a.length := by simp [iV]
theorem newTab_ret {size : Nat} {h : Heap} {K : Value → Heap → Prop} (hs : size ≤ 64)
    (hK : ∀ vL vF h', h'.b.get h.n = some (.cells [vL, vF] 129 true) → h.n < h'.n → RowG (h.n + 1) h' 131 vL size (many size place0) → RowG (h.n + 1) h' 3 vF size (iV (downL size size)) → ExtB h.n h h' → K (.pointer (some ⟨h.n, 0, none⟩)) h') : Ret env (.func 27) [.int .i64 size] h K := by
  refine F27 rfl ?_
  repeat' (first | done | with_reducible (first | refine y1 ?_ (by omega) | refine y2 ?_ (by omega) | refine y3 (fun _ => ?_) (fun _ => ?_) | refine y4 ?_ (by omega) (by omega) | refine y5 ?_ (by omega) | refine y6 ?_ (by with_unfolding_all rfl) | refine y7 ?_ (by with_unfolding_all rfl) | refine y8 ?_ (by with_unfolding_all rfl) | refine y9 ?_ (by with_unfolding_all rfl) | refine ya ?_ (by with_unfolding_all rfl)) | (simp -dsimp only [↓cw_ops, ↓cw_seq, ↓cw_block, ↓seqK_normal, ↓getK_same, ↓evK_tmp, ↓evK_int, ↓evK_nilptr, ↓opsW_nil, ↓opsW_d, ↓opW_assign, ↓setAll_cons, ↓setAll_nil, ↓opW_box, ↓box_agg, ↓evp_nil, ↓bd_129, ↓s27_13_w, ↓s27_14_w, ↓r27_15_w, ↓s27_16_w, ↓s27_17_w, ↓r27_18_w, ↓s27_19_w, ↓r27_20_w, ↓s27_21_w]))
  have X0 : ExtB h.n h (newBlk h (.cells [.slice none 0 0, .slice none 0 0] 129 true)) := ExtB.new _ (Nat.le_refl _)
  have g0 : (newBlk h (.cells [.slice none 0 0, .slice none 0 0] 129 true)).b.get h.n = some (.cells [.slice none 0 0, .slice none 0 0] 129 true) := newBlk_same _ _
  have hn0 : (newBlk h (.cells [.slice none 0 0, .slice none 0 0] 129 true)).n = h.n + 1 := rfl
  refine cw_loopI (fun m fr' h' => ∃ k : Nat, k ≤ size ∧ m = size - k ∧ fr'.get 4 = some (.int .i64 k) ∧ h.n < h'.n ∧ ExtB h.n h h' ∧ ∃ vL vF, h'.b.get h.n = some (.cells [vL, vF] 129 true) ∧ RowG (h.n + 1) h' 131 vL k (many k place0) ∧ RowG (h.n + 1) h' 3 vF k (iV (downL size k))) size ?_ (by omega) ?_
  · exact ⟨0, by omega, by omega, by simp [T.get_set], by omega, X0, _, _, g0, .inl ⟨rfl, rfl, rfl⟩, .inl ⟨rfl, rfl, rfl⟩⟩
  rintro m fr2 h' ⟨k, hk, rfl, f4, hn, X, vL, vF, hb, rL, rF⟩ hag
  have e4 := getK_of f4
  have a0 := getK_eq (hag 0 rfl)
  have a3 := getK_eq (hag 3 rfl)
  have w1 : IntKind.wrap .i64 ((size : Int) - 1) = (size : Int) - 1 := wrap_i64 (by omega) (by omega)
  by_cases hlt : k < size
  · have w2 : IntKind.wrap .i64 ((size : Int) - 1 - (k : Int)) = ((size - 1 - k : Nat) : Int) := by rw [wrap_i64 (by omega) (by omega)]; omega
    have c0 := cellAt_blk (off := 0) hn hb rfl
    repeat' (first | done | with_reducible (first | refine y1 ?_ (by omega) | refine y2 ?_ (by omega) | refine y3 (fun _ => ?_) (fun _ => ?_) | refine y4 ?_ (by omega) (by omega) | refine y5 ?_ (by omega) | refine y6 ?_ (by with_unfolding_all rfl) | refine y7 ?_ (by with_unfolding_all rfl) | refine y8 ?_ (by with_unfolding_all rfl) | refine y9 ?_ (by with_unfolding_all rfl) | refine ya ?_ (by with_unfolding_all rfl)) | (simp -dsimp only [↓cw_skip, ↓cw_ops, ↓cw_seq, ↓cw_block, ↓cw_cond, ↓seqK_normal, ↓getK_same, ↓getK_ne, ↓evK_tmp, ↓evK_int, ↓condV_var, ↓opsW_nil, ↓opsW_d, ↓opW_move, ↓opW_bin, ↓bin_lss, ↓ld1_some, ↓fldA_some, ↓evp_nil, ↓evp_cons, ↓opW_nilCheck, ↓fa_129_0, ↓ld_127, ↓bd_131, ↓bsl_127_1, ↓ap_127_127, ↓r27_6_w, ↓s27_7_w, ↓s27_8_w, ↓s27_9_w, ↓r27_10_w, ↓s27_11_w, ↓s27_12_w, onV_some', brK_true, ne_eq, Nat.reduceEqDiff, not_false_eq_true, Nat.add_zero, Addr.add_lit, ↓e4, ↓a0, ↓a3, c0]))
    refine app_row (new := place0) rL (by omega) (many_len _ _) (by omega) rfl rfl (by decide) rfl fun v2 h2 r2 x2 k2 _ => ?_
    have hb2 : h2.b.get h.n = some (.cells [vL, vF] 129 true) := (k2 h.n _ _ _ hn hb (.inl (by decide))).trans hb
    have hn2 := x2.n
    have rF2 := rF.keep hn2 fun j _ hj hg => k2 j _ _ _ hj hg (.inl (by decide))
    rw [← many_succ] at r2
    obtain ⟨i2, rfl, _⟩ := r2.pos (by omega)
    repeat' (first | done | with_reducible (first | refine y1 ?_ (by omega) | refine y2 ?_ (by omega) | refine y3 (fun _ => ?_) (fun _ => ?_) | refine y4 ?_ (by omega) (by omega) | refine y5 ?_ (by omega) | refine y6 ?_ (by with_unfolding_all rfl) | refine y7 ?_ (by with_unfolding_all rfl) | refine y8 ?_ (by with_unfolding_all rfl) | refine y9 ?_ (by with_unfolding_all rfl) | refine ya ?_ (by with_unfolding_all rfl)) | (simp -dsimp only [↓getK_same, ↓getK_ne, ↓evK_tmp, ↓opsW_d, ↓opsW_n, ↓fldA_some, ↓opW_nilCheck, ↓fa_129_0, ↓st_127, ne_eq, Nat.reduceEqDiff, not_false_eq_true, Nat.add_zero, Addr.add_lit]))
    refine st_at (off := 0) (cs' := [.slice (some ⟨i2, 0, none⟩) (k + 1) UNK, vF]) hb2 rfl rfl rfl rfl (by decide) ?_
    have hb3 : ({ h2 with b := h2.b.set h.n (.cells [.slice (some ⟨i2, 0, none⟩) (k + 1) UNK, vF] 129 true) } : Heap).b.get h.n = some (.cells [.slice (some ⟨i2, 0, none⟩) (k + 1) UNK, vF] 129 true) := by simp [T.get_set]
    have X3 : ExtB h.n h { h2 with b := h2.b.set h.n (.cells [.slice (some ⟨i2, 0, none⟩) (k + 1) UNK, vF] 129 true) } := X.trans ((x2.mono (by omega)).trans (ExtB.set _ (Nat.le_refl _)))
    have r3 := r2.set (.cells [.slice (some ⟨i2, 0, none⟩) (k + 1) UNK, vF] 129 true) (Nat.lt_succ_self h.n)
    have rF3 := rF2.set (.cells [.slice (some ⟨i2, 0, none⟩) (k + 1) UNK, vF] 129 true) (Nat.lt_succ_self h.n)
    have hn3 : h.n < ({ h2 with b := h2.b.set h.n (.cells [.slice (some ⟨i2, 0, none⟩) (k + 1) UNK, vF] 129 true) } : Heap).n := by show h.n < h2.n; omega
    generalize ({ h2 with b := h2.b.set h.n (.cells [.slice (some ⟨i2, 0, none⟩) (k + 1) UNK, vF] 129 true) } : Heap) = h3 at hb3 X3 r3 rF3 hn3 ⊢
    have c1 := cellAt_blk (off := 1) hn3 hb3 rfl
    repeat' (first | done | with_reducible (first | refine y1 ?_ (by omega) | refine y2 ?_ (by omega) | refine y3 (fun _ => ?_) (fun _ => ?_) | refine y4 ?_ (by omega) (by omega) | refine y5 ?_ (by omega) | refine y6 ?_ (by with_unfolding_all rfl) | refine y7 ?_ (by with_unfolding_all rfl) | refine y8 ?_ (by with_unfolding_all rfl) | refine y9 ?_ (by with_unfolding_all rfl) | refine ya ?_ (by with_unfolding_all rfl)) | (simp -dsimp only [↓cw_ops, ↓seqK_normal, ↓getK_same, ↓getK_ne, ↓evK_tmp, ↓evK_int, ↓opsW_nil, ↓opsW_d, ↓opW_move, ↓opW_bin, ↓bin_sub, ↓ld1_some, ↓fldA_some, ↓evp_nil, ↓evp_cons, ↓opW_nilCheck, ↓bsl_38_1, ↓fa_129_1, ↓ld_38, ↓ap_38_38, ↓r27_4_w, ↓s27_5_w, onV_some', ne_eq, Nat.reduceEqDiff, Nat.reduceAdd, not_false_eq_true, Addr.add_lit, ↓e4, ↓a0, ↓a3, c1, w1, w2]))
    refine app_row (new := [.int .i64 ((size - 1 - k : Nat) : Int)]) rF3 (by omega) (by rw [iV_len]; simp [downL]) (by omega) rfl rfl (by decide) rfl fun v4 h4 r4 x4 k4 _ => ?_
    have hb4 : h4.b.get h.n = some (.cells [.slice (some ⟨i2, 0, none⟩) (k + 1) UNK, vF] 129 true) := (k4 h.n _ _ _ hn3 hb3 (.inl (by decide))).trans hb3
    have hn4 := x4.n
    have r5 := r3.keep hn4 fun j _ hj hg => k4 j _ _ _ hj hg (.inl (by decide))
    obtain ⟨i4, rfl, _⟩ := r4.pos (by omega)
    repeat' (first | done | with_reducible (first | refine y1 ?_ (by omega) | refine y2 ?_ (by omega) | refine y3 (fun _ => ?_) (fun _ => ?_) | refine y4 ?_ (by omega) (by omega) | refine y5 ?_ (by omega) | refine y6 ?_ (by with_unfolding_all rfl) | refine y7 ?_ (by with_unfolding_all rfl) | refine y8 ?_ (by with_unfolding_all rfl) | refine y9 ?_ (by with_unfolding_all rfl) | refine ya ?_ (by with_unfolding_all rfl)) | (simp -dsimp only [↓getK_same, ↓getK_ne, ↓evK_tmp, ↓opsW_d, ↓opsW_n, ↓fldA_some, ↓opW_nilCheck, ↓fa_129_1, ↓st_38, ne_eq, Nat.reduceEqDiff, Nat.reduceAdd, not_false_eq_true, Addr.add_lit]))
    refine st_at (off := 1) (cs' := [.slice (some ⟨i2, 0, none⟩) (k + 1) UNK, .slice (some ⟨i4, 0, none⟩) (k + 1) UNK]) hb4 rfl rfl rfl rfl (by decide) ?_
    repeat' (first | done | with_reducible (first | refine y1 ?_ (by omega) | refine y2 ?_ (by omega) | refine y3 (fun _ => ?_) (fun _ => ?_) | refine y4 ?_ (by omega) (by omega) | refine y5 ?_ (by omega) | refine y6 ?_ (by with_unfolding_all rfl) | refine y7 ?_ (by with_unfolding_all rfl) | refine y8 ?_ (by with_unfolding_all rfl) | refine y9 ?_ (by with_unfolding_all rfl) | refine ya ?_ (by with_unfolding_all rfl)) | (simp -dsimp only [↓cw_ops, ↓seqK_normal, ↓blockK_normal, ↓loopK_normal, ↓getK_same, ↓getK_ne, ↓evK_tmp, ↓evK_int, ↓opsW_nil, ↓opsW_d, ↓opW_move, ↓opW_assign, ↓opW_bin, ↓bin_add, ↓r27_2_w, ↓s27_3_w, ne_eq, Nat.reduceEqDiff, Nat.reduceAdd, not_false_eq_true, Nat.add_zero, Addr.add_lit, ↓e4]))
    refine ⟨size - (k + 1), by omega, k + 1, by omega, rfl, by simp [T.get_set, wrap_succ (show k ≤ 4611686018427387904 by omega)], by show h.n < h4.n; omega, X3.trans ((x4.mono (by omega)).trans (ExtB.set _ (Nat.le_refl _))), .slice (some ⟨i2, 0, none⟩) (k + 1) UNK, .slice (some ⟨i4, 0, none⟩) (k + 1) UNK, by simp [T.get_set], r5.set _ (Nat.lt_succ_self h.n), ?_⟩
    have r6 := r4.set (.cells [.slice (some ⟨i2, 0, none⟩) (k + 1) UNK, .slice (some ⟨i4, 0, none⟩) (k + 1) UNK] 129 true) (Nat.lt_succ_self h.n)
    rw [downL_succ, iV_append]
    exact r6
  · have e : k = size := by omega
    subst e
    repeat' (first | done | with_reducible (first | refine y1 ?_ (by omega) | refine y2 ?_ (by omega) | refine y3 (fun _ => ?_) (fun _ => ?_) | refine y4 ?_ (by omega) (by omega) | refine y5 ?_ (by omega) | refine y6 ?_ (by with_unfolding_all rfl) | refine y7 ?_ (by with_unfolding_all rfl) | refine y8 ?_ (by with_unfolding_all rfl) | refine y9 ?_ (by with_unfolding_all rfl) | refine ya ?_ (by with_unfolding_all rfl)) | (simp -dsimp only [↓cw_ops, ↓cw_seq, ↓cw_exit, ↓cw_ret, ↓cw_cond, ↓seqK_normal, ↓seqK_exit, ↓blockK_same, ↓loopK_exit, ↓getK_same, ↓getK_ne, ↓evK_tmp, ↓condV_var, ↓opsW_nil, ↓opsW_d, ↓opW_move, ↓opW_assign, ↓opW_bin, ↓bin_lss, ↓resK_one, ↓r27_0_w, ↓s27_1_w, ↓s27_9_w, ↓r27_10_w, ↓s27_11_w, ↓s27_12_w, brK_false, ne_eq, Nat.reduceEqDiff, not_false_eq_true, Bool.false_eq_true,  ↓e4, ↓a0, ↓a3]))
    exact hK _ _ h' hb hn rL rF X
end Go.Proofs.Ytdjnedamphifcaa

namespace Go.Proofs.Ytdjnedamphifcaa
open Go.Ev
set_option maxRecDepth 100000
set_option maxHeartbeats 400000
def ctxRow (i : Nat) : List Value := [.int .u64 1, .bool false, .int .u64 0, .int .u64 0, .slice none 0 0, .int .i64 0, .int .i64 (-1 - (i : Int))]
def ctxL (size : Nat) : List Value := ((List.range size).map ctxRow).flatten
theorem ctxL_succ (k : Nat) : ctxL (k + 1) = ctxL k ++ ctxRow k := by simp [ctxL, List.range_succ]
theorem ctxL_len (k : Nat) : (ctxL k).length = k * 7 := by
  induction k with
  | zero => rfl
  | succ k ih => rw [ctxL_succ, List.length_append, ih, Nat.add_mul]; rfl
theorem newCtx_ret {size : Nat} {most : Int} {h : Heap} {K : Value → Heap → Prop} (hs : size ≤ 64)
    (hK : ∀ vL h', h'.b.get h.n = some (.cells [vL, .int .i64 0, .int .i64 most] 134 true) → h.n < h'.n → RowG (h.n + 1) h' 139 vL size (ctxL size) → ExtB h.n h h' → K (.pointer (some ⟨h.n, 0, none⟩)) h') : Ret env (.func 28) [.int .i64 size, .int .i64 most] h K := by
  refine F28 rfl ?_
  repeat' (first | done | with_reducible (first | refine y1 ?_ (by omega) | refine y2 ?_ (by omega) | refine y3 (fun _ => ?_) (fun _ => ?_) | refine y4 ?_ (by omega) (by omega) | refine y5 ?_ (by omega) | refine y6 ?_ (by with_unfolding_all rfl) | refine y7 ?_ (by with_unfolding_all rfl) | refine y8 ?_ (by with_unfolding_all rfl) | refine y9 ?_ (by with_unfolding_all rfl) | refine ya ?_ (by with_unfolding_all rfl)) | (simp -dsimp only [↓cw_ops, ↓cw_seq, ↓cw_block, ↓seqK_normal, ↓getK_same, ↓getK_ne, ↓evK_tmp, ↓evK_int, ↓evK_nilptr, ↓opsW_nil, ↓opsW_d, ↓opW_move, ↓opW_assign, ↓setAll_cons, ↓setAll_nil, ↓opW_box, ↓box_agg, ↓evp_nil, ↓evp_cons, ↓bd_134, ↓s28_11_w, ↓s28_12_w, ↓r28_13_w, ↓s28_14_w, ↓s28_15_w, ↓r28_16_w, ↓s28_17_w, ↓r28_18_w, ↓s28_19_w, ne_eq, Nat.reduceEqDiff, Nat.reduceAdd, not_false_eq_true]))
  have X0 : ExtB h.n h (newBlk h (.cells [.slice none 0 0, .int .i64 0, .int .i64 most] 134 true)) := ExtB.new _ (Nat.le_refl _)
  have g0 : (newBlk h (.cells [.slice none 0 0, .int .i64 0, .int .i64 most] 134 true)).b.get h.n = some (.cells [.slice none 0 0, .int .i64 0, .int .i64 most] 134 true) := newBlk_same _ _
  have hn0 : (newBlk h (.cells [.slice none 0 0, .int .i64 0, .int .i64 most] 134 true)).n = h.n + 1 := rfl
  refine cw_loopI (fun m fr' h' => ∃ k : Nat, k ≤ size ∧ m = size - k ∧ fr'.get 6 = some (.int .i64 k) ∧ h.n < h'.n ∧ ExtB h.n h h' ∧ ∃ vL, h'.b.get h.n = some (.cells [vL, .int .i64 0, .int .i64 most] 134 true) ∧ RowG (h.n + 1) h' 139 vL k (ctxL k)) size ?_ (by omega) ?_
  · exact ⟨0, by omega, by omega, by simp [T.get_set], Nat.lt_succ_self h.n, X0, _, g0, .inl ⟨rfl, rfl, rfl⟩⟩
  rintro m fr2 h' ⟨k, hk, rfl, f6, hn, X, vL, hb, rL⟩ hag
  have e6 := getK_of f6
  have a0 := getK_eq (hag 0 rfl)
  have a5 := getK_eq (hag 5 rfl)
  by_cases hlt : k < size
  · have w2 : IntKind.wrap .i64 (-1 - (k : Int)) = -1 - (k : Int) := wrap_i64 (by omega) (by omega)
    have c0 := cellAt_blk (off := 0) hn hb rfl
    repeat' (first | done | with_reducible (first | refine y1 ?_ (by omega) | refine y2 ?_ (by omega) | refine y3 (fun _ => ?_) (fun _ => ?_) | refine y4 ?_ (by omega) (by omega) | refine y5 ?_ (by omega) | refine y6 ?_ (by with_unfolding_all rfl) | refine y7 ?_ (by with_unfolding_all rfl) | refine y8 ?_ (by with_unfolding_all rfl) | refine y9 ?_ (by with_unfolding_all rfl) | refine ya ?_ (by with_unfolding_all rfl)) | (simp -dsimp only [↓cw_skip, ↓cw_ops, ↓cw_seq, ↓cw_block, ↓cw_cond, ↓seqK_normal, ↓getK_same, ↓getK_ne, ↓evK_tmp, ↓evK_int, ↓condV_var, ↓opsW_nil, ↓opsW_d, ↓opW_move, ↓opW_bin, ↓bin_sub, ↓bin_lss, ↓ld1_some, ↓fldA_some, ↓evp_nil, ↓evp_cons, ↓opW_nilCheck, ↓fa_134_0, ↓ld_132, ↓bd_139, ↓bsl_132_1, ↓ap_132_132, ↓r28_4_w, ↓s28_5_w, ↓s28_6_w, ↓s28_7_w, ↓r28_8_w, ↓s28_9_w, ↓s28_10_w, onV_some', brK_true, ne_eq, Nat.reduceEqDiff, not_false_eq_true, Nat.one_ne_zero, Nat.add_zero, Addr.add_lit, ↓e6, ↓a0, ↓a5, c0, w2]))
    refine app_row (new := ctxRow k) rL (by omega) (ctxL_len _) (by omega) rfl rfl (by decide) rfl fun v2 h2 r2 x2 k2 _ => ?_
    have hb2 : h2.b.get h.n = some (.cells [vL, .int .i64 0, .int .i64 most] 134 true) := (k2 h.n _ _ _ hn hb (.inl (by decide))).trans hb
    have hn2 := x2.n
    rw [← ctxL_succ] at r2
    obtain ⟨i2, rfl, _⟩ := r2.pos (by omega)
    repeat' (first | done | with_reducible (first | refine y1 ?_ (by omega) | refine y2 ?_ (by omega) | refine y3 (fun _ => ?_) (fun _ => ?_) | refine y4 ?_ (by omega) (by omega) | refine y5 ?_ (by omega) | refine y6 ?_ (by with_unfolding_all rfl) | refine y7 ?_ (by with_unfolding_all rfl) | refine y8 ?_ (by with_unfolding_all rfl) | refine y9 ?_ (by with_unfolding_all rfl) | refine ya ?_ (by with_unfolding_all rfl)) | (simp -dsimp only [↓getK_same, ↓getK_ne, ↓evK_tmp, ↓opsW_d, ↓opsW_n, ↓fldA_some, ↓opW_nilCheck, ↓fa_134_0, ↓st_132, ne_eq, Nat.reduceEqDiff, not_false_eq_true, Nat.add_zero, Addr.add_lit]))
    refine st_at (off := 0) (cs' := [.slice (some ⟨i2, 0, none⟩) (k + 1) UNK, .int .i64 0, .int .i64 most]) hb2 rfl rfl rfl rfl (by decide) ?_
    repeat' (first | done | with_reducible (first | refine y1 ?_ (by omega) | refine y2 ?_ (by omega) | refine y3 (fun _ => ?_) (fun _ => ?_) | refine y4 ?_ (by omega) (by omega) | refine y5 ?_ (by omega) | refine y6 ?_ (by with_unfolding_all rfl) | refine y7 ?_ (by with_unfolding_all rfl) | refine y8 ?_ (by with_unfolding_all rfl) | refine y9 ?_ (by with_unfolding_all rfl) | refine ya ?_ (by with_unfolding_all rfl)) | (simp -dsimp only [↓cw_ops, ↓seqK_normal, ↓blockK_normal, ↓loopK_normal, ↓getK_same, ↓getK_ne, ↓evK_tmp, ↓evK_int, ↓opsW_nil, ↓opsW_d, ↓opW_move, ↓opW_assign, ↓opW_bin, ↓bin_add, ↓r28_2_w, ↓s28_3_w, ne_eq, Nat.reduceEqDiff, not_false_eq_true, Nat.add_zero, Addr.add_lit, ↓e6]))
    exact ⟨size - (k + 1), by omega, k + 1, by omega, rfl, by simp [T.get_set, wrap_succ (show k ≤ 4611686018427387904 by omega)], by show h.n < h2.n; omega, X.trans ((x2.mono (by omega)).trans (ExtB.set _ (Nat.le_refl _))), .slice (some ⟨i2, 0, none⟩) (k + 1) UNK, by simp [T.get_set], r2.set _ (Nat.lt_succ_self h.n)⟩
  · have e : k = size := by omega
    subst e
    repeat' (first | done | with_reducible (first | refine y1 ?_ (by omega) | refine y2 ?_ (by omega) | refine y3 (fun _ => ?_) (fun _ => ?_) | refine y4 ?_ (by omega) (by omega) | refine y5 ?_ (by omega) | refine y6 ?_ (by with_unfolding_all rfl) | refine y7 ?_ (by with_unfolding_all rfl) | refine y8 ?_ (by with_unfolding_all rfl) | refine y9 ?_ (by with_unfolding_all rfl) | refine ya ?_ (by with_unfolding_all rfl)) | (simp -dsimp only [↓cw_ops, ↓cw_seq, ↓cw_exit, ↓cw_ret, ↓cw_cond, ↓seqK_normal, ↓seqK_exit, ↓blockK_same, ↓loopK_exit, ↓getK_same, ↓getK_ne, ↓evK_tmp, ↓condV_var, ↓opsW_nil, ↓opsW_d, ↓opW_move, ↓opW_assign, ↓opW_bin, ↓bin_lss, ↓resK_one, ↓r28_0_w, ↓s28_1_w, ↓s28_7_w, ↓r28_8_w, ↓s28_9_w, ↓s28_10_w, brK_false, ne_eq, Nat.reduceEqDiff, not_false_eq_true, Nat.one_ne_zero, Bool.false_eq_true,  ↓e6, ↓a0, ↓a5]))
    exact hK _ h' hb hn rL X
theorem newSpc_ret {gs slots nodes : Int} {h : Heap} {K : Value → Heap → Prop} (hK : K (.pointer (some ⟨h.n, 0, none⟩)) (newBlk h (.cells [.int .i64 gs, .int .i64 slots, .int .i64 nodes, .slice none 0 0, .int .i64 0] 148 true))) : Ret env (.func 30) [.int .i64 gs, .int .i64 slots, .int .i64 nodes] h K := by
  refine F30 rfl ?_
  repeat' (first | done | with_reducible (first | refine y1 ?_ (by omega) | refine y2 ?_ (by omega) | refine y3 (fun _ => ?_) (fun _ => ?_) | refine y4 ?_ (by omega) (by omega) | refine y5 ?_ (by omega) | refine y6 ?_ (by with_unfolding_all rfl) | refine y7 ?_ (by with_unfolding_all rfl) | refine y8 ?_ (by with_unfolding_all rfl) | refine y9 ?_ (by with_unfolding_all rfl) | refine ya ?_ (by with_unfolding_all rfl)) | (simp -dsimp only [↓cw_ops, ↓cw_seq, ↓cw_ret, ↓seqK_normal, ↓getK_same, ↓getK_ne, ↓evK_tmp, ↓evK_nilptr, ↓opsW_nil, ↓opsW_d, ↓opW_move, ↓opW_assign, ↓resK_one, ↓setAll_cons, ↓setAll_nil, ↓opW_box, ↓box_agg, ↓evp_nil, ↓evp_cons, ↓bd_148, ↓r30_0_w, ↓s30_1_w, ↓r30_2_w, ↓s30_3_w, ne_eq, Nat.reduceEqDiff, Nat.reduceAdd, not_false_eq_true, Nat.one_ne_zero]))
  exact hK
theorem newRing_ret {most : Int} {h : Heap} {K : Value → Heap → Prop} (hK : ∀ k : Blk, K (.pointer (some ⟨h.n, 0, none⟩)) (newBlk h k)) : Ret env (.func 56) [.int .i64 most] h K := by
  refine F56 rfl ?_
  repeat' (first | done | with_reducible (first | refine y1 ?_ (by omega) | refine y2 ?_ (by omega) | refine y3 (fun _ => ?_) (fun _ => ?_) | refine y4 ?_ (by omega) (by omega) | refine y5 ?_ (by omega) | refine y6 ?_ (by with_unfolding_all rfl) | refine y7 ?_ (by with_unfolding_all rfl) | refine y8 ?_ (by with_unfolding_all rfl) | refine y9 ?_ (by with_unfolding_all rfl) | refine ya ?_ (by with_unfolding_all rfl)) | (simp -dsimp only [↓cw_ops, ↓cw_seq, ↓cw_ret, ↓seqK_normal, ↓getK_same, ↓getK_ne, ↓evK_tmp, ↓evK_nilptr, ↓opsW_nil, ↓opsW_d, ↓opW_move, ↓opW_assign, ↓resK_one, ↓setAll_cons, ↓setAll_nil, ↓opW_box, ↓box_agg, ↓evp_nil, ↓evp_cons, ↓bd_177, ↓r56_0_w, ↓s56_1_w, ↓r56_2_w, ↓s56_3_w, ne_eq, Nat.reduceEqDiff, not_false_eq_true]))
  exact hK _
theorem newPlc_ret {ps : Nat} {ring : Int} {h : Heap} {K : Value → Heap → Prop} (hs : ps ≤ 8)
    (hK : ∀ vL h', h'.b.get h.n = some (.cells [.slice none 0 0] 150 true) → h'.b.get (h.n + 1) = some (.cells [vL, .pointer (some ⟨h.n, 0, none⟩)] 106 true) → h.n + 1 < h'.n → ExtB h.n h h' → K (.pointer (some ⟨h.n + 1, 0, none⟩)) h') : Ret env (.func 31) [.int .i64 ps, .int .i64 ring] h K := by
  refine F31 rfl ?_
  repeat' (first | done | with_reducible (first | refine y1 ?_ (by omega) | refine y2 ?_ (by omega) | refine y3 (fun _ => ?_) (fun _ => ?_) | refine y4 ?_ (by omega) (by omega) | refine y5 ?_ (by omega) | refine y6 ?_ (by with_unfolding_all rfl) | refine y7 ?_ (by with_unfolding_all rfl) | refine y8 ?_ (by with_unfolding_all rfl) | refine y9 ?_ (by with_unfolding_all rfl) | refine ya ?_ (by with_unfolding_all rfl)) | (simp -dsimp only [↓cw_ops, ↓cw_seq, ↓cw_block, ↓seqK_normal, ↓getK_same, ↓evK_tmp, ↓evK_int, ↓evK_nilptr, ↓opsW_nil, ↓opsW_d, ↓opW_assign, ↓setAll_cons, ↓setAll_nil, ↓opW_box, ↓box_agg, ↓evp_nil, ↓evp_cons, ↓bd_150, ↓bd_106, ↓s31_11_w, ↓s31_12_w, ↓r31_13_w, ↓s31_14_w, ↓s31_15_w, ↓r31_16_w, ↓s31_17_w, ↓r31_18_w, ↓s31_19_w, newBlk_n, Nat.reduceAdd]))
  have X0 : ExtB h.n h (newBlk (newBlk h (.cells [.slice none 0 0] 150 true)) (.cells [.slice none 0 0, .pointer (some ⟨h.n, 0, none⟩)] 106 true)) := (ExtB.new _ (Nat.le_refl _)).trans (ExtB.new _ (by simp [newBlk]))
  have g0 : (newBlk (newBlk h (.cells [.slice none 0 0] 150 true)) (.cells [.slice none 0 0, .pointer (some ⟨h.n, 0, none⟩)] 106 true)).b.get h.n = some (.cells [.slice none 0 0] 150 true) := by rw [newBlk_old _ (by simp [newBlk]), newBlk_same]
  have g1 : (newBlk (newBlk h (.cells [.slice none 0 0] 150 true)) (.cells [.slice none 0 0, .pointer (some ⟨h.n, 0, none⟩)] 106 true)).b.get (h.n + 1) = some (.cells [.slice none 0 0, .pointer (some ⟨h.n, 0, none⟩)] 106 true) := newBlk_same _ _
  have hn0 : (newBlk (newBlk h (.cells [.slice none 0 0] 150 true)) (.cells [.slice none 0 0, .pointer (some ⟨h.n, 0, none⟩)] 106 true)).n = h.n + 2 := rfl
  refine cw_loopI (fun m fr' h' => ∃ k : Nat, k ≤ ps ∧ m = ps - k ∧ fr'.get 6 = some (.int .i64 k) ∧ h.n + 1 < h'.n ∧ ExtB h.n h h' ∧ h'.b.get h.n = some (.cells [.slice none 0 0] 150 true) ∧ ∃ vL cs, h'.b.get (h.n + 1) = some (.cells [vL, .pointer (some ⟨h.n, 0, none⟩)] 106 true) ∧ cs.length = k * 4 ∧ RowG (h.n + 2) h' 154 vL k cs) ps ?_ (by omega) ?_
  · exact ⟨0, by omega, by omega, by simp [T.get_set], by omega, X0, g0, _, [], g1, rfl, .inl ⟨rfl, rfl, rfl⟩⟩
  rintro m fr2 h' ⟨k, hk, rfl, f6, hn, X, hq, vL, cs, hb, hcs, rL⟩ hag
  have e6 := getK_of f6
  have a0 := getK_eq (hag 0 rfl)
  have a1 := getK_eq (hag 1 rfl)
  have a5 := getK_eq (hag 5 rfl)
  by_cases hlt : k < ps
  · have hsv : (sameV 50 vL vL = true) = True := by
      rcases rL with ⟨rfl, _, _⟩ | ⟨i, rfl, _⟩
      · simp [sameV]
      · simp [sameV]
    have c0 := cellAt_blk (off := 0) hn hb rfl
    repeat' (first | done | with_reducible (first | refine y1 ?_ (by omega) | refine y2 ?_ (by omega) | refine y3 (fun _ => ?_) (fun _ => ?_) | refine y4 ?_ (by omega) (by omega) | refine y5 ?_ (by omega) | refine y6 ?_ (by with_unfolding_all rfl) | refine y7 ?_ (by with_unfolding_all rfl) | refine y8 ?_ (by with_unfolding_all rfl) | refine y9 ?_ (by with_unfolding_all rfl) | refine ya ?_ (by with_unfolding_all rfl)) | (simp -dsimp only [↓cw_skip, ↓cw_ops, ↓cw_plan, ↓cw_seq, ↓cw_block, ↓cw_cond, ↓seqK_normal, ↓getK_same, ↓getK_ne, ↓evK_tmp, ↓condV_var, ↓opsW_nil, ↓opsW_d, ↓planW_d, ↓agK_nil, ↓opW_move, ↓opW_bin, ↓bin_lss, ↓ld1_some, ↓fldA_some, ↓evs_nil, ↓evs_cons, ↓opW_call, ↓opW_nilCheck, ↓fa_106_0, ↓ld_103, ↓p31_4_w, ↓s31_5_w, ↓s31_6_w, ↓s31_7_w, ↓r31_8_w, ↓s31_9_w, ↓s31_10_w, onV_some', brK_true, Nat.le_refl, true_and, ne_eq, Nat.reduceEqDiff, not_false_eq_true, Nat.one_ne_zero, Nat.add_zero, Addr.add_lit, ↓e6, ↓a0, ↓a1, ↓a5, c0]))
    refine newRing_ret fun kb => ?_
    have hb1 : (newBlk h' kb).b.get (h.n + 1) = some (.cells [vL, .pointer (some ⟨h.n, 0, none⟩)] 106 true) := (newBlk_old _ hn).trans hb
    have hq1 : (newBlk h' kb).b.get h.n = some (.cells [.slice none 0 0] 150 true) := (newBlk_old _ (by omega)).trans hq
    have X1 : ExtB h'.n h' (newBlk h' kb) := ExtB.new _ (Nat.le_refl _)
    have rL1 := rL.keep X1.n fun j _ hj _ => X1.get j hj
    have hn1 : (newBlk h' kb).n = h'.n + 1 := rfl
    generalize newBlk h' kb = h1 at hb1 hq1 X1 rL1 hn1 ⊢
    have c1 := cellAt_blk (off := 0) (show h.n + 1 < h1.n by omega) hb1 rfl
    refine ⟨by omega, by repeat' (first | done | with_reducible (first | refine y1 ?_ (by omega) | refine y2 ?_ (by omega) | refine y3 (fun _ => ?_) (fun _ => ?_) | refine y4 ?_ (by omega) (by omega) | refine y5 ?_ (by omega) | refine y6 ?_ (by with_unfolding_all rfl) | refine y7 ?_ (by with_unfolding_all rfl) | refine y8 ?_ (by with_unfolding_all rfl) | refine y9 ?_ (by with_unfolding_all rfl) | refine ya ?_ (by with_unfolding_all rfl)) | (simp -dsimp only [↓getK_same, ↓getK_ne, ↓evK_tmp, ↓agK_nil, ↓ld1_some, ↓agK_load, ↓agV_same, ↓agV_ne, ↓agl_103, onV_some', and_true, ne_eq, Nat.reduceEqDiff, not_false_eq_true, Nat.add_zero, Addr.add_lit, c1, hsv])), ?_⟩
    repeat' (first | done | with_reducible (first | refine y1 ?_ (by omega) | refine y2 ?_ (by omega) | refine y3 (fun _ => ?_) (fun _ => ?_) | refine y4 ?_ (by omega) (by omega) | refine y5 ?_ (by omega) | refine y6 ?_ (by with_unfolding_all rfl) | refine y7 ?_ (by with_unfolding_all rfl) | refine y8 ?_ (by with_unfolding_all rfl) | refine y9 ?_ (by with_unfolding_all rfl) | refine ya ?_ (by with_unfolding_all rfl)) | (simp -dsimp only [↓getK_same, ↓getK_ne, ↓evK_tmp, ↓planW_d, ↓agK_nil, ↓evp_nil, ↓evp_cons, ↓bd_154, ↓bsl_103_1, ↓ap_103_103, newBlk_n, true_and, ne_eq, Nat.reduceEqDiff, not_false_eq_true]))
    refine app_row (new := [.pointer (some ⟨h'.n, 0, none⟩), .slice none 0 0, .int .i64 0, .int .u64 0]) rL1 (by omega) hcs (by omega) rfl rfl (by decide) rfl fun v2 h2 r2 x2 k2 hn2 => ?_
    have hb2 : h2.b.get (h.n + 1) = some (.cells [vL, .pointer (some ⟨h.n, 0, none⟩)] 106 true) := (k2 _ _ _ _ (by omega) hb1 (.inl (by decide))).trans hb1
    have hq2 : h2.b.get h.n = some (.cells [.slice none 0 0] 150 true) := (k2 _ _ _ _ (by omega) hq1 (.inl (by decide))).trans hq1
    obtain ⟨i2, rfl, _⟩ := r2.pos (by omega)
    refine ⟨hn2, by repeat' (first | done | with_reducible (first | refine y1 ?_ (by omega) | refine y2 ?_ (by omega) | refine y3 (fun _ => ?_) (fun _ => ?_) | refine y4 ?_ (by omega) (by omega) | refine y5 ?_ (by omega) | refine y6 ?_ (by with_unfolding_all rfl) | refine y7 ?_ (by with_unfolding_all rfl) | refine y8 ?_ (by with_unfolding_all rfl) | refine y9 ?_ (by with_unfolding_all rfl) | refine ya ?_ (by with_unfolding_all rfl)) | (simp -dsimp only [↓agK_nil])), ?_⟩
    repeat' (first | done | with_reducible (first | refine y1 ?_ (by omega) | refine y2 ?_ (by omega) | refine y3 (fun _ => ?_) (fun _ => ?_) | refine y4 ?_ (by omega) (by omega) | refine y5 ?_ (by omega) | refine y6 ?_ (by with_unfolding_all rfl) | refine y7 ?_ (by with_unfolding_all rfl) | refine y8 ?_ (by with_unfolding_all rfl) | refine y9 ?_ (by with_unfolding_all rfl) | refine ya ?_ (by with_unfolding_all rfl)) | (simp -dsimp only [↓getK_same, ↓getK_ne, ↓evK_tmp, ↓planW_d, ↓planW_n, ↓agK_nil, ↓fldA_some, ↓opW_nilCheck, ↓fa_106_0, ↓st_103, Nat.le_refl, true_and, ne_eq, Nat.reduceEqDiff, not_false_eq_true, Nat.add_zero, Addr.add_lit]))
    refine st_at (off := 0) (cs' := [.slice (some ⟨i2, 0, none⟩) (k + 1) UNK, .pointer (some ⟨h.n, 0, none⟩)]) hb2 rfl rfl rfl rfl (by decide) ?_
    repeat' (first | done | with_reducible (first | refine y1 ?_ (by omega) | refine y2 ?_ (by omega) | refine y3 (fun _ => ?_) (fun _ => ?_) | refine y4 ?_ (by omega) (by omega) | refine y5 ?_ (by omega) | refine y6 ?_ (by with_unfolding_all rfl) | refine y7 ?_ (by with_unfolding_all rfl) | refine y8 ?_ (by with_unfolding_all rfl) | refine y9 ?_ (by with_unfolding_all rfl) | refine ya ?_ (by with_unfolding_all rfl)) | (simp -dsimp only [↓cw_ops, ↓seqK_normal, ↓blockK_normal, ↓loopK_normal, ↓getK_same, ↓getK_ne, ↓evK_tmp, ↓evK_int, ↓opsW_nil, ↓opsW_d, ↓planW_nil, ↓agK_nil, ↓opW_move, ↓opW_assign, ↓opW_bin, ↓bin_add, ↓r31_2_w, ↓s31_3_w, Nat.le_refl, true_and, ne_eq, Nat.reduceEqDiff, not_false_eq_true, Nat.add_zero, Addr.add_lit, ↓e6]))
    exact ⟨ps - (k + 1), by omega, k + 1, by omega, rfl, by simp [T.get_set, wrap_succ (show k ≤ 4611686018427387904 by omega)], by show h.n + 1 < h2.n; omega, X.trans ((X1.mono (by omega)).trans ((x2.mono (by omega)).trans (ExtB.set _ (by omega)))), by rw [← hq2]; exact T.get_set_ne _ _ (by omega), .slice (some ⟨i2, 0, none⟩) (k + 1) UNK, _, by simp [T.get_set], by rw [List.length_append, hcs]; simp; omega, r2.set _ (by omega)⟩
  · have e : k = ps := by omega
    subst e
    repeat' (first | done | with_reducible (first | refine y1 ?_ (by omega) | refine y2 ?_ (by omega) | refine y3 (fun _ => ?_) (fun _ => ?_) | refine y4 ?_ (by omega) (by omega) | refine y5 ?_ (by omega) | refine y6 ?_ (by with_unfolding_all rfl) | refine y7 ?_ (by with_unfolding_all rfl) | refine y8 ?_ (by with_unfolding_all rfl) | refine y9 ?_ (by with_unfolding_all rfl) | refine ya ?_ (by with_unfolding_all rfl)) | (simp -dsimp only [↓cw_ops, ↓cw_seq, ↓cw_exit, ↓cw_ret, ↓cw_cond, ↓seqK_normal, ↓seqK_exit, ↓blockK_same, ↓loopK_exit, ↓getK_same, ↓getK_ne, ↓evK_tmp, ↓condV_var, ↓opsW_nil, ↓opsW_d, ↓opW_move, ↓opW_assign, ↓opW_bin, ↓bin_lss, ↓resK_one, ↓r31_0_w, ↓s31_1_w, ↓s31_7_w, ↓r31_8_w, ↓s31_9_w, ↓s31_10_w, brK_false, ne_eq, Nat.reduceEqDiff, not_false_eq_true, Nat.one_ne_zero, Bool.false_eq_true,  ↓e6, ↓a0, ↓a5]))
    exact hK _ h' hq hb hn X
end Go.Proofs.Ytdjnedamphifcaa

namespace Go.Proofs.Ytdjnedamphifcaa
open Go.Ev
set_option maxRecDepth 100000
set_option maxHeartbeats 400000
theorem mk_140 {fr : Fr} {h : Heap} {K : Value → Heap → Prop} {x y : Operand} : opW env (.makeSlice 140 x y) fr h K = evK env fr x fun a => evK env fr y fun b => mslK 144 [.int .u64 0, .bool false, .int .i64 0, .int .u64 0, .int .u64 0, .int .i64 0, .int .u64 0, .int .i64 0, .int .u64 0] a b h K := opW_makeSlice (by kernel_rfl)
theorem mslK_int {e : TypeId} {zs : List Value} {k k' : IntKind} {l c : Int} {h : Heap} {K : Value → Heap → Prop} : mslK e zs (.int k l) (.int k' c) h K = ((0 ≤ l ∧ l ≤ c ∧ c < 100000) ∧ K (.slice (some ⟨h.n, 0, none⟩) l.toNat c.toNat) (newBlk h (.cells (rep c.toNat zs) e true))) := rfl
def domT : List Value := [.bool false, .int .i64 0, .int .u64 0, .int .u64 0, .int .i64 0, .int .u64 0, .int .i64 0, .int .u64 0]
def dom0 : List Value := .int .u64 0 :: domT
def dom1 : List Value := .int .u64 1 :: domT
theorem rep_many (n : Nat) (r : List Value) : rep n r = many n r := by
  induction n with
  | zero => rfl
  | succ n ih => simp only [rep, ih, many, List.replicate_succ, List.flatten_cons]
theorem many_cons (n : Nat) (r : List Value) : many (n + 1) r = r ++ many n r := by simp [many, List.replicate_succ]
/-- a block, known whole -/
def G (h : Heap) (j : Nat) (cs : List Value) (e : TypeId) (b : Bool) : Prop := j < h.n ∧ h.b.get j = some (.cells cs e b)
theorem G.cell {h : Heap} {j off : Nat} {cs : List Value} {e : TypeId} {b : Bool} {v : Value} (g : G h j cs e b) (hv : cs[off]? = some v) : cellAt h ⟨j, off, none⟩ = some v := cellAt_blk g.1 g.2 hv
theorem G.cells {h : Heap} {j n : Nat} {cs : List Value} {e : TypeId} {b : Bool} (g : G h j cs e b) (hn : cs.length = n) (h0 : n ≠ 0) : cellsAt h ⟨j, 0, none⟩ n = some cs := by
  subst hn
  exact cellsAt_pts cs (by intro he; subst he; exact h0 rfl) fun o v hv => by rw [Nat.zero_add]; exact g.cell hv
theorem G.part {h : Heap} {j off : Nat} {cs l : List Value} {e : TypeId} {b : Bool} (g : G h j cs e b) (hl : l ≠ []) (hp : ∀ o v, l[o]? = some v → cs[off + o]? = some v) : cellsAt h ⟨j, off, none⟩ l.length = some l :=
  cellsAt_pts l hl fun o v hv => g.cell (hp o v hv)
theorem G.new (h : Heap) (cs : List Value) (e : TypeId) (b : Bool) : G (newBlk h (.cells cs e b)) h.n cs e b := ⟨by simp [newBlk], newBlk_same _ _⟩
theorem G.old {h : Heap} {j : Nat} {cs : List Value} {e : TypeId} {b : Bool} (g : G h j cs e b) (k : Blk) : G (newBlk h k) j cs e b := ⟨Nat.lt_succ_of_lt g.1, (newBlk_old _ g.1).trans g.2⟩
theorem G.same {h h' : Heap} {j : Nat} {cs : List Value} {e : TypeId} {b : Bool} (g : G h j cs e b) (hn : h.n ≤ h'.n) (hg : h'.b.get j = h.b.get j) : G h' j cs e b := ⟨by have := g.1; omega, hg.trans g.2⟩
theorem G.ext {B : Nat} {h h' : Heap} {j : Nat} {cs : List Value} {e : TypeId} {b : Bool} (g : G h j cs e b) (x : ExtB B h h') (hj : j < B) : G h' j cs e b := g.same x.n (x.get j hj)
theorem G.ne {h : Heap} {i j : Nat} {cs cs' : List Value} {e e' : TypeId} {b b' : Bool} (g : G h i cs e b) (g' : G h j cs' e' b') (hd : e ≠ e' ∨ b ≠ b') : i ≠ j := by
  rintro rfl
  have h1 := g.2.symm.trans g'.2
  simp only [Option.some.injEq, Blk.cells.injEq] at h1
  rcases hd with hd | hd
  · exact hd h1.2.1
  · exact hd h1.2.2
theorem G.keep {h h' : Heap} {j : Nat} {cs : List Value} {e e' : TypeId} {b : Bool} (g : G h j cs e' b) (k : Keeps e h h') (hn : h.n ≤ h'.n) (hd : e' ≠ e ∨ b = true) : G h' j cs e' b := g.same hn (k j _ _ _ g.1 g.2 hd)
theorem st_G {n i off : Nat} {cs cs' l : List Value} {e : TypeId} {b : Bool} {v : Value} {h : Heap} {K : Value → Heap → Prop} (g : G h i cs e b) (hv : v.cells.toList = l) (hl : l.length = n) (ho : over cs off l = some cs') (h1 : l.all oneCell = true) (hn : n ≠ 0)
    (q : ∀ h', h'.n = h.n → G h' i cs' e b → (∀ j, j ≠ i → h'.b.get j = h.b.get j) → K undef h') : stK n (.pointer (some ⟨i, off, none⟩)) v h K :=
  st_at g.2 hv hl ho h1 hn (q _ rfl ⟨g.1, by simp [T.get_set]⟩ fun j hj => T.get_set_ne _ _ (Ne.symm hj))
theorem over_head (new b c : List Value) (h : b.length = new.length) : over (b ++ c) 0 new = some (new ++ c) := by
  have := over_mid new [] b c h
  simpa using this
theorem put_ret {db sb bf size : Nat} {rest : List Value} {gs cpu period : Int} {h : Heap} {K : Value → Heap → Prop} (h1 : 1 ≤ size) (h64 : size ≤ 64)
    (gd : G h db [.slice (some ⟨sb, 0, none⟩) size size, .slice (some ⟨bf, 0, none⟩) size UNK] 142 true) (gS : G h sb (dom1 ++ rest) 144 true) (gF : G h bf (iV (downL size size)) 3 false)
    (hK : ∀ v h', G h' db [.slice (some ⟨sb, 0, none⟩) size size, .slice (some ⟨bf, 0, none⟩) (size - 1) UNK] 142 true → G h' sb ([.int .u64 1, .bool true, .int .i64 gs, .int .u64 cpu, .int .u64 period, .int .i64 0, .int .u64 0, .int .i64 0, .int .u64 0] ++ rest) 144 true → h.n ≤ h'.n → (∀ j, j < h.n → j ≠ db → j ≠ sb → h'.b.get j = h.b.get j) → K v h') :
    Ret env (.func 55) [.pointer (some ⟨db, 0, none⟩), .agg ⟨[.int .u64 0, .bool false, .int .i64 gs, .int .u64 cpu, .int .u64 period, .int .i64 0, .int .u64 0, .int .i64 0, .int .u64 0]⟩] h K := by
  have n1 := gd.ne gS (.inl (by decide))
  have n2 := gd.ne gF (.inl (by decide))
  have n3 := gS.ne gF (.inl (by decide))
  refine F55 rfl ?_
  repeat' (first | done | with_reducible (first | refine y1 ?_ (by omega) | refine y2 ?_ (by omega) | refine y3 (fun _ => ?_) (fun _ => ?_) | refine y4 ?_ (by omega) (by omega) | refine y5 ?_ (by omega) | refine y6 ?_ (by with_unfolding_all rfl) | refine y7 ?_ (by with_unfolding_all rfl) | refine y8 ?_ (by with_unfolding_all rfl) | refine y9 ?_ (by with_unfolding_all rfl) | refine ya ?_ (by with_unfolding_all rfl)) | (simp -dsimp only [↓cw_ops, ↓cw_seq, ↓seqK_normal, ↓getK_same, ↓evK_tmp, ↓opsW_nil, ↓opsW_d, ↓setAll_cons, ↓setAll_nil, ↓opW_box, ↓box_agg, ↓al_59, ↓r55_14_w, ↓s55_15_w, newBlk_n, Nat.reduceAdd]))
  have q1 := (gd.old (.cells [.int .u64 0, .bool false, .int .i64 gs, .int .u64 cpu, .int .u64 period, .int .i64 0, .int .u64 0, .int .i64 0, .int .u64 0] 144 true)).old (.cells [.int .i64 0, .int .u64 0] 59 true)
  have q2 := (gS.old (.cells [.int .u64 0, .bool false, .int .i64 gs, .int .u64 cpu, .int .u64 period, .int .i64 0, .int .u64 0, .int .i64 0, .int .u64 0] 144 true)).old (.cells [.int .i64 0, .int .u64 0] 59 true)
  have q3 := (gF.old (.cells [.int .u64 0, .bool false, .int .i64 gs, .int .u64 cpu, .int .u64 period, .int .i64 0, .int .u64 0, .int .i64 0, .int .u64 0] 144 true)).old (.cells [.int .i64 0, .int .u64 0] 59 true)
  have q4 := (G.new h [.int .u64 0, .bool false, .int .i64 gs, .int .u64 cpu, .int .u64 period, .int .i64 0, .int .u64 0, .int .i64 0, .int .u64 0] 144 true).old (.cells [.int .i64 0, .int .u64 0] 59 true)
  have q5 := G.new (newBlk h (.cells [.int .u64 0, .bool false, .int .i64 gs, .int .u64 cpu, .int .u64 period, .int .i64 0, .int .u64 0, .int .i64 0, .int .u64 0] 144 true)) [.int .i64 0, .int .u64 0] 59 true
  have X : ExtB h.n h (newBlk (newBlk h (.cells [.int .u64 0, .bool false, .int .i64 gs, .int .u64 cpu, .int .u64 period, .int .i64 0, .int .u64 0, .int .i64 0, .int .u64 0] 144 true)) (.cells [.int .i64 0, .int .u64 0] 59 true)) := (ExtB.new _ (Nat.le_refl _)).trans (ExtB.new _ (by simp [newBlk]))
  rw [newBlk_n] at q5
  have hd := gd.1
  have hs := gS.1
  have hf := gF.1
  generalize newBlk (newBlk h (.cells [.int .u64 0, .bool false, .int .i64 gs, .int .u64 cpu, .int .u64 period, .int .i64 0, .int .u64 0, .int .i64 0, .int .u64 0] 144 true)) (.cells [.int .i64 0, .int .u64 0] 59 true) = h2 at q1 q2 q3 q4 q5 X ⊢
  have c0 := q1.cell (off := 0) rfl
  have c1 := q1.cell (off := 1) rfl
  have cF : cellAt h2 ⟨bf, 0 + (size - 1) * 1, none⟩ = some (.int .i64 0) := by
    refine q3.cell ?_
    rw [Nat.zero_add, Nat.mul_one, iV_get (by simp [downL]; omega)]
    simp [downL, show size - 1 < size by omega]
  have w1 : IntKind.wrap .i64 ((size : Int) - 1) = ((size - 1 : Nat) : Int) := by rw [wrap_i64 (by omega) (by omega)]; omega
  repeat' (first | done | with_reducible (first | refine y1 ?_ (by omega) | refine y2 ?_ (by omega) | refine y3 (fun _ => ?_) (fun _ => ?_) | refine y4 ?_ (by omega) (by omega) | refine y5 ?_ (by omega) | refine y6 ?_ (by with_unfolding_all rfl) | refine y7 ?_ (by with_unfolding_all rfl) | refine y8 ?_ (by with_unfolding_all rfl) | refine y9 ?_ (by with_unfolding_all rfl) | refine ya ?_ (by with_unfolding_all rfl)) | (simp -dsimp only [↓cw_ops, ↓cw_seq, ↓seqK_normal, ↓getK_same, ↓getK_ne, ↓evK_tmp, ↓evK_int, ↓opsW_nil, ↓opsW_d, ↓opW_move, ↓opW_assign, ↓opW_bin, ↓bin_sub, ↓ld1_some, ↓fldA_some, ↓idxS_some, ↓lenS_some, ↓opW_nilCheck, ↓opW_slice, ↓evo_none, ↓evo_some, ↓ld_3, ↓ld_38, ↓fa_142_1, ↓len_38, ↓ia_38, ↓r55_8_w, ↓s55_9_w, ↓r55_10_w, ↓s55_11_w, ↓r55_12_w, ↓s55_13_w, onV_some', ne_eq, Nat.reduceEqDiff, Nat.reduceAdd, not_false_eq_true, Nat.one_ne_zero, Addr.add_lit, Int.toNat_natCast, c1, cF, w1]))
  refine slice_to slz_38 (by decide) (by omega) (by omega) ?_
  repeat' (first | done | with_reducible (first | refine y1 ?_ (by omega) | refine y2 ?_ (by omega) | refine y3 (fun _ => ?_) (fun _ => ?_) | refine y4 ?_ (by omega) (by omega) | refine y5 ?_ (by omega) | refine y6 ?_ (by with_unfolding_all rfl) | refine y7 ?_ (by with_unfolding_all rfl) | refine y8 ?_ (by with_unfolding_all rfl) | refine y9 ?_ (by with_unfolding_all rfl) | refine ya ?_ (by with_unfolding_all rfl)) | (simp -dsimp only [↓getK_same, ↓getK_ne, ↓evK_tmp, ↓opsW_d, ↓opsW_n, ↓fldA_some, ↓opW_nilCheck, ↓st_38, ↓fa_142_1, ne_eq, Nat.reduceEqDiff, Nat.reduceAdd, not_false_eq_true, Addr.add_lit, Int.toNat_natCast]))
  refine st_G (off := 1) (cs' := [.slice (some ⟨sb, 0, none⟩) size size, .slice (some ⟨bf, 0, none⟩) (size - 1) UNK]) q1 rfl rfl rfl rfl (by decide) fun h3 e3 p1 f3 => ?_
  have p2 := q2.same (by omega) (f3 sb (by omega))
  have p4 := q4.same (by omega) (f3 h.n (by omega))
  have p5 := q5.same (by omega) (f3 (h.n + 1) (by omega))
  have c0 := p1.cell (off := 0) rfl
  have cS := p2.cell (off := 0) rfl
  repeat' (first | done | with_reducible (first | refine y1 ?_ (by omega) | refine y2 ?_ (by omega) | refine y3 (fun _ => ?_) (fun _ => ?_) | refine y4 ?_ (by omega) (by omega) | refine y5 ?_ (by omega) | refine y6 ?_ (by with_unfolding_all rfl) | refine y7 ?_ (by with_unfolding_all rfl) | refine y8 ?_ (by with_unfolding_all rfl) | refine y9 ?_ (by with_unfolding_all rfl) | refine ya ?_ (by with_unfolding_all rfl)) | (simp -dsimp only [↓cw_ops, ↓cw_seq, ↓seqK_normal, ↓getK_same, ↓getK_ne, ↓evK_tmp, ↓opsW_nil, ↓opsW_d, ↓opsW_n, ↓opW_move, ↓ld1_some, ↓fldA_some, ↓idxS_some, ↓opW_nilCheck, ↓ld_22, ↓fa_142_0, ↓ld_140, ↓ia_140, ↓fa_144_0, ↓st_22, ↓r55_6_w, ↓s55_7_w, onV_some', ne_eq, Nat.reduceEqDiff, not_false_eq_true, Nat.one_ne_zero, Nat.add_zero, Addr.add_lit, Int.toNat_zero, Nat.zero_mul, c0, cS]))
  refine st_G (off := 0) (cs' := [.int .u64 1, .bool false, .int .i64 gs, .int .u64 cpu, .int .u64 period, .int .i64 0, .int .u64 0, .int .i64 0, .int .u64 0]) p4 rfl rfl rfl rfl (by decide) fun h4 e4 r4 f4 => ?_
  have r1 := p1.same (by omega) (f4 db (by omega))
  have r2 := p2.same (by omega) (f4 sb (by omega))
  have r5 := p5.same (by omega) (f4 (h.n + 1) (by omega))
  repeat' (first | done | with_reducible (first | refine y1 ?_ (by omega) | refine y2 ?_ (by omega) | refine y3 (fun _ => ?_) (fun _ => ?_) | refine y4 ?_ (by omega) (by omega) | refine y5 ?_ (by omega) | refine y6 ?_ (by with_unfolding_all rfl) | refine y7 ?_ (by with_unfolding_all rfl) | refine y8 ?_ (by with_unfolding_all rfl) | refine y9 ?_ (by with_unfolding_all rfl) | refine ya ?_ (by with_unfolding_all rfl)) | (simp -dsimp only [↓cw_ops, ↓cw_seq, ↓seqK_normal, ↓getK_same, ↓getK_ne, ↓evK_tmp, ↓evK_bool, ↓opsW_nil, ↓opsW_d, ↓opsW_n, ↓fldA_some, ↓st_4, ↓fa_144_1, ↓r55_4_w, ↓s55_5_w, ne_eq, Nat.reduceEqDiff, Nat.reduceAdd, not_false_eq_true, Addr.add_lit]))
  refine st_G (off := 1) (cs' := [.int .u64 1, .bool true, .int .i64 gs, .int .u64 cpu, .int .u64 period, .int .i64 0, .int .u64 0, .int .i64 0, .int .u64 0]) r4 rfl rfl rfl rfl (by decide) fun h5 e5 s4 f5 => ?_
  have s1 := r1.same (by omega) (f5 db (by omega))
  have s2 := r2.same (by omega) (f5 sb (by omega))
  have s5 := r5.same (by omega) (f5 (h.n + 1) (by omega))
  have c0 := s1.cell (off := 0) rfl
  have cX := s4.cells (n := 9) rfl (by decide)
  have sxx : (sameV 50 (.agg ⟨[.int .u64 1, .bool true, .int .i64 gs, .int .u64 cpu, .int .u64 period, .int .i64 0, .int .u64 0, .int .i64 0, .int .u64 0]⟩) (.agg ⟨[.int .u64 1, .bool true, .int .i64 gs, .int .u64 cpu, .int .u64 period, .int .i64 0, .int .u64 0, .int .i64 0, .int .u64 0]⟩) = true) = True := by simp [sameV, sameV.go]
  repeat' (first | done | with_reducible (first | refine y1 ?_ (by omega) | refine y2 ?_ (by omega) | refine y3 (fun _ => ?_) (fun _ => ?_) | refine y4 ?_ (by omega) (by omega) | refine y5 ?_ (by omega) | refine y6 ?_ (by with_unfolding_all rfl) | refine y7 ?_ (by with_unfolding_all rfl) | refine y8 ?_ (by with_unfolding_all rfl) | refine y9 ?_ (by with_unfolding_all rfl) | refine ya ?_ (by with_unfolding_all rfl)) | (simp -dsimp only [↓cw_plan, ↓cw_seq, ↓seqK_normal, ↓getK_same, ↓getK_ne, ↓evK_tmp, ↓opsW_nil, ↓planW_d, ↓planW_n, ↓agK_nil, ↓opW_move, ↓ld1_some, ↓ldN_some, ↓fldA_some, ↓idxS_some, ↓opW_nilCheck, ↓fa_142_0, ↓ld_140, ↓ia_140, ↓ld_144, ↓st_144, ↓p55_2_w, ↓s55_3_w, onV_some', Nat.le_refl, true_and, ne_eq, Nat.reduceEqDiff, not_false_eq_true, Nat.one_ne_zero, Nat.add_zero, Addr.add_lit, Int.toNat_zero, Nat.zero_mul, c0, cX]))
  refine st_G (off := 0) (l := [.int .u64 1, .bool true, .int .i64 gs, .int .u64 cpu, .int .u64 period, .int .i64 0, .int .u64 0, .int .i64 0, .int .u64 0]) (cs' := [.int .u64 1, .bool true, .int .i64 gs, .int .u64 cpu, .int .u64 period, .int .i64 0, .int .u64 0, .int .i64 0, .int .u64 0] ++ rest) s2 rfl rfl (over_head [.int .u64 1, .bool true, .int .i64 gs, .int .u64 cpu, .int .u64 period, .int .i64 0, .int .u64 0, .int .i64 0, .int .u64 0] dom1 rest rfl) rfl (by decide) fun h6 e6 t2 f6 => ?_
  have t1 := s1.same (by omega) (f6 db (by omega))
  have t4 := s4.same (by omega) (f6 h.n (by omega))
  have t5 := s5.same (by omega) (f6 (h.n + 1) (by omega))
  have cx := t4.cell (off := 0) rfl
  refine ⟨by omega, by repeat' (first | done | with_reducible (first | refine y1 ?_ (by omega) | refine y2 ?_ (by omega) | refine y3 (fun _ => ?_) (fun _ => ?_) | refine y4 ?_ (by omega) (by omega) | refine y5 ?_ (by omega) | refine y6 ?_ (by with_unfolding_all rfl) | refine y7 ?_ (by with_unfolding_all rfl) | refine y8 ?_ (by with_unfolding_all rfl) | refine y9 ?_ (by with_unfolding_all rfl) | refine ya ?_ (by with_unfolding_all rfl)) | (simp -dsimp only [↓agK_nil])), ?_⟩
  repeat' (first | done | with_reducible (first | refine y1 ?_ (by omega) | refine y2 ?_ (by omega) | refine y3 (fun _ => ?_) (fun _ => ?_) | refine y4 ?_ (by omega) (by omega) | refine y5 ?_ (by omega) | refine y6 ?_ (by with_unfolding_all rfl) | refine y7 ?_ (by with_unfolding_all rfl) | refine y8 ?_ (by with_unfolding_all rfl) | refine y9 ?_ (by with_unfolding_all rfl) | refine ya ?_ (by with_unfolding_all rfl)) | (simp -dsimp only [↓cw_ops, ↓cw_seq, ↓seqK_normal, ↓getK_same, ↓getK_ne, ↓evK_tmp, ↓opsW_d, ↓opsW_n, ↓planW_nil, ↓opW_move, ↓ld1_some, ↓fldA_some, ↓evp_nil, ↓evp_cons, ↓ld_22, ↓bd_59, ↓st_59, ↓fa_144_0, ↓r55_0_w, ↓s55_1_w, onV_some', ne_eq, Nat.reduceEqDiff, not_false_eq_true, Nat.add_zero, Addr.add_lit, cx]))
  refine st_G (off := 0) (cs' := [.int .i64 0, .int .u64 1]) t5 rfl rfl rfl rfl (by decide) fun h7 e7 u5 f7 => ?_
  have u1 := t1.same (by omega) (f7 db (by omega))
  have u2 := t2.same (by omega) (f7 sb (by omega))
  have cr := u5.cells (n := 2) rfl (by decide)
  have XF : ∀ j, j < h.n → j ≠ db → j ≠ sb → h7.b.get j = h.b.get j := fun j hj j1 j2 => by
    rw [f7 j (by omega), f6 j (by omega), f5 j (by omega), f4 j (by omega), f3 j (by omega), X.get j hj]
  have XN := X.n
  repeat' (first | done | with_reducible (first | refine y1 ?_ (by omega) | refine y2 ?_ (by omega) | refine y3 (fun _ => ?_) (fun _ => ?_) | refine y4 ?_ (by omega) (by omega) | refine y5 ?_ (by omega) | refine y6 ?_ (by with_unfolding_all rfl) | refine y7 ?_ (by with_unfolding_all rfl) | refine y8 ?_ (by with_unfolding_all rfl) | refine y9 ?_ (by with_unfolding_all rfl) | refine ya ?_ (by with_unfolding_all rfl)) | (simp -dsimp only [↓cw_ret, ↓seqK_normal, ↓getK_same, ↓getK_ne, ↓opsW_nil, ↓ldN_some, ↓resK_cellR, ↓agl_59, onV_some', ne_eq, Nat.reduceEqDiff, not_false_eq_true, cr]))
  exact hK _ h7 u1 u2 (by omega) XF
end Go.Proofs.Ytdjnedamphifcaa

namespace Go.Proofs.Ytdjnedamphifcaa
open Go.Ev
set_option maxRecDepth 100000
set_option maxHeartbeats 400000
theorem RowG.g {B : Nat} {h : Heap} {e : TypeId} {v : Value} {n : Nat} {cs : List Value} (r : RowG B h e v n cs) (hn : n ≠ 0) : ∃ i, v = .slice (some ⟨i, 0, none⟩) n UNK ∧ B ≤ i ∧ G h i cs e false := by
  obtain ⟨i, h1, h2, h3, h4⟩ := r.pos hn
  exact ⟨i, h1, h2, h3, h4⟩
theorem newDom_ret {size : Nat} {gs cpu period : Int} {h : Heap} {K : Value → Heap → Prop} (h1 : 1 ≤ size) (h64 : size ≤ 64)
    (hK : ∀ vF h', G h' (h.n + 1) [.slice (some ⟨h.n, 0, none⟩) size size, vF] 142 true → G h' h.n ([.int .u64 1, .bool true, .int .i64 gs, .int .u64 cpu, .int .u64 period, .int .i64 0, .int .u64 0, .int .i64 0, .int .u64 0] ++ many (size - 1) dom1) 144 true → ExtB h.n h h' → K (.pointer (some ⟨h.n + 1, 0, none⟩)) h') :
    Ret env (.func 29) [.int .i64 size, .int .i64 gs, .int .u64 cpu, .int .u64 period] h K := by
  refine F29 rfl ?_
  repeat' (first | done | with_reducible (first | refine y1 ?_ (by omega) | refine y2 ?_ (by omega) | refine y3 (fun _ => ?_) (fun _ => ?_) | refine y4 ?_ (by omega) (by omega) | refine y5 ?_ (by omega) | refine y6 ?_ (by with_unfolding_all rfl) | refine y7 ?_ (by with_unfolding_all rfl) | refine y8 ?_ (by with_unfolding_all rfl) | refine y9 ?_ (by with_unfolding_all rfl) | refine ya ?_ (by with_unfolding_all rfl)) | (simp -dsimp only [↓cw_ops, ↓cw_seq, ↓cw_block, ↓seqK_normal, ↓getK_same, ↓getK_ne, ↓evK_tmp, ↓evK_int, ↓evK_nilptr, ↓opsW_nil, ↓opsW_d, ↓opW_move, ↓opW_assign, ↓setAll_cons, ↓setAll_nil, ↓opW_box, ↓box_agg, ↓evp_nil, ↓evp_cons, ↓bd_142, ↓s29_15_w, ↓s29_16_w, ↓r29_17_w, ↓s29_18_w, ↓s29_19_w, ↓r29_20_w, ↓s29_21_w, ↓r29_22_w, ↓s29_23_w, newBlk_n, ne_eq, Nat.reduceEqDiff, Nat.reduceAdd, not_false_eq_true, Nat.one_ne_zero, Int.toNat_natCast, ↓mk_140, ↓mslK_int]))
  have X0 : ExtB h.n h (newBlk (newBlk h (.cells (rep size dom0) 144 true)) (.cells [.slice (some ⟨h.n, 0, none⟩) size size, .slice none 0 0] 142 true)) := (ExtB.new _ (Nat.le_refl _)).trans (ExtB.new _ (by simp [newBlk]))
  have q1 := (G.new h (rep size dom0) 144 true).old (.cells [.slice (some ⟨h.n, 0, none⟩) size size, .slice none 0 0] 142 true)
  have q2 := G.new (newBlk h (.cells (rep size dom0) 144 true)) [.slice (some ⟨h.n, 0, none⟩) size size, .slice none 0 0] 142 true
  rw [newBlk_n] at q2
  have q1' : ∀ H, G H h.n (rep size dom0) 144 true → G H h.n (many 0 dom1 ++ many (size - 0) dom0) 144 true := fun H hq => by rw [rep_many] at hq; exact hq
  refine cw_loopI (fun m fr' h' => ∃ k : Nat, k ≤ size ∧ m = size - k ∧ fr'.get 10 = some (.int .i64 k) ∧ ExtB h.n h h' ∧ G h' h.n (many k dom1 ++ many (size - k) dom0) 144 true ∧ ∃ vF, G h' (h.n + 1) [.slice (some ⟨h.n, 0, none⟩) size size, vF] 142 true ∧ RowG (h.n + 2) h' 3 vF k (iV (downL size k))) size ?_ (by omega) ?_
  · exact ⟨0, by omega, by omega, by simp [T.get_set], X0, q1' _ q1, _, q2, .inl ⟨rfl, rfl, rfl⟩⟩
  rintro m fr2 h' ⟨k, hk, rfl, f10, X, gS, vF, gd, rF⟩ hag
  have e10 := getK_of f10
  have a0 := getK_eq (hag 0 rfl)
  have a1 := getK_eq (hag 1 rfl)
  have a2 := getK_eq (hag 2 rfl)
  have a3 := getK_eq (hag 3 rfl)
  have a9 := getK_eq (hag 9 rfl)
  have c0 := gd.cell (off := 0) rfl
  by_cases hlt : k < size
  · have w1 : IntKind.wrap .i64 ((size : Int) - 1) = (size : Int) - 1 := wrap_i64 (by omega) (by omega)
    have w2 : IntKind.wrap .i64 ((size : Int) - 1 - (k : Int)) = ((size - 1 - k : Nat) : Int) := by rw [wrap_i64 (by omega) (by omega)]; omega
    have hh := gd.1
    repeat' (first | done | with_reducible (first | refine y1 ?_ (by omega) | refine y2 ?_ (by omega) | refine y3 (fun _ => ?_) (fun _ => ?_) | refine y4 ?_ (by omega) (by omega) | refine y5 ?_ (by omega) | refine y6 ?_ (by with_unfolding_all rfl) | refine y7 ?_ (by with_unfolding_all rfl) | refine y8 ?_ (by with_unfolding_all rfl) | refine y9 ?_ (by with_unfolding_all rfl) | refine ya ?_ (by with_unfolding_all rfl)) | (simp -dsimp only [↓cw_skip, ↓cw_ops, ↓cw_seq, ↓cw_block, ↓cw_cond, ↓seqK_normal, ↓getK_same, ↓getK_ne, ↓evK_tmp, ↓evK_int, ↓condV_var, ↓opsW_nil, ↓opsW_d, ↓opsW_n, ↓opW_move, ↓opW_bin, ↓bin_lss, ↓ld1_some, ↓fldA_some, ↓idxS_some, ↓opW_nilCheck, ↓fa_142_0, ↓ld_140, ↓ia_140, ↓fa_144_0, ↓st_22, ↓r29_8_w, ↓s29_9_w, ↓s29_10_w, ↓s29_11_w, ↓r29_12_w, ↓s29_13_w, ↓s29_14_w, onV_some', brK_true, ne_eq, Nat.reduceEqDiff, not_false_eq_true, Nat.one_ne_zero, Nat.add_zero, Addr.add_lit, Int.toNat_natCast, ↓e10, ↓a0, ↓a9, c0, Nat.zero_add]))
    have ho : over (many k dom1 ++ many (size - k) dom0) (k * 9) [.int .u64 1] = some (many (k + 1) dom1 ++ many (size - (k + 1)) dom0) := by
      have h9 : (many k dom1).length = k * 9 := many_len _ _
      obtain ⟨s, hs⟩ : ∃ s, size - k = s + 1 := ⟨size - k - 1, by omega⟩
      have := over_mid [.int .u64 1] (many k dom1) [.int .u64 0] (domT ++ many s dom0) rfl
      rw [h9] at this
      rw [hs, many_cons, many_succ, show size - (k + 1) = s by omega, List.append_assoc]
      exact this
    refine st_G (off := k * 9) (l := [.int .u64 1]) gS rfl rfl ho rfl (by decide) fun h2 e2 p1 f2 => ?_
    have p2 := gd.same (by omega) (f2 (h.n + 1) (by omega))
    have pF := rF.keep (show h'.n ≤ h2.n by omega) fun j hj _ _ => f2 j (by omega)
    have c1 := p2.cell (off := 1) rfl
    have hd2 := p2.1
    repeat' (first | done | with_reducible (first | refine y1 ?_ (by omega) | refine y2 ?_ (by omega) | refine y3 (fun _ => ?_) (fun _ => ?_) | refine y4 ?_ (by omega) (by omega) | refine y5 ?_ (by omega) | refine y6 ?_ (by with_unfolding_all rfl) | refine y7 ?_ (by with_unfolding_all rfl) | refine y8 ?_ (by with_unfolding_all rfl) | refine y9 ?_ (by with_unfolding_all rfl) | refine ya ?_ (by with_unfolding_all rfl)) | (simp -dsimp only [↓cw_ops, ↓seqK_normal, ↓getK_same, ↓getK_ne, ↓evK_tmp, ↓evK_int, ↓opsW_nil, ↓opsW_d, ↓opW_move, ↓opW_bin, ↓bin_sub, ↓ld1_some, ↓fldA_some, ↓evp_nil, ↓evp_cons, ↓opW_nilCheck, ↓bsl_38_1, ↓ld_38, ↓ap_38_38, ↓fa_142_1, ↓r29_6_w, ↓s29_7_w, onV_some', ne_eq, Nat.reduceEqDiff, Nat.reduceAdd, not_false_eq_true, Nat.one_ne_zero, Addr.add_lit, ↓e10, ↓a0, ↓a9, c1, w1, w2]))
    refine app_row (new := [.int .i64 ((size - 1 - k : Nat) : Int)]) pF (by omega) (by rw [iV_len]; simp [downL]) (by omega) rfl rfl (by decide) rfl fun v4 h4 r4 x4 k4 _ => ?_
    have s1 := p1.keep k4 x4.n (.inl (by decide))
    have s2 := p2.keep k4 x4.n (.inl (by decide))
    have hn4 := x4.n
    obtain ⟨i4, rfl, _⟩ := r4.pos (by omega)
    repeat' (first | done | with_reducible (first | refine y1 ?_ (by omega) | refine y2 ?_ (by omega) | refine y3 (fun _ => ?_) (fun _ => ?_) | refine y4 ?_ (by omega) (by omega) | refine y5 ?_ (by omega) | refine y6 ?_ (by with_unfolding_all rfl) | refine y7 ?_ (by with_unfolding_all rfl) | refine y8 ?_ (by with_unfolding_all rfl) | refine y9 ?_ (by with_unfolding_all rfl) | refine ya ?_ (by with_unfolding_all rfl)) | (simp -dsimp only [↓getK_same, ↓getK_ne, ↓evK_tmp, ↓opsW_d, ↓opsW_n, ↓fldA_some, ↓opW_nilCheck, ↓st_38, ↓fa_142_1, ne_eq, Nat.reduceEqDiff, Nat.reduceAdd, not_false_eq_true, Addr.add_lit]))
    refine st_G (off := 1) (cs' := [.slice (some ⟨h.n, 0, none⟩) size size, .slice (some ⟨i4, 0, none⟩) (k + 1) UNK]) s2 rfl rfl rfl rfl (by decide) fun h5 e5 t2 f5 => ?_
    have t1 := s1.same (by omega) (f5 h.n (by omega))
    have tF := r4.keep (show h4.n ≤ h5.n by omega) fun j hj _ _ => f5 j (by omega)
    have e3 : iV (downL size k) ++ [.int .i64 ((size - 1 - k : Nat) : Int)] = iV (downL size (k + 1)) := by rw [downL_succ, iV_append]; rfl
    rw [e3] at tF
    repeat' (first | done | with_reducible (first | refine y1 ?_ (by omega) | refine y2 ?_ (by omega) | refine y3 (fun _ => ?_) (fun _ => ?_) | refine y4 ?_ (by omega) (by omega) | refine y5 ?_ (by omega) | refine y6 ?_ (by with_unfolding_all rfl) | refine y7 ?_ (by with_unfolding_all rfl) | refine y8 ?_ (by with_unfolding_all rfl) | refine y9 ?_ (by with_unfolding_all rfl) | refine ya ?_ (by with_unfolding_all rfl)) | (simp -dsimp only [↓cw_ops, ↓seqK_normal, ↓blockK_normal, ↓loopK_normal, ↓getK_same, ↓getK_ne, ↓evK_tmp, ↓evK_int, ↓opsW_nil, ↓opsW_d, ↓opW_move, ↓opW_assign, ↓opW_bin, ↓bin_add, ↓r29_4_w, ↓s29_5_w, ne_eq, Nat.reduceEqDiff, Nat.reduceAdd, not_false_eq_true, Nat.add_zero, Addr.add_lit, Int.toNat_natCast, ↓e10]))
    refine ⟨size - (k + 1), by omega, k + 1, by omega, rfl, by simp [T.get_set, wrap_succ (show k ≤ 4611686018427387904 by omega)], ⟨by have := X.n; omega, fun j hj => ?_⟩, t1, _, t2, tF⟩
    have := X.n
    rw [f5 j (by omega), x4.get j (by omega), f2 j (by omega), X.get j hj]
  · have e : k = size := by omega
    subst e
    obtain ⟨s, rfl⟩ : ∃ s, k = s + 1 := ⟨k - 1, by omega⟩
    rw [Nat.sub_self, show many 0 dom0 = [] from rfl, List.append_nil, many_cons] at gS
    obtain ⟨bf, rfl, hbf, gF⟩ := rF.g (by omega)
    repeat' (first | done | with_reducible (first | refine y1 ?_ (by omega) | refine y2 ?_ (by omega) | refine y3 (fun _ => ?_) (fun _ => ?_) | refine y4 ?_ (by omega) (by omega) | refine y5 ?_ (by omega) | refine y6 ?_ (by with_unfolding_all rfl) | refine y7 ?_ (by with_unfolding_all rfl) | refine y8 ?_ (by with_unfolding_all rfl) | refine y9 ?_ (by with_unfolding_all rfl) | refine ya ?_ (by with_unfolding_all rfl)) | (simp -dsimp only [↓cw_ops, ↓cw_seq, ↓cw_exit, ↓cw_cond, ↓seqK_normal, ↓seqK_exit, ↓blockK_same, ↓loopK_exit, ↓getK_same, ↓getK_ne, ↓evK_tmp, ↓condV_var, ↓opsW_nil, ↓opsW_d, ↓opW_move, ↓opW_bin, ↓bin_lss, ↓evs_nil, ↓evs_cons, ↓opW_call, ↓evp_nil, ↓evp_cons, ↓bd_144, ↓r29_2_w, ↓s29_3_w, ↓s29_11_w, ↓r29_12_w, ↓s29_13_w, ↓s29_14_w, brK_false, ne_eq, Nat.reduceEqDiff, not_false_eq_true, Nat.one_ne_zero, Bool.false_eq_true,  ↓e10, ↓a0, ↓a1, ↓a2, ↓a3, ↓a9]))
    refine put_ret h1 h64 gd gS gF fun v h2 p1 p2 n2 f2 => ?_
    repeat' (first | done | with_reducible (first | refine y1 ?_ (by omega) | refine y2 ?_ (by omega) | refine y3 (fun _ => ?_) (fun _ => ?_) | refine y4 ?_ (by omega) (by omega) | refine y5 ?_ (by omega) | refine y6 ?_ (by with_unfolding_all rfl) | refine y7 ?_ (by with_unfolding_all rfl) | refine y8 ?_ (by with_unfolding_all rfl) | refine y9 ?_ (by with_unfolding_all rfl) | refine ya ?_ (by with_unfolding_all rfl)) | (simp -dsimp only [↓cw_ops, ↓cw_seq, ↓cw_ret, ↓seqK_normal, ↓getK_same, ↓getK_ne, ↓evK_tmp, ↓opsW_nil, ↓opsW_d, ↓opW_move, ↓opW_assign, ↓resK_one, ↓r29_0_w, ↓s29_1_w, ne_eq, Nat.reduceEqDiff, not_false_eq_true, ↓a9]))
    exact hK _ h2 p1 p2 ⟨by have := X.n; omega, fun j hj => by have := X.n; rw [f2 j (by omega) (by omega) (by omega), X.get j hj]⟩
end Go.Proofs.Ytdjnedamphifcaa

