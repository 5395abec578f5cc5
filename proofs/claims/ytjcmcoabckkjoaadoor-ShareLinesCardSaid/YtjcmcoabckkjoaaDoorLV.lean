/- share.Lines. Conditions: each theorem's own. -/
import Derived.Test.YtjcmcoabckkjoaaDoorLT
set_option linter.unusedSimpArgs false
set_option linter.unusedVariables false
namespace Go.Proofs.YtjcmcoabckkjoaaDoor.Li
open Go.Ev
set_option maxRecDepth 100000
set_option maxHeartbeats 400000
/-! rows that grow, told apart by their types -/
def RowG (B : Nat) (h : Heap) (e : TypeId) (v : Value) (n : Nat) (cs : List Value) : Prop :=
  (v = .slice none 0 0 ∧ n = 0 ∧ cs = []) ∨ (∃ i, v = .slice (some ⟨i, 0, none⟩) n UNK ∧ B ≤ i ∧ i < h.n ∧ h.b.get i = some (.cells cs e false) ∧ n ≠ 0)
theorem RowG.own {B : Nat} {h : Heap} {e : TypeId} {v : Value} {n : Nat} {cs : List Value} (r : RowG B h e v n cs) : OwnS B h e v n cs := by
  rcases r with ⟨rfl, rfl, rfl⟩ | ⟨i, rfl, h1, h2, h3, _⟩
  · exact .nil
  · exact .row i n cs h1 h2 h3
theorem RowG.of {B : Nat} {h : Heap} {e : TypeId} {v : Value} {n : Nat} {cs : List Value} (o : OwnS B h e v n cs) (hn : n ≠ 0) : RowG B h e v n cs := by
  cases o with
  | nil => exact absurd rfl hn
  | emp i hi => exact absurd rfl hn
  | row i n cs h1 h2 h3 => exact .inr ⟨i, rfl, h1, h2, h3, hn⟩
theorem RowG.keep {B : Nat} {h h' : Heap} {e : TypeId} {v : Value} {n : Nat} {cs : List Value} (r : RowG B h e v n cs) (hn : h.n ≤ h'.n) (hf : ∀ j, B ≤ j → j < h.n → h.b.get j = some (.cells cs e false) → h'.b.get j = h.b.get j) : RowG B h' e v n cs := by
  rcases r with ⟨rfl, rfl, rfl⟩ | ⟨i, rfl, h1, h2, h3, h4⟩
  · exact .inl ⟨rfl, rfl, rfl⟩
  · exact .inr ⟨i, rfl, h1, by omega, (hf i h1 h2 h3).trans h3, h4⟩
theorem RowG.ext {B : Nat} {h h' : Heap} {e : TypeId} {v : Value} {n : Nat} {cs : List Value} (r : RowG B h e v n cs) (x : ExtB h.n h h') : RowG B h' e v n cs := r.keep x.n fun j _ hj _ => x.get j hj
def Keeps (e : TypeId) (h h' : Heap) : Prop := ∀ j cs' e' b', j < h.n → h.b.get j = some (.cells cs' e' b') → (e' ≠ e ∨ b' = true) → h'.b.get j = h.b.get j
theorem RowG.notIn {B : Nat} {h : Heap} {e : TypeId} {v : Value} {n : Nat} {cs : List Value} (r : RowG B h e v n cs) {j : Nat} {cs' : List Value} {e' : TypeId} {b' : Bool} (hj : h.b.get j = some (.cells cs' e' b')) (hd : e' ≠ e ∨ b' = true) : Go.Ev.notIn v j := by
  intro a m c hv
  rcases r with ⟨rfl, _, _⟩ | ⟨i, rfl, h1, h2, h3, h4⟩
  · cases hv
  · cases hv
    rintro rfl
    rw [h3] at hj
    cases hj
    rcases hd with hd | hd
    · exact hd rfl
    · cases hd
theorem app_row {B : Nat} {e : TypeId} {sz n j : Nat} {s : Value} {cs new : List Value} {h1 : Heap} {K : Value → Heap → Prop} (o : RowG B h1 e s n cs) (hB : B ≤ h1.n) (hlen : cs.length = n * sz) (hsz : n + 1 ≤ 100000)
    (hnl : new.length = sz) (hone : new.all oneCell = true) (hpos : sz ≠ 0) (hj : j = h1.n)
    (k : ∀ v' h', RowG B h' e v' (n + 1) (cs ++ new) → ExtB B h1 h' → Keeps e h1 h' → h1.n + 1 ≤ h'.n → K v' h') : appK e sz s (.slice (some ⟨j, 0, none⟩) 1 1) (newBlk h1 (.cells new e true)) K := by
  subst hj
  refine app_ownF (o.own.new _) (Nat.le_trans hB (Nat.le_succ _)) hlen (m := 1) rfl (by decide) hsz (new := new) ?_ (by omega) hone hpos fun v' h' o' x' f' => k v' h' (.of o' (by omega)) ((ExtB.new _ hB).trans x') (fun j cs' e' b' hj hg hd => by rw [f' j (Nat.lt_succ_of_lt hj) (o.notIn hg hd), newBlk_old _ hj]) x'.n
  simp only [firstCells, Nat.one_mul]
  exact cellsAt_newE hnl
/-! what goroutines had -/
structure HadR where
  i : Int
  g : Int
  s : Int
  c : Int
  r : Int
  t : Int
  v : Value
def HadR.cells (x : HadR) : List Value := [.int .i64 x.i, .int .u64 x.g, .int .i64 x.s, .int .i64 x.c, .int .i64 x.r, .int .i64 x.t, x.v]
def i64B (n : Int) : Prop := -9223372036854775808 ≤ n ∧ n ≤ 9223372036854775807
structure HadR.OK (x : HadR) : Prop where
  i : i64B x.i
  g : 0 ≤ x.g ∧ x.g ≤ 18446744073709551615
  s : i64B x.s
  c : i64B x.c
  r : i64B x.r
  t : i64B x.t
  v : ∃ n, n < 18446744073709551616 ∧ x.v = .float .f64 n
theorem HadR.OK.fb {x : HadR} (o : x.OK) : FB x.v := .inr o.v
def textL : Value → List UInt8
  | .float _ n => textB n
  | _ => [110, 97, 110]
def lineL (x : HadR) : List UInt8 := Lib.itoa x.i ++ [46] ++ Lib.decDigits x.g.toNat ++ [32] ++ Lib.itoa x.s ++ [32] ++ Lib.itoa x.c ++ [32] ++ Lib.itoa x.r ++ [32] ++ Lib.itoa x.t ++ [32] ++ textL x.v
theorem textB_len (n : Nat) (hn : n < 18446744073709551616) : (textB n).length ≤ 50 := by
  unfold textB
  by_cases hc : classB n = []
  · have f := Fin.of hn hc
    rw [if_neg (by rw [hc]; simp)]
    have hs : (signL n).length ≤ 1 := by unfold signL; split <;> simp
    obtain ⟨hm0, hm⟩ := f.mant
    have hd := dec_le (u := mant n / 2 ^ Lib.ctz 64 (mant n)) (by have := Nat.div_le_self (mant n) (2 ^ Lib.ctz 64 (mant n)); omega)
    have hct := (ctz_odd hm0 (show mant n < 18446744073709551616 by omega))
    have hx := f.exp
    have hk1 : -1074 ≤ expo n ∧ expo n ≤ 971 := by unfold expo; omega
    have hcl : Lib.ctz 64 (mant n) ≤ 64 := by obtain ⟨_, _, h⟩ := hct; omega
    have htl : (tailB (expo n + (Lib.ctz 64 (mant n) : Nat))).length ≤ 24 := by
      unfold tailB
      split
      · have := Lib.itoa_length_le (expo n + (Lib.ctz 64 (mant n) : Nat)) (by omega) (by omega); simp only [List.length_append, List.length_cons, List.length_nil]; omega
      · split
        · have := Lib.itoa_length_le (-(expo n + (Lib.ctz 64 (mant n) : Nat))) (by omega) (by omega); simp only [List.length_append, List.length_cons, List.length_nil]; omega
        · simp
    simp only [List.length_append]; omega
  · rw [if_pos hc]
    rcases class_cases n with h | h | h | h | h | h <;> rw [h] <;> simp
theorem textL_len {v : Value} (hv : FB v) : (textL v).length ≤ 50 := by
  rcases hv with rfl | ⟨n, hn, rfl⟩
  · simp [textL]
  · exact textB_len n hn
theorem text_v {v : Value} {h : Heap} {K : Value → Heap → Prop} (hv : FB v) (ht : tabsOk tabs h = true) (hh : 2 < h.n) (hK : ∀ h', ExtB h.n h h' → K (strV (textL v)) h') : Ret env (.func 34) [v] h K := by
  rcases hv with rfl | ⟨n, hn, rfl⟩
  · exact text_no (hK h (ExtB.refl _ _))
  · exact text_ret hn ht hh hK
theorem refText_v {v : Value} {h : Heap} {K : Value → Heap → Prop} (hv : FB v) (hK : ∀ h', ExtB h.n h h' → K (strV (textL v)) h') : Ret env (.func 36) [v] h K := by
  rcases hv with rfl | ⟨n, hn, rfl⟩
  · exact refText_no (hK h (ExtB.refl _ _))
  · exact refText_ret hn hK
/-! strings.Join of six -/
theorem join_ret {i o : Nat} {xs : List (List UInt8)} {sep : List UInt8} {h : Heap} {K : Value → Heap → Prop} (hi : i < h.n) (hc : cellsAt h ⟨i, o, none⟩ xs.length = some (xs.map strV))
    (h1 : 1 ≤ xs.length) (h2 : xs.length ≤ 1000000) (hl : (Lib.join xs sep).length ≤ 1000000) (hK : K (strV (Lib.join xs sep)) h) : Ret env (.func 51) [.slice (some ⟨i, o, none⟩) xs.length xs.length, strV sep] h K := by
  refine extLib_ret (g := joinG) (base := ext4) rfl ?_ hK
  have e : xs.map strV = (xs.map fun x => (⟨x.toArray⟩ : ByteArray)).map Value.string := by simp [strV, Function.comp_def]
  have hk : (xs.map fun x => (⟨x.toArray⟩ : ByteArray)).map (·.data.toList) = xs := by simp [Function.comp_def]
  unfold joinG strV
  dsimp only
  rw [hc]
  rw [e]
  simp only [Option.bind_some, strs_map, hk]
  have hu : xs.length < UNK := by unfold UNK; omega
  have : (Nat.blt i h.n && Nat.ble xs.length xs.length && Nat.blt xs.length UNK && Nat.ble (Lib.join xs sep).length 1000000 && Nat.ble 1 xs.length && Nat.ble xs.length 1000000) = true := by
    simp only [Bool.and_eq_true, blt_eq, ble_eq, decide_eq_true_eq]
    exact ⟨⟨⟨⟨⟨hi, Nat.le_refl _⟩, hu⟩, hl⟩, h1⟩, h2⟩
  rw [this]; rfl
end Go.Proofs.YtjcmcoabckkjoaaDoor.Li

namespace Go.Proofs.YtjcmcoabckkjoaaDoor.Li
open Go.Ev
set_option maxRecDepth 100000
set_option maxHeartbeats 400000
def RowS (h : Heap) (a : Option Addr) (l : List (List UInt8)) : Prop := RowAt h.n h a 1 (l.map fun x => [strV x])
theorem RowS.at {h : Heap} {a : Option Addr} {l : List (List UInt8)} (r : RowS h a l) {k : Nat} (hk : k < l.length) : ∃ b off, a = some ⟨b, off, none⟩ ∧ b < h.n ∧ cellAt h ⟨b, off + k * 1, none⟩ = some (.string ⟨l[k].toArray⟩) := by
  obtain ⟨b, off, e, hb, d⟩ := r k (by simpa using hk)
  have d := cellAt_of d (j := 0) (by simp only [List.getElem_map]; rfl)
  exact ⟨b, off, e, hb, d⟩
theorem RowS.ext {h h' : Heap} {a : Option Addr} {l : List (List UInt8)} (r : RowS h a l) (e : ExtB h.n h h') : RowS h' a l := (RowAt.ext r e).mono e.n
/-- two lists of texts that are the same -/
theorem sameLines_ret {a b : Option Addr} {c c' : Nat} {l : List (List UInt8)} {h : Heap} {K : Value → Heap → Prop} (ra : RowS h a l) (rb : RowS h b l) (hl : l.length ≤ 1000)
    (hK : K (.bool true) h) : Ret env (.func 31) [.slice a l.length c, .slice b l.length c'] h K := by
  refine F31 rfl ?_
  repeat' (first | done | ((with_reducible refine brK_yes ?_ ?_); (· omega)) | ((with_reducible refine brK_no ?_ ?_); (· omega)) | (with_reducible refine brK_both (fun _ => ?_) (fun _ => ?_)) | ((with_reducible refine And.intro (And.intro ?_ ?_) ?_); (· omega); (· omega)) | ((with_reducible refine And.intro ?_ ?_); (· omega)) | (with_reducible refine And.intro (show List.all _ oneCell = true from rfl) ?_) | ((with_reducible refine st_newM ?_ ?_); (· rfl)) | ((with_reducible refine bs_oneM ?_ ?_); (· rfl)) | (with_reducible refine bd_of (by with_unfolding_all (simp only [fillL_cons, fillL_nil, nth_eq, blt_eq, cond_beq, over, Value.cells, List.getElem?_cons_zero, List.getElem?_cons_succ, List.length_cons, List.length_nil, Nat.reduceAdd, Nat.reduceSub, Nat.reduceLT, Nat.reduceEqDiff, decide_true, cond_true, Option.map_some, if_true, if_false, Nat.add_one_sub_one, Nat.succ_ne_zero, reduceCtorEq, OfNat.ofNat]; rfl)) ?_) | (with_reducible refine bda_of (by with_unfolding_all rfl) ?_) | (simp -dsimp only [↓cw_skip, ↓cw_ops, ↓cw_seq, ↓cw_block, ↓cw_cond, ↓seqK_normal, ↓getK_same, ↓getK_ne, ↓evK_tmp, ↓evK_int, ↓evK_bool, ↓condV_var, ↓opsW_nil, ↓opsW_d, ↓opW_move, ↓opW_assign, ↓opW_bin, ↓bin_neq, ↓lenS_some, ↓setAll_cons, ↓setAll_nil, ↓len_46, ↓s31_14_w, ↓s31_15_w, ↓r31_16_w, ↓s31_17_w, ↓s31_18_w, ↓s31_21_w, ↓r31_22_w, ↓s31_23_w, ↓s31_24_w, ↓r31_25_w, ↓s31_26_w, brK_true, brK_false, ne_eq, Nat.reduceEqDiff, Nat.reduceAdd, not_false_eq_true, Nat.one_ne_zero, Bool.false_eq_true]))
  refine cw_loopI (fun n fr h' => h' = h ∧ ∃ k : Nat, k ≤ l.length ∧ n = l.length - k ∧ fr.get 5 = some (.int .i64 k)) l.length ?_ (by omega) ?_
  · exact ⟨rfl, 0, by omega, by omega, by simp [T.get_set]⟩
  rintro n fr h' ⟨rfl, k, hk, rfl, g5⟩ hag
  have g5 := getK_of g5
  have a0 := getK_eq (hag 0 rfl)
  have a1 := getK_eq (hag 1 rfl)
  by_cases hlt : k < l.length
  · obtain ⟨b1, o1, rfl, hb1, d1⟩ := ra.at hlt
    obtain ⟨b2, o2, rfl, hb2, d2⟩ := rb.at hlt
    repeat' (first | done | ((with_reducible refine brK_yes ?_ ?_); (· omega)) | ((with_reducible refine brK_no ?_ ?_); (· omega)) | (with_reducible refine brK_both (fun _ => ?_) (fun _ => ?_)) | ((with_reducible refine And.intro (And.intro ?_ ?_) ?_); (· omega); (· omega)) | ((with_reducible refine And.intro ?_ ?_); (· omega)) | (with_reducible refine And.intro (show List.all _ oneCell = true from rfl) ?_) | ((with_reducible refine st_newM ?_ ?_); (· rfl)) | ((with_reducible refine bs_oneM ?_ ?_); (· rfl)) | (with_reducible refine bd_of (by with_unfolding_all (simp only [fillL_cons, fillL_nil, nth_eq, blt_eq, cond_beq, over, Value.cells, List.getElem?_cons_zero, List.getElem?_cons_succ, List.length_cons, List.length_nil, Nat.reduceAdd, Nat.reduceSub, Nat.reduceLT, Nat.reduceEqDiff, decide_true, cond_true, Option.map_some, if_true, if_false, Nat.add_one_sub_one, Nat.succ_ne_zero, reduceCtorEq, OfNat.ofNat]; rfl)) ?_) | (with_reducible refine bda_of (by with_unfolding_all rfl) ?_) | (simp -dsimp only [↓cw_skip, ↓cw_ops, ↓cw_plan, ↓cw_seq, ↓cw_block, ↓cw_cond, ↓seqK_normal, ↓blockK_normal, ↓loopK_normal, ↓getK_same, ↓getK_ne, ↓evK_tmp, ↓evK_int, ↓condV_var, ↓opsW_nil, ↓opsW_d, ↓planW_nil, ↓planW_d, ↓agK_nil, ↓opW_move, ↓opW_assign, ↓opW_bin, ↓bin_add, ↓bin_lss, ↓ld1_some, ↓idxS_some, ↓lenS_some, ↓bin_neqS, ↓len_46, ↓ia_46, ↓ld_9, ↓r31_2_w, ↓s31_3_w, ↓s31_6_w, ↓p31_7_w, ↓s31_8_w, ↓s31_9_w, ↓s31_10_w, ↓r31_11_w, ↓s31_12_w, ↓s31_13_w, onV_some', brK_true, brK_false, Nat.le_refl, true_and, ne_eq, Nat.reduceEqDiff, not_false_eq_true, Nat.one_ne_zero, Addr.add_lit, Int.toNat_natCast, Bool.false_eq_true,  ↓g5, ↓a0, ↓a1, d1, d2]))
    refine ⟨l.length - (k + 1), by omega, k + 1, by omega, rfl, by simp [T.get_set, wrap_succ (show k ≤ 4611686018427387904 by omega)]⟩
  · repeat' (first | done | ((with_reducible refine brK_yes ?_ ?_); (· omega)) | ((with_reducible refine brK_no ?_ ?_); (· omega)) | (with_reducible refine brK_both (fun _ => ?_) (fun _ => ?_)) | ((with_reducible refine And.intro (And.intro ?_ ?_) ?_); (· omega); (· omega)) | ((with_reducible refine And.intro ?_ ?_); (· omega)) | (with_reducible refine And.intro (show List.all _ oneCell = true from rfl) ?_) | ((with_reducible refine st_newM ?_ ?_); (· rfl)) | ((with_reducible refine bs_oneM ?_ ?_); (· rfl)) | (with_reducible refine bd_of (by with_unfolding_all (simp only [fillL_cons, fillL_nil, nth_eq, blt_eq, cond_beq, over, Value.cells, List.getElem?_cons_zero, List.getElem?_cons_succ, List.length_cons, List.length_nil, Nat.reduceAdd, Nat.reduceSub, Nat.reduceLT, Nat.reduceEqDiff, decide_true, cond_true, Option.map_some, if_true, if_false, Nat.add_one_sub_one, Nat.succ_ne_zero, reduceCtorEq, OfNat.ofNat]; rfl)) ?_) | (with_reducible refine bda_of (by with_unfolding_all rfl) ?_) | (simp -dsimp only [↓cw_ops, ↓cw_seq, ↓cw_exit, ↓cw_ret, ↓cw_cond, ↓seqK_normal, ↓seqK_exit, ↓blockK_same, ↓loopK_exit, ↓getK_same, ↓getK_ne, ↓evK_tmp, ↓evK_bool, ↓condV_var, ↓opsW_nil, ↓opsW_d, ↓opW_move, ↓opW_assign, ↓opW_bin, ↓bin_lss, ↓lenS_some, ↓resK_one, ↓len_46, ↓r31_0_w, ↓s31_1_w, ↓s31_10_w, ↓r31_11_w, ↓s31_12_w, ↓s31_13_w, brK_false, ne_eq, Nat.reduceEqDiff, not_false_eq_true, Nat.one_ne_zero, Bool.false_eq_true,  ↓g5, ↓a0]))
    exact hK
theorem join6 (a b c d e f : List UInt8) : Lib.join [a, b, c, d, e, f] [32] = a ++ [32] ++ b ++ [32] ++ c ++ [32] ++ d ++ [32] ++ e ++ [32] ++ f := by
  simp [Lib.join, List.append_assoc]
def fairL (l : List Value) : List UInt8 := [102, 97, 105, 114, 32] ++ textL (jainV l)
def linesL (l : List HadR) : List (List UInt8) := l.map lineL ++ [fairL (l.map HadR.v)]
theorem jain_FB {l : List Value} (fb : ∀ x ∈ l, FB x) : FB (jainV l) :=
  fA_FB rfl (mulV_FB (sumV_FB fb)) (fA_FB (op := .mul) rfl (nearest_FB _) (sumV_FB fun v hv => by obtain ⟨x, hx, rfl⟩ := List.mem_map.1 hv; exact mulV_FB (fb x hx)))
theorem rowS {B : Nat} {h : Heap} {v : Value} {L : List (List UInt8)} (r : RowG B h 9 v L.length (L.map strV)) : ∃ a c, v = .slice a L.length c ∧ RowS h a L := by
  have o := r.own
  have e : L.map strV = (L.map fun x => [strV x]).flatten := by
    rw [show (L.map fun x => [strV x]) = (L.map strV).map fun v => [v] by simp [Function.comp_def], flat_one]
  rw [e] at o
  obtain ⟨a, c, e1, r1⟩ := OwnS.rowAt o (sz := 1) (fun x hx => by obtain ⟨y, _, rfl⟩ := List.mem_map.1 hx; rfl) (by rw [List.length_map])
  rw [List.length_map] at e1
  exact ⟨a, c, e1, r1⟩
theorem row27 {B : Nat} {h : Heap} {v : Value} {l : List Value} (r : RowG B h 27 v l.length l) (fb : ∀ x ∈ l, FB x) (hl : l.length ≤ 100) : ∃ a c, v = .slice a l.length c ∧ FR h a c l := FR.of r.own fb hl
theorem same_fl {v : Value} (hv : ∃ n, n < 18446744073709551616 ∧ v = .float .f64 n) : ∀ n, (sameV n v v = true) = True := by
  intro n
  obtain ⟨m, hm, rfl⟩ := hv
  cases n <;> simp [sameV]
theorem same_int {n : Nat} {k : IntKind} {m : Int} : (sameV n (.int k m) (.int k m) = true) = True := by cases n <;> simp [sameV]
theorem had_one (x : HadR) (oc : oneCell x.v = true) : (Nat.beq [Value.int IntKind.i64 x.i, .int .u64 x.g, .int .i64 x.s, .int .i64 x.c, .int .i64 x.r, .int .i64 x.t, x.v].length 7 && Nat.beq [Value.int .i64 0, .int .u64 0, .int .i64 0, .int .i64 0, .int .i64 0, .int .i64 0, .float .f64 0].length 7 && [Value.int IntKind.i64 x.i, .int .u64 x.g, .int .i64 x.s, .int .i64 x.c, .int .i64 x.r, .int .i64 x.t, x.v].all oneCell && !Nat.beq 7 0) = true := by
  show (true && true && (true && (true && (true && (true && (true && (true && (oneCell x.v && true))))))) && true) = true
  rw [oc]; rfl
theorem had_cells {h : Heap} {i : Nat} {x : HadR} (hi : i < h.n) (hb : h.b.get i = some (.cells x.cells 44 true)) : cellAt h ⟨i, 0, none⟩ = some (.int .i64 x.i) ∧ cellAt h ⟨i, 1, none⟩ = some (.int .u64 x.g) ∧ cellAt h ⟨i, 2, none⟩ = some (.int .i64 x.s) ∧ cellAt h ⟨i, 3, none⟩ = some (.int .i64 x.c) ∧
    cellAt h ⟨i, 4, none⟩ = some (.int .i64 x.r) ∧ cellAt h ⟨i, 5, none⟩ = some (.int .i64 x.t) ∧ cellAt h ⟨i, 6, none⟩ = some x.v :=
  ⟨cellAt_blk hi hb rfl, cellAt_blk hi hb rfl, cellAt_blk hi hb rfl, cellAt_blk hi hb rfl, cellAt_blk hi hb rfl, cellAt_blk hi hb rfl, cellAt_blk hi hb rfl⟩
theorem lines_ret {a : Option Addr} {c : Nat} {l : List HadR} {h : Heap} {K : Value → Heap → Prop} (ra : RowAt h.n h a 7 (l.map HadR.cells)) (ok : ∀ x ∈ l, x.OK) (ht : tabsOk tabs h = true) (hh : 2 < h.n) (hl : l.length ≤ 40)
    (hK : ∀ a' c' h', RowS h' a' (linesL l) → ExtB h.n h h' → K (.slice a' (linesL l).length c') h') : Ret env (.func 32) [.slice a l.length c] h K := by
  refine F32 rfl ?_
  repeat' (first | done | ((with_reducible refine brK_yes ?_ ?_); (· omega)) | ((with_reducible refine brK_no ?_ ?_); (· omega)) | (with_reducible refine brK_both (fun _ => ?_) (fun _ => ?_)) | ((with_reducible refine And.intro (And.intro ?_ ?_) ?_); (· omega); (· omega)) | ((with_reducible refine And.intro ?_ ?_); (· omega)) | (with_reducible refine And.intro (show List.all _ oneCell = true from rfl) ?_) | ((with_reducible refine st_newM ?_ ?_); (· rfl)) | ((with_reducible refine bs_oneM ?_ ?_); (· rfl)) | (with_reducible refine bd_of (by with_unfolding_all (simp only [fillL_cons, fillL_nil, nth_eq, blt_eq, cond_beq, over, Value.cells, List.getElem?_cons_zero, List.getElem?_cons_succ, List.length_cons, List.length_nil, Nat.reduceAdd, Nat.reduceSub, Nat.reduceLT, Nat.reduceEqDiff, decide_true, cond_true, Option.map_some, if_true, if_false, Nat.add_one_sub_one, Nat.succ_ne_zero, reduceCtorEq, OfNat.ofNat]; rfl)) ?_) | (with_reducible refine bda_of (by with_unfolding_all rfl) ?_) | (simp -dsimp only [↓cw_ops, ↓cw_seq, ↓cw_block, ↓seqK_normal, ↓getK_same, ↓getK_ne, ↓evK_tmp, ↓evK_int, ↓evK_nilslice, ↓opsW_nil, ↓opsW_d, ↓opW_move, ↓opW_assign, ↓lenS_some, ↓setAll_cons, ↓setAll_nil, ↓len_40, ↓s32_17_w, ↓s32_18_w, ↓r32_19_w, ↓s32_20_w, ↓s32_21_w, ↓r32_22_w, ↓s32_23_w, ↓r32_24_w, ↓s32_25_w, ne_eq, Nat.reduceEqDiff, not_false_eq_true]))
  refine cw_loopI (fun n fr h' => ∃ k : Nat, k ≤ l.length ∧ n = l.length - k ∧ fr.get 9 = some (.int .i64 k) ∧ ExtB h.n h h' ∧ ∃ v w, fr.get 2 = some v ∧ fr.get 3 = some w ∧ RowG h.n h' 9 v k ((l.take k).map fun x => strV (lineL x)) ∧ RowG h.n h' 27 w k ((l.take k).map HadR.v)) l.length ?_ (by omega) ?_
  · exact ⟨0, by omega, by omega, by simp [T.get_set], ExtB.refl _ _, .slice none 0 0, .slice none 0 0, by simp [T.get_set], by simp [T.get_set], .inl ⟨rfl, rfl, rfl⟩, .inl ⟨rfl, rfl, rfl⟩⟩
  rintro n fr h' ⟨k, hk, rfl, g9, X, v, w, g2, g3, r2, r3⟩ hag
  have g9 := getK_of g9
  have g2 := getK_of g2
  have g3 := getK_of g3
  have a7 := getK_eq (hag 7 rfl)
  have a8 := getK_eq (hag 8 rfl)
  have hn := X.n
  by_cases hlt : k < l.length
  · obtain ⟨b1, o1, rfl, hb1, d1⟩ := (ra.ext X) k (by simpa using hlt)
    rw [List.getElem_map] at d1
    have o := ok _ (List.getElem_mem hlt)
    have e2 : ∀ {β : Type} (f : HadR → β), (l.take (k + 1)).map f = (l.take k).map f ++ [f l[k]] := fun f => by rw [List.take_succ_eq_append_getElem hlt, List.map_append]; rfl
    generalize l[k] = x at d1 o e2
    unfold HadR.cells at d1
    repeat' (first | done | ((with_reducible refine brK_yes ?_ ?_); (· omega)) | ((with_reducible refine brK_no ?_ ?_); (· omega)) | (with_reducible refine brK_both (fun _ => ?_) (fun _ => ?_)) | ((with_reducible refine And.intro (And.intro ?_ ?_) ?_); (· omega); (· omega)) | ((with_reducible refine And.intro ?_ ?_); (· omega)) | (with_reducible refine And.intro (show List.all _ oneCell = true from rfl) ?_) | ((with_reducible refine st_newM ?_ ?_); (· rfl)) | ((with_reducible refine bs_oneM ?_ ?_); (· rfl)) | (with_reducible refine bd_of (by with_unfolding_all (simp only [fillL_cons, fillL_nil, nth_eq, blt_eq, cond_beq, over, Value.cells, List.getElem?_cons_zero, List.getElem?_cons_succ, List.length_cons, List.length_nil, Nat.reduceAdd, Nat.reduceSub, Nat.reduceLT, Nat.reduceEqDiff, decide_true, cond_true, Option.map_some, if_true, if_false, Nat.add_one_sub_one, Nat.succ_ne_zero, reduceCtorEq, OfNat.ofNat]; rfl)) ?_) | (with_reducible refine bda_of (by with_unfolding_all rfl) ?_) | (simp -dsimp only [↓cw_skip, ↓cw_ops, ↓cw_seq, ↓cw_block, ↓cw_cond, ↓seqK_normal, ↓getK_same, ↓getK_ne, ↓evK_tmp, ↓condV_var, ↓opsW_nil, ↓opsW_d, ↓opsW_n, ↓opW_bin, ↓bin_lss, ↓ldN_some, ↓idxS_some, ↓ia_40, ↓ld_44, ↓al_44, ↓st_44, ↓r32_10_w, ↓s32_11_w, ↓s32_12_w, ↓s32_13_w, ↓s32_14_w, ↓r32_15_w, ↓s32_16_w, onV_some', brK_true, ne_eq, Nat.reduceEqDiff, not_false_eq_true, Addr.add_lit, Int.toNat_natCast, ↓g9, ↓a7, ↓a8, d1]))
    have oc : oneCell x.v = true := by obtain ⟨n, _, e⟩ := o.v; rw [e]; rfl
    refine st_newM (had_one x oc) ?_
    repeat' (first | done | ((with_reducible refine brK_yes ?_ ?_); (· omega)) | ((with_reducible refine brK_no ?_ ?_); (· omega)) | (with_reducible refine brK_both (fun _ => ?_) (fun _ => ?_)) | ((with_reducible refine And.intro (And.intro ?_ ?_) ?_); (· omega); (· omega)) | ((with_reducible refine And.intro ?_ ?_); (· omega)) | (with_reducible refine And.intro (show List.all _ oneCell = true from rfl) ?_) | ((with_reducible refine st_newM ?_ ?_); (· rfl)) | ((with_reducible refine bs_oneM ?_ ?_); (· rfl)) | (with_reducible refine bd_of (by with_unfolding_all (simp only [fillL_cons, fillL_nil, nth_eq, blt_eq, cond_beq, over, Value.cells, List.getElem?_cons_zero, List.getElem?_cons_succ, List.length_cons, List.length_nil, Nat.reduceAdd, Nat.reduceSub, Nat.reduceLT, Nat.reduceEqDiff, decide_true, cond_true, Option.map_some, if_true, if_false, Nat.add_one_sub_one, Nat.succ_ne_zero, reduceCtorEq, OfNat.ofNat]; rfl)) ?_) | (with_reducible refine bda_of (by with_unfolding_all rfl) ?_) | (simp -dsimp only [↓cw_ops, ↓cw_seq, ↓seqK_normal, ↓getK_same, ↓getK_ne, ↓evK_tmp, ↓opsW_nil, ↓opsW_d, ↓opW_move, ↓ld1_some, ↓fldA_some, ↓evp_nil, ↓evp_cons, ↓fa_44_5, ↓ld_27, ↓bsl_25_1, ↓ap_25_25, ↓r32_8_w, ↓s32_9_w, cellAt_newE, newBlk_n, List.getElem?_cons_zero, List.getElem?_cons_succ, onV_some', ne_eq, Nat.reduceEqDiff, Nat.reduceAdd, not_false_eq_true, Addr.add_lit, ↓g3, bs_F, o.fb.isF]))
    have hb : (newBlk h' (.cells x.cells 44 true)).b.get h'.n = some (.cells x.cells 44 true) := newBlk_same _ _
    have X0 : ExtB h'.n h' (newBlk h' (.cells x.cells 44 true)) := ExtB.new _ (Nat.le_refl _)
    have n0 : (newBlk h' (.cells x.cells 44 true)).n = h'.n + 1 := rfl
    have r2 := r2.ext X0
    have r3 := r3.ext X0
    have hlen : ∀ {β : Type} (f : HadR → β), ((l.take k).map f).length = k * 1 := fun f => by rw [List.length_map, List.length_take]; omega
    change appK 27 1 w _ (newBlk (newBlk h' (.cells x.cells 44 true)) _) _
    generalize newBlk h' (.cells x.cells 44 true) = h1 at hb X0 n0 r2 r3 ⊢
    have XB := X.trans (X0.mono hn)
    refine app_row (new := [x.v]) r3 (by omega) (hlen _) (by omega) rfl (by simp only [List.all_cons, List.all_nil, oc, Bool.and_self]) (by decide) (by rw [← n0]) fun w2 h2 q3 X2 k2 n2 => ?_
    have hb2 := (k2 h'.n _ _ _ (by omega) hb (.inl (by decide))).trans hb
    have q2 := r2.keep X2.n fun j _ hj hg => k2 j _ _ _ hj hg (.inl (by decide))
    rw [← e2 HadR.v] at q3
    obtain ⟨p0, p1, p2, p3, p4, p5, p6⟩ := had_cells (show h'.n < h2.n by omega) hb2
    have XC := XB.trans X2
    have t2 := tabs_ext hh XC ht
    repeat' (first | done | ((with_reducible refine brK_yes ?_ ?_); (· omega)) | ((with_reducible refine brK_no ?_ ?_); (· omega)) | (with_reducible refine brK_both (fun _ => ?_) (fun _ => ?_)) | ((with_reducible refine And.intro (And.intro ?_ ?_) ?_); (· omega); (· omega)) | ((with_reducible refine And.intro ?_ ?_); (· omega)) | (with_reducible refine And.intro (show List.all _ oneCell = true from rfl) ?_) | ((with_reducible refine st_newM ?_ ?_); (· rfl)) | ((with_reducible refine bs_oneM ?_ ?_); (· rfl)) | (with_reducible refine bd_of (by with_unfolding_all (simp only [fillL_cons, fillL_nil, nth_eq, blt_eq, cond_beq, over, Value.cells, List.getElem?_cons_zero, List.getElem?_cons_succ, List.length_cons, List.length_nil, Nat.reduceAdd, Nat.reduceSub, Nat.reduceLT, Nat.reduceEqDiff, decide_true, cond_true, Option.map_some, if_true, if_false, Nat.add_one_sub_one, Nat.succ_ne_zero, reduceCtorEq, OfNat.ofNat]; rfl)) ?_) | (with_reducible refine bda_of (by with_unfolding_all rfl) ?_) | (simp -dsimp only [↓cw_plan, ↓cw_seq, ↓seqK_normal, ↓getK_same, ↓getK_ne, ↓evK_tmp, ↓opsW_nil, ↓opsW_d, ↓planW_d, ↓agK_nil, ↓opW_assign, ↓ld1_some, ↓fldA_some, ↓evs_nil, ↓evs_cons, ↓opW_call, ↓fa_44_0, ↓fa_42_0, ↓ld_3, ↓ld_23, ↓fa_42_1, ↓p32_6_w, ↓s32_7_w, onV_some', Nat.le_refl, true_and, ne_eq, Nat.reduceEqDiff, Nat.reduceAdd, not_false_eq_true, Nat.add_zero, Addr.add_lit, p0, p1]))
    have l1 := Lib.itoa_length_le x.i o.i.1 o.i.2
    have l2 := Lib.itoa_length_le x.s o.s.1 o.s.2
    have l3 := Lib.itoa_length_le x.c o.c.1 o.c.2
    have l4 := Lib.itoa_length_le x.r o.r.1 o.r.2
    have l5 := Lib.itoa_length_le x.t o.t.1 o.t.2
    have og := o.g
    have l6 := dec_le (u := x.g.toNat) (by omega)
    have l7 := textL_len o.fb
    have sF := same_fl o.v
    have ug : Value.int IntKind.u64 x.g = .int .u64 (x.g.toNat : Int) := by rw [Int.toNat_of_nonneg og.1]
    refine Itoa_ret t2 (by omega) o.i.1 o.i.2 fun h3 X3 => ?_
    unfold itoaV
    have n3 := X3.n
    have q2 := q2.ext X3
    have q3 := q3.ext X3
    have hb3 := (X3.get h'.n (by omega)).trans hb2
    have XC := XC.trans (X3.mono (by omega))
    have t3 := tabs_ext hh XC ht
    obtain ⟨p0, p1, p2, p3, p4, p5, p6⟩ := had_cells (show h'.n < h3.n by omega) hb3
    repeat' (first | done | ((with_reducible refine brK_yes ?_ ?_); (· omega)) | ((with_reducible refine brK_no ?_ ?_); (· omega)) | (with_reducible refine brK_both (fun _ => ?_) (fun _ => ?_)) | ((with_reducible refine And.intro (And.intro ?_ ?_) ?_); (· omega); (· omega)) | ((with_reducible refine And.intro ?_ ?_); (· omega)) | (with_reducible refine And.intro (show List.all _ oneCell = true from rfl) ?_) | ((with_reducible refine st_newM ?_ ?_); (· rfl)) | ((with_reducible refine bs_oneM ?_ ?_); (· rfl)) | (with_reducible refine bd_of (by with_unfolding_all (simp only [fillL_cons, fillL_nil, nth_eq, blt_eq, cond_beq, over, Value.cells, List.getElem?_cons_zero, List.getElem?_cons_succ, List.length_cons, List.length_nil, Nat.reduceAdd, Nat.reduceSub, Nat.reduceLT, Nat.reduceEqDiff, decide_true, cond_true, Option.map_some, if_true, if_false, Nat.add_one_sub_one, Nat.succ_ne_zero, reduceCtorEq, OfNat.ofNat]; rfl)) ?_) | (with_reducible refine bda_of (by with_unfolding_all rfl) ?_) | (simp -dsimp only [↓getK_same, ↓getK_ne, ↓evK_tmp, ↓evK_int, ↓evK_string, ↓planW_d, ↓agK_nil, ↓opW_bin, ↓ld1_some, ↓evs_nil, ↓evs_cons, ↓opW_call, ↓agK_load, ↓agV_same, ↓agV_ne, ↓agl_23, List.length_cons, List.length_nil, onV_some', Nat.le_refl, true_and, and_true, ne_eq, Nat.reduceEqDiff, Nat.reduceAdd, not_false_eq_true, Nat.add_zero, Addr.add_lit, p1, bin_addS, str_size, same_int]))
    rw [ug]
    refine FormatUint_ret t3 (by omega) (by omega) fun h4 X4 => ?_
    unfold decV
    have n4 := X4.n
    have q2 := q2.ext X4
    have q3 := q3.ext X4
    have hb4 := (X4.get h'.n (by omega)).trans hb3
    have XC := XC.trans (X4.mono (by omega))
    have t4 := tabs_ext hh XC ht
    obtain ⟨p0, p1, p2, p3, p4, p5, p6⟩ := had_cells (show h'.n < h4.n by omega) hb4
    repeat' (first | done | ((with_reducible refine brK_yes ?_ ?_); (· omega)) | ((with_reducible refine brK_no ?_ ?_); (· omega)) | (with_reducible refine brK_both (fun _ => ?_) (fun _ => ?_)) | ((with_reducible refine And.intro (And.intro ?_ ?_) ?_); (· omega); (· omega)) | ((with_reducible refine And.intro ?_ ?_); (· omega)) | (with_reducible refine And.intro (show List.all _ oneCell = true from rfl) ?_) | ((with_reducible refine st_newM ?_ ?_); (· rfl)) | ((with_reducible refine bs_oneM ?_ ?_); (· rfl)) | (with_reducible refine bd_of (by with_unfolding_all (simp only [fillL_cons, fillL_nil, nth_eq, blt_eq, cond_beq, over, Value.cells, List.getElem?_cons_zero, List.getElem?_cons_succ, List.length_cons, List.length_nil, Nat.reduceAdd, Nat.reduceSub, Nat.reduceLT, Nat.reduceEqDiff, decide_true, cond_true, Option.map_some, if_true, if_false, Nat.add_one_sub_one, Nat.succ_ne_zero, reduceCtorEq, OfNat.ofNat]; rfl)) ?_) | (with_reducible refine bda_of (by with_unfolding_all rfl) ?_) | (simp -dsimp only [↓cw_plan, ↓seqK_normal, ↓getK_same, ↓getK_ne, ↓evK_tmp, ↓planW_nil, ↓planW_d, ↓agK_nil, ↓opW_move, ↓opW_assign, ↓opW_bin, ↓ld1_some, ↓fldA_some, ↓evs_nil, ↓evs_cons, ↓opW_call, ↓ld_3, ↓fa_44_1, ↓fa_44_2, ↓fa_44_3, ↓fa_44_4, ↓fa_44_5, ↓ld_27, ↓p32_4_w, ↓s32_5_w, List.length_cons, List.length_nil, onV_some', Nat.le_refl, true_and, ne_eq, Nat.reduceEqDiff, Nat.reduceAdd, not_false_eq_true, Addr.add_lit, ↓g2, p2, p3, p4, p5, p6, bin_addS, app_str, str_size, List.length_append]))
    refine Itoa_ret t4 (by omega) o.s.1 o.s.2 fun h5 X5 => ?_
    unfold itoaV
    have n5 := X5.n
    have q2 := q2.ext X5
    have q3 := q3.ext X5
    have hb5 := (X5.get h'.n (by omega)).trans hb4
    have XC := XC.trans (X5.mono (by omega))
    have t5 := tabs_ext hh XC ht
    obtain ⟨p0, p1, p2, p3, p4, p5, p6⟩ := had_cells (show h'.n < h5.n by omega) hb5
    repeat' (first | done | ((with_reducible refine brK_yes ?_ ?_); (· omega)) | ((with_reducible refine brK_no ?_ ?_); (· omega)) | (with_reducible refine brK_both (fun _ => ?_) (fun _ => ?_)) | ((with_reducible refine And.intro (And.intro ?_ ?_) ?_); (· omega); (· omega)) | ((with_reducible refine And.intro ?_ ?_); (· omega)) | (with_reducible refine And.intro (show List.all _ oneCell = true from rfl) ?_) | ((with_reducible refine st_newM ?_ ?_); (· rfl)) | ((with_reducible refine bs_oneM ?_ ?_); (· rfl)) | (with_reducible refine bd_of (by with_unfolding_all (simp only [fillL_cons, fillL_nil, nth_eq, blt_eq, cond_beq, over, Value.cells, List.getElem?_cons_zero, List.getElem?_cons_succ, List.length_cons, List.length_nil, Nat.reduceAdd, Nat.reduceSub, Nat.reduceLT, Nat.reduceEqDiff, decide_true, cond_true, Option.map_some, if_true, if_false, Nat.add_one_sub_one, Nat.succ_ne_zero, reduceCtorEq, OfNat.ofNat]; rfl)) ?_) | (with_reducible refine bda_of (by with_unfolding_all rfl) ?_) | (simp -dsimp only [↓getK_same, ↓getK_ne, ↓evK_tmp, ↓planW_d, ↓agK_nil, ↓ld1_some, ↓evs_nil, ↓evs_cons, ↓opW_call, ↓agK_load, ↓agV_same, ↓agV_ne, ↓agl_3, ↓agl_27, onV_some', true_and, and_true, ne_eq, Nat.reduceEqDiff, Nat.reduceAdd, not_false_eq_true, Addr.add_lit, p3, p4, p5, p6, same_int, sF]))
    refine Itoa_ret t5 (by omega) o.c.1 o.c.2 fun h6 X6 => ?_
    unfold itoaV
    have n6 := X6.n
    have q2 := q2.ext X6
    have q3 := q3.ext X6
    have hb6 := (X6.get h'.n (by omega)).trans hb5
    have XC := XC.trans (X6.mono (by omega))
    have t6 := tabs_ext hh XC ht
    obtain ⟨p0, p1, p2, p3, p4, p5, p6⟩ := had_cells (show h'.n < h6.n by omega) hb6
    repeat' (first | done | ((with_reducible refine brK_yes ?_ ?_); (· omega)) | ((with_reducible refine brK_no ?_ ?_); (· omega)) | (with_reducible refine brK_both (fun _ => ?_) (fun _ => ?_)) | ((with_reducible refine And.intro (And.intro ?_ ?_) ?_); (· omega); (· omega)) | ((with_reducible refine And.intro ?_ ?_); (· omega)) | (with_reducible refine And.intro (show List.all _ oneCell = true from rfl) ?_) | ((with_reducible refine st_newM ?_ ?_); (· rfl)) | ((with_reducible refine bs_oneM ?_ ?_); (· rfl)) | (with_reducible refine bd_of (by with_unfolding_all (simp only [fillL_cons, fillL_nil, nth_eq, blt_eq, cond_beq, over, Value.cells, List.getElem?_cons_zero, List.getElem?_cons_succ, List.length_cons, List.length_nil, Nat.reduceAdd, Nat.reduceSub, Nat.reduceLT, Nat.reduceEqDiff, decide_true, cond_true, Option.map_some, if_true, if_false, Nat.add_one_sub_one, Nat.succ_ne_zero, reduceCtorEq, OfNat.ofNat]; rfl)) ?_) | (with_reducible refine bda_of (by with_unfolding_all rfl) ?_) | (simp -dsimp only [↓getK_same, ↓getK_ne, ↓evK_tmp, ↓planW_d, ↓agK_nil, ↓ld1_some, ↓evs_nil, ↓evs_cons, ↓opW_call, ↓agK_load, ↓agV_same, ↓agV_ne, ↓agl_3, ↓agl_27, onV_some', true_and, and_true, ne_eq, Nat.reduceEqDiff, Nat.reduceAdd, not_false_eq_true, Addr.add_lit, p4, p5, p6, same_int, sF]))
    refine Itoa_ret t6 (by omega) o.r.1 o.r.2 fun h7 X7 => ?_
    unfold itoaV
    have n7 := X7.n
    have q2 := q2.ext X7
    have q3 := q3.ext X7
    have hb7 := (X7.get h'.n (by omega)).trans hb6
    have XC := XC.trans (X7.mono (by omega))
    have t7 := tabs_ext hh XC ht
    obtain ⟨p0, p1, p2, p3, p4, p5, p6⟩ := had_cells (show h'.n < h7.n by omega) hb7
    repeat' (first | done | ((with_reducible refine brK_yes ?_ ?_); (· omega)) | ((with_reducible refine brK_no ?_ ?_); (· omega)) | (with_reducible refine brK_both (fun _ => ?_) (fun _ => ?_)) | ((with_reducible refine And.intro (And.intro ?_ ?_) ?_); (· omega); (· omega)) | ((with_reducible refine And.intro ?_ ?_); (· omega)) | (with_reducible refine And.intro (show List.all _ oneCell = true from rfl) ?_) | ((with_reducible refine st_newM ?_ ?_); (· rfl)) | ((with_reducible refine bs_oneM ?_ ?_); (· rfl)) | (with_reducible refine bd_of (by with_unfolding_all (simp only [fillL_cons, fillL_nil, nth_eq, blt_eq, cond_beq, over, Value.cells, List.getElem?_cons_zero, List.getElem?_cons_succ, List.length_cons, List.length_nil, Nat.reduceAdd, Nat.reduceSub, Nat.reduceLT, Nat.reduceEqDiff, decide_true, cond_true, Option.map_some, if_true, if_false, Nat.add_one_sub_one, Nat.succ_ne_zero, reduceCtorEq, OfNat.ofNat]; rfl)) ?_) | (with_reducible refine bda_of (by with_unfolding_all rfl) ?_) | (simp -dsimp only [↓getK_same, ↓getK_ne, ↓evK_tmp, ↓planW_d, ↓agK_nil, ↓ld1_some, ↓evs_nil, ↓evs_cons, ↓opW_call, ↓agK_load, ↓agV_same, ↓agV_ne, ↓agl_3, ↓agl_27, onV_some', true_and, and_true, ne_eq, Nat.reduceEqDiff, Nat.reduceAdd, not_false_eq_true, Addr.add_lit, p5, p6, same_int, sF]))
    refine Itoa_ret t7 (by omega) o.t.1 o.t.2 fun h8 X8 => ?_
    unfold itoaV
    have n8 := X8.n
    have q2 := q2.ext X8
    have q3 := q3.ext X8
    have hb8 := (X8.get h'.n (by omega)).trans hb7
    have XC := XC.trans (X8.mono (by omega))
    have t8 := tabs_ext hh XC ht
    obtain ⟨p0, p1, p2, p3, p4, p5, p6⟩ := had_cells (show h'.n < h8.n by omega) hb8
    repeat' (first | done | ((with_reducible refine brK_yes ?_ ?_); (· omega)) | ((with_reducible refine brK_no ?_ ?_); (· omega)) | (with_reducible refine brK_both (fun _ => ?_) (fun _ => ?_)) | ((with_reducible refine And.intro (And.intro ?_ ?_) ?_); (· omega); (· omega)) | ((with_reducible refine And.intro ?_ ?_); (· omega)) | (with_reducible refine And.intro (show List.all _ oneCell = true from rfl) ?_) | ((with_reducible refine st_newM ?_ ?_); (· rfl)) | ((with_reducible refine bs_oneM ?_ ?_); (· rfl)) | (with_reducible refine bd_of (by with_unfolding_all (simp only [fillL_cons, fillL_nil, nth_eq, blt_eq, cond_beq, over, Value.cells, List.getElem?_cons_zero, List.getElem?_cons_succ, List.length_cons, List.length_nil, Nat.reduceAdd, Nat.reduceSub, Nat.reduceLT, Nat.reduceEqDiff, decide_true, cond_true, Option.map_some, if_true, if_false, Nat.add_one_sub_one, Nat.succ_ne_zero, reduceCtorEq, OfNat.ofNat]; rfl)) ?_) | (with_reducible refine bda_of (by with_unfolding_all rfl) ?_) | (simp -dsimp only [↓getK_same, ↓getK_ne, ↓evK_tmp, ↓planW_d, ↓agK_nil, ↓ld1_some, ↓evs_nil, ↓evs_cons, ↓opW_call, ↓agK_load, ↓agV_same, ↓agV_ne, ↓agl_27, onV_some', true_and, and_true, ne_eq, Nat.reduceEqDiff, Nat.reduceAdd, not_false_eq_true, Addr.add_lit, p6, sF]))
    refine text_v o.fb t8 (by omega) fun h9 X9 => ?_
    unfold strV
    have n9 := X9.n
    have q2 := q2.ext X9
    have q3 := q3.ext X9
    have hb9 := (X9.get h'.n (by omega)).trans hb8
    have XC := XC.trans (X9.mono (by omega))
    have t9 := tabs_ext hh XC ht
    obtain ⟨p0, p1, p2, p3, p4, p5, p6⟩ := had_cells (show h'.n < h9.n by omega) hb9
    repeat' (first | done | ((with_reducible refine brK_yes ?_ ?_); (· omega)) | ((with_reducible refine brK_no ?_ ?_); (· omega)) | (with_reducible refine brK_both (fun _ => ?_) (fun _ => ?_)) | ((with_reducible refine And.intro (And.intro ?_ ?_) ?_); (· omega); (· omega)) | ((with_reducible refine And.intro ?_ ?_); (· omega)) | (with_reducible refine And.intro (show List.all _ oneCell = true from rfl) ?_) | ((with_reducible refine st_newM ?_ ?_); (· rfl)) | ((with_reducible refine bs_oneM ?_ ?_); (· rfl)) | (with_reducible refine bd_of (by with_unfolding_all (simp only [fillL_cons, fillL_nil, nth_eq, blt_eq, cond_beq, over, Value.cells, List.getElem?_cons_zero, List.getElem?_cons_succ, List.length_cons, List.length_nil, Nat.reduceAdd, Nat.reduceSub, Nat.reduceLT, Nat.reduceEqDiff, decide_true, cond_true, Option.map_some, if_true, if_false, Nat.add_one_sub_one, Nat.succ_ne_zero, reduceCtorEq, OfNat.ofNat]; rfl)) ?_) | (with_reducible refine bda_of (by with_unfolding_all rfl) ?_) | (simp -dsimp only [↓getK_same, ↓getK_ne, ↓evK_tmp, ↓planW_d, ↓agK_nil, ↓evp_nil, ↓evp_cons, ↓bsl_46_6, true_and, ne_eq, Nat.reduceEqDiff, not_false_eq_true, app_str]))
    refine bs_of (l := [strV (Lib.itoa x.i ++ [46] ++ Lib.decDigits x.g.toNat), strV (Lib.itoa x.s), strV (Lib.itoa x.c), strV (Lib.itoa x.r), strV (Lib.itoa x.t), strV (textL x.v)]) rfl ?_
    have hx := cellsAt_newE (h := h9) (cs := [strV (Lib.itoa x.i ++ [46] ++ Lib.decDigits x.g.toNat), strV (Lib.itoa x.s), strV (Lib.itoa x.c), strV (Lib.itoa x.r), strV (Lib.itoa x.t), strV (textL x.v)]) (e := 9) (b := true) (n := 6) rfl
    have XN : ExtB h9.n h9 (newBlk h9 (.cells [strV (Lib.itoa x.i ++ [46] ++ Lib.decDigits x.g.toNat), strV (Lib.itoa x.s), strV (Lib.itoa x.c), strV (Lib.itoa x.r), strV (Lib.itoa x.t), strV (textL x.v)] 9 true)) := ExtB.new _ (Nat.le_refl _)
    have nN : (newBlk h9 (.cells [strV (Lib.itoa x.i ++ [46] ++ Lib.decDigits x.g.toNat), strV (Lib.itoa x.s), strV (Lib.itoa x.c), strV (Lib.itoa x.r), strV (Lib.itoa x.t), strV (textL x.v)] 9 true)).n = h9.n + 1 := rfl
    generalize newBlk h9 (.cells [strV (Lib.itoa x.i ++ [46] ++ Lib.decDigits x.g.toNat), strV (Lib.itoa x.s), strV (Lib.itoa x.c), strV (Lib.itoa x.r), strV (Lib.itoa x.t), strV (textL x.v)] 9 true) = hA at hx XN nN ⊢
    have q2 := q2.ext XN
    have q3 := q3.ext XN
    have hbA := (XN.get h'.n (by omega)).trans hb9
    have XC := XC.trans (XN.mono (by omega))
    obtain ⟨p0, p1, p2, p3, p4, p5, p6⟩ := had_cells (show h'.n < hA.n by omega) hbA
    repeat' (first | done | ((with_reducible refine brK_yes ?_ ?_); (· omega)) | ((with_reducible refine brK_no ?_ ?_); (· omega)) | (with_reducible refine brK_both (fun _ => ?_) (fun _ => ?_)) | ((with_reducible refine And.intro (And.intro ?_ ?_) ?_); (· omega); (· omega)) | ((with_reducible refine And.intro ?_ ?_); (· omega)) | (with_reducible refine And.intro (show List.all _ oneCell = true from rfl) ?_) | ((with_reducible refine st_newM ?_ ?_); (· rfl)) | ((with_reducible refine bs_oneM ?_ ?_); (· rfl)) | (with_reducible refine bd_of (by with_unfolding_all (simp only [fillL_cons, fillL_nil, nth_eq, blt_eq, cond_beq, over, Value.cells, List.getElem?_cons_zero, List.getElem?_cons_succ, List.length_cons, List.length_nil, Nat.reduceAdd, Nat.reduceSub, Nat.reduceLT, Nat.reduceEqDiff, decide_true, cond_true, Option.map_some, if_true, if_false, Nat.add_one_sub_one, Nat.succ_ne_zero, reduceCtorEq, OfNat.ofNat]; rfl)) ?_) | (with_reducible refine bda_of (by with_unfolding_all rfl) ?_) | (simp -dsimp only [↓getK_same, ↓evK_tmp, ↓evK_string, ↓planW_d, ↓agK_nil, ↓evs_nil, ↓evs_cons, ↓opW_call, true_and]))
    refine join_ret (xs := [Lib.itoa x.i ++ [46] ++ Lib.decDigits x.g.toNat, Lib.itoa x.s, Lib.itoa x.c, Lib.itoa x.r, Lib.itoa x.t, textL x.v]) (sep := [32]) (by omega) hx (by show 1 ≤ 6; omega) (by show 6 ≤ _; omega) ?_ ?_
    · rw [join6]; simp only [List.length_append, List.length_cons, List.length_nil]; omega
    rw [join6]
    unfold strV
    repeat' (first | done | ((with_reducible refine brK_yes ?_ ?_); (· omega)) | ((with_reducible refine brK_no ?_ ?_); (· omega)) | (with_reducible refine brK_both (fun _ => ?_) (fun _ => ?_)) | ((with_reducible refine And.intro (And.intro ?_ ?_) ?_); (· omega); (· omega)) | ((with_reducible refine And.intro ?_ ?_); (· omega)) | (with_reducible refine And.intro (show List.all _ oneCell = true from rfl) ?_) | ((with_reducible refine st_newM ?_ ?_); (· rfl)) | ((with_reducible refine bs_oneM ?_ ?_); (· rfl)) | (with_reducible refine bd_of (by with_unfolding_all (simp only [fillL_cons, fillL_nil, nth_eq, blt_eq, cond_beq, over, Value.cells, List.getElem?_cons_zero, List.getElem?_cons_succ, List.length_cons, List.length_nil, Nat.reduceAdd, Nat.reduceSub, Nat.reduceLT, Nat.reduceEqDiff, decide_true, cond_true, Option.map_some, if_true, if_false, Nat.add_one_sub_one, Nat.succ_ne_zero, reduceCtorEq, OfNat.ofNat]; rfl)) ?_) | (with_reducible refine bda_of (by with_unfolding_all rfl) ?_) | (simp -dsimp only [↓getK_same, ↓getK_ne, ↓evK_tmp, ↓planW_d, ↓agK_nil, ↓evp_nil, ↓evp_cons, ↓bsl_46_1, ↓ap_46_46, newBlk_n, true_and, ne_eq, Nat.reduceEqDiff, not_false_eq_true]))
    refine app_row (new := [strV (lineL x)]) q2 (by omega) (hlen _) (by omega) rfl rfl (by decide) rfl fun v2 hB r2' XB2 kB nB => ?_
    have q3' := q3.keep XB2.n fun j _ hj hg => kB j _ _ _ hj hg (.inl (by decide))
    rw [← e2 fun x => strV (lineL x)] at r2'
    repeat' (first | done | ((with_reducible refine brK_yes ?_ ?_); (· omega)) | ((with_reducible refine brK_no ?_ ?_); (· omega)) | (with_reducible refine brK_both (fun _ => ?_) (fun _ => ?_)) | ((with_reducible refine And.intro (And.intro ?_ ?_) ?_); (· omega); (· omega)) | ((with_reducible refine And.intro ?_ ?_); (· omega)) | (with_reducible refine And.intro (show List.all _ oneCell = true from rfl) ?_) | ((with_reducible refine st_newM ?_ ?_); (· rfl)) | ((with_reducible refine bs_oneM ?_ ?_); (· rfl)) | (with_reducible refine bd_of (by with_unfolding_all (simp only [fillL_cons, fillL_nil, nth_eq, blt_eq, cond_beq, over, Value.cells, List.getElem?_cons_zero, List.getElem?_cons_succ, List.length_cons, List.length_nil, Nat.reduceAdd, Nat.reduceSub, Nat.reduceLT, Nat.reduceEqDiff, decide_true, cond_true, Option.map_some, if_true, if_false, Nat.add_one_sub_one, Nat.succ_ne_zero, reduceCtorEq, OfNat.ofNat]; rfl)) ?_) | (with_reducible refine bda_of (by with_unfolding_all rfl) ?_) | (simp -dsimp only [↓cw_ops, ↓seqK_normal, ↓blockK_normal, ↓loopK_normal, ↓getK_same, ↓getK_ne, ↓evK_tmp, ↓evK_int, ↓opsW_nil, ↓opsW_d, ↓planW_nil, ↓planW_d, ↓agK_nil, ↓opW_move, ↓opW_assign, ↓opW_bin, ↓bin_add, ↓r32_2_w, ↓s32_3_w, newBlk_n, Nat.le_refl, true_and, ne_eq, Nat.reduceEqDiff, Nat.reduceAdd, not_false_eq_true, Nat.add_zero, Addr.add_lit, Int.toNat_natCast, ↓g9, app_str]))
    exact ⟨l.length - (k + 1), by omega, k + 1, by omega, rfl, by simp [T.get_set, wrap_succ (show k ≤ 4611686018427387904 by omega)], XC.trans XB2, v2, w2, by simp [T.get_set], by simp [T.get_set], r2', q3'⟩
  · have e : k = l.length := by omega
    subst e
    rw [List.take_length] at r2 r3
    have hfb : ∀ y ∈ l.map HadR.v, FB y := by
      intro y hy
      obtain ⟨x, hx, rfl⟩ := List.mem_map.1 hy
      exact (ok x hx).fb
    have r3 : RowG h.n h' 27 w (l.map HadR.v).length (l.map HadR.v) := by rw [List.length_map]; exact r3
    obtain ⟨a2, c2, rfl, fr2⟩ := row27 r3 hfb (by rw [List.length_map]; omega)
    have fj := jain_FB hfb
    have l7 := textL_len fj
    repeat' (first | done | ((with_reducible refine brK_yes ?_ ?_); (· omega)) | ((with_reducible refine brK_no ?_ ?_); (· omega)) | (with_reducible refine brK_both (fun _ => ?_) (fun _ => ?_)) | ((with_reducible refine And.intro (And.intro ?_ ?_) ?_); (· omega); (· omega)) | ((with_reducible refine And.intro ?_ ?_); (· omega)) | (with_reducible refine And.intro (show List.all _ oneCell = true from rfl) ?_) | ((with_reducible refine st_newM ?_ ?_); (· rfl)) | ((with_reducible refine bs_oneM ?_ ?_); (· rfl)) | (with_reducible refine bd_of (by with_unfolding_all (simp only [fillL_cons, fillL_nil, nth_eq, blt_eq, cond_beq, over, Value.cells, List.getElem?_cons_zero, List.getElem?_cons_succ, List.length_cons, List.length_nil, Nat.reduceAdd, Nat.reduceSub, Nat.reduceLT, Nat.reduceEqDiff, decide_true, cond_true, Option.map_some, if_true, if_false, Nat.add_one_sub_one, Nat.succ_ne_zero, reduceCtorEq, OfNat.ofNat]; rfl)) ?_) | (with_reducible refine bda_of (by with_unfolding_all rfl) ?_) | (simp -dsimp only [↓cw_ops, ↓cw_seq, ↓cw_exit, ↓cw_cond, ↓seqK_normal, ↓seqK_exit, ↓blockK_same, ↓loopK_exit, ↓getK_same, ↓getK_ne, ↓evK_tmp, ↓condV_var, ↓opsW_nil, ↓opsW_d, ↓opW_move, ↓opW_bin, ↓bin_lss, ↓evs_nil, ↓evs_cons, ↓opW_call, ↓r32_0_w, ↓s32_1_w, ↓s32_13_w, ↓s32_14_w, ↓r32_15_w, ↓s32_16_w, brK_false, ne_eq, Nat.reduceEqDiff, not_false_eq_true, Bool.false_eq_true,  ↓g9, ↓g2, ↓g3, ↓a8]))
    refine jain_ret fr2 fun h2 X2 => ?_
    have n2 := X2.n
    have r2 := r2.ext X2
    have XC := X.trans (X2.mono hn)
    have t2 := tabs_ext hh XC ht
    repeat' (first | done | ((with_reducible refine brK_yes ?_ ?_); (· omega)) | ((with_reducible refine brK_no ?_ ?_); (· omega)) | (with_reducible refine brK_both (fun _ => ?_) (fun _ => ?_)) | ((with_reducible refine And.intro (And.intro ?_ ?_) ?_); (· omega); (· omega)) | ((with_reducible refine And.intro ?_ ?_); (· omega)) | (with_reducible refine And.intro (show List.all _ oneCell = true from rfl) ?_) | ((with_reducible refine st_newM ?_ ?_); (· rfl)) | ((with_reducible refine bs_oneM ?_ ?_); (· rfl)) | (with_reducible refine bd_of (by with_unfolding_all (simp only [fillL_cons, fillL_nil, nth_eq, blt_eq, cond_beq, over, Value.cells, List.getElem?_cons_zero, List.getElem?_cons_succ, List.length_cons, List.length_nil, Nat.reduceAdd, Nat.reduceSub, Nat.reduceLT, Nat.reduceEqDiff, decide_true, cond_true, Option.map_some, if_true, if_false, Nat.add_one_sub_one, Nat.succ_ne_zero, reduceCtorEq, OfNat.ofNat]; rfl)) ?_) | (with_reducible refine bda_of (by with_unfolding_all rfl) ?_) | (simp -dsimp only [↓getK_same, ↓evK_tmp, ↓opsW_d, ↓evs_nil, ↓evs_cons, ↓opW_call]))
    refine text_v fj t2 (by omega) fun h3 X3 => ?_
    have n3 := X3.n
    have r2 := r2.ext X3
    have XC := XC.trans (X3.mono (by omega))
    unfold strV
    repeat' (first | done | ((with_reducible refine brK_yes ?_ ?_); (· omega)) | ((with_reducible refine brK_no ?_ ?_); (· omega)) | (with_reducible refine brK_both (fun _ => ?_) (fun _ => ?_)) | ((with_reducible refine And.intro (And.intro ?_ ?_) ?_); (· omega); (· omega)) | ((with_reducible refine And.intro ?_ ?_); (· omega)) | (with_reducible refine And.intro (show List.all _ oneCell = true from rfl) ?_) | ((with_reducible refine st_newM ?_ ?_); (· rfl)) | ((with_reducible refine bs_oneM ?_ ?_); (· rfl)) | (with_reducible refine bd_of (by with_unfolding_all (simp only [fillL_cons, fillL_nil, nth_eq, blt_eq, cond_beq, over, Value.cells, List.getElem?_cons_zero, List.getElem?_cons_succ, List.length_cons, List.length_nil, Nat.reduceAdd, Nat.reduceSub, Nat.reduceLT, Nat.reduceEqDiff, decide_true, cond_true, Option.map_some, if_true, if_false, Nat.add_one_sub_one, Nat.succ_ne_zero, reduceCtorEq, OfNat.ofNat]; rfl)) ?_) | (with_reducible refine bda_of (by with_unfolding_all rfl) ?_) | (simp -dsimp only [↓getK_same, ↓getK_ne, ↓evK_tmp, ↓evK_string, ↓opsW_d, ↓opW_bin, ↓evp_nil, ↓evp_cons, ↓bsl_46_1, ↓ap_46_46, List.length_cons, List.length_nil, ne_eq, Nat.reduceEqDiff, Nat.reduceAdd, not_false_eq_true, bin_addS, app_str, str_size]))
    refine app_row (new := [strV (fairL (l.map HadR.v))]) r2 (by omega) (by rw [List.length_map]; omega) (by omega) rfl rfl (by decide) rfl fun v2 hB r2' XB2 kB nB => ?_
    repeat' (first | done | ((with_reducible refine brK_yes ?_ ?_); (· omega)) | ((with_reducible refine brK_no ?_ ?_); (· omega)) | (with_reducible refine brK_both (fun _ => ?_) (fun _ => ?_)) | ((with_reducible refine And.intro (And.intro ?_ ?_) ?_); (· omega); (· omega)) | ((with_reducible refine And.intro ?_ ?_); (· omega)) | (with_reducible refine And.intro (show List.all _ oneCell = true from rfl) ?_) | ((with_reducible refine st_newM ?_ ?_); (· rfl)) | ((with_reducible refine bs_oneM ?_ ?_); (· rfl)) | (with_reducible refine bd_of (by with_unfolding_all (simp only [fillL_cons, fillL_nil, nth_eq, blt_eq, cond_beq, over, Value.cells, List.getElem?_cons_zero, List.getElem?_cons_succ, List.length_cons, List.length_nil, Nat.reduceAdd, Nat.reduceSub, Nat.reduceLT, Nat.reduceEqDiff, decide_true, cond_true, Option.map_some, if_true, if_false, Nat.add_one_sub_one, Nat.succ_ne_zero, reduceCtorEq, OfNat.ofNat]; rfl)) ?_) | (with_reducible refine bda_of (by with_unfolding_all rfl) ?_) | (simp -dsimp only [↓cw_ret, ↓seqK_normal, ↓getK_same, ↓evK_tmp, ↓opsW_nil, ↓opsW_d, ↓opW_assign, ↓resK_one]))
    obtain ⟨a4, c4, e4, R4⟩ := rowS (L := linesL l) (by rw [linesL, List.length_append, List.length_map]; exact (show (l.map fun x => strV (lineL x)) ++ [strV (fairL (l.map HadR.v))] = (l.map lineL ++ [fairL (l.map HadR.v)]).map strV by simp [Function.comp_def]) ▸ r2')
    rw [e4]
    exact hK _ _ _ R4 (XC.trans XB2)
end Go.Proofs.YtjcmcoabckkjoaaDoor.Li

