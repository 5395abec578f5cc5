/- SCRIPTS AS THEY ARE READ; copies of rows; how much there is. Conditions: none beyond each theorem's own. -/
import Derived.Test.YtohjaacnlmkhbaaGreatDoorKC
set_option linter.unusedSimpArgs false
set_option linter.unusedVariables false
namespace Go.Proofs.YtohjaacnlmkhbaaGreatDoor
open Go.Ev
set_option maxRecDepth 100000
set_option maxHeartbeats 400000
/-! scripts, as they are read -/
structure ActD where
  k : Int
  p : Int
  v : Int
  c : Int
deriving DecidableEq
def ActD.cells (x : ActD) : List Value := [.int .i64 x.k, .int .i64 x.p, .int .i64 x.v, .int .i64 x.c]
def RdB (B : Nat) (h : Heap) (v : Value) (l : List UInt8) : Prop :=
  ∃ a c, v = .slice a l.length c ∧ (l ≠ [] → ∃ i o, a = some ⟨i, o, none⟩ ∧ i < B ∧ cellsAt h ⟨i, o, none⟩ l.length = some (l.map byteV))
def RdP (B : Nat) (h : Heap) (v : Value) (P : List (List UInt8)) : Prop :=
  ∃ a c, v = .slice a P.length c ∧ ∀ (k : Nat) l, P[k]? = some l → ∃ i o u, a = some ⟨i, o, none⟩ ∧ i < B ∧ cellAt h ⟨i, o + k, none⟩ = some u ∧ RdB B h u l
def RdA (B : Nat) (h : Heap) (v : Value) (A : List ActD) : Prop := ∃ a c, v = .slice a A.length c ∧ RowAt B h a 4 (A.map ActD.cells)
theorem RdB.ext {B : Nat} {h h' : Heap} {v : Value} {l : List UInt8} (r : RdB B h v l) (x : ExtB B h h') : RdB B h' v l := by
  obtain ⟨a, c, e, q⟩ := r
  exact ⟨a, c, e, fun hl => let ⟨i, o, e1, e2, e3⟩ := q hl; ⟨i, o, e1, e2, cellsAt_ext x e2 e3⟩⟩
theorem RdB.mono {B B' : Nat} {h : Heap} {v : Value} {l : List UInt8} (r : RdB B h v l) (hb : B ≤ B') : RdB B' h v l := by
  obtain ⟨a, c, e, q⟩ := r
  exact ⟨a, c, e, fun hl => let ⟨i, o, e1, e2, e3⟩ := q hl; ⟨i, o, e1, by omega, e3⟩⟩
theorem RdP.ext {B : Nat} {h h' : Heap} {v : Value} {l : List (List UInt8)} (r : RdP B h v l) (x : ExtB B h h') : RdP B h' v l := by
  obtain ⟨a, c, e, q⟩ := r
  exact ⟨a, c, e, fun k y hy => let ⟨i, o, u, e1, e2, e3, e4⟩ := q k y hy; ⟨i, o, u, e1, e2, cellAt_ext x e2 e3, e4.ext x⟩⟩
theorem RdP.mono {B B' : Nat} {h : Heap} {v : Value} {l : List (List UInt8)} (r : RdP B h v l) (hb : B ≤ B') : RdP B' h v l := by
  obtain ⟨a, c, e, q⟩ := r
  exact ⟨a, c, e, fun k y hy => let ⟨i, o, u, e1, e2, e3, e4⟩ := q k y hy; ⟨i, o, u, e1, by omega, e3, e4.mono hb⟩⟩
theorem RdA.ext {B : Nat} {h h' : Heap} {v : Value} {l : List ActD} (r : RdA B h v l) (x : ExtB B h h') : RdA B h' v l := by
  obtain ⟨a, c, e, q⟩ := r; exact ⟨a, c, e, q.ext x⟩
theorem RdA.mono {B B' : Nat} {h : Heap} {v : Value} {l : List ActD} (r : RdA B h v l) (hb : B ≤ B') : RdA B' h v l := by
  obtain ⟨a, c, e, q⟩ := r; exact ⟨a, c, e, q.mono hb⟩
theorem bytes_one (l : List UInt8) : (l.map byteV).all oneCell = true := by simp [List.all_eq_true, byteV, oneCell]
theorem RdB.own {B : Nat} {h : Heap} {v : Value} {l : List UInt8} (o : OwnS B h 5 v l.length (l.map byteV)) : RdB h.n h v l := by
  generalize hc : l.map byteV = cs at o
  generalize hn : l.length = n at o
  cases o with
  | nil => exact ⟨_, _, by rw [hn], fun hl => absurd (List.length_eq_zero_iff.1 hn) hl⟩
  | emp i hi => exact ⟨_, _, by rw [hn], fun hl => absurd (List.length_eq_zero_iff.1 hn) hl⟩
  | row i n cs h1 h2 h3 => exact ⟨_, _, by rw [hn], fun hl => ⟨i, 0, rfl, h2, cellsAt_blk h2 h3 (by rw [← hc, ← List.length_map (f := byteV), List.drop_zero, List.take_length]) (by simp)⟩⟩
theorem RdB.first {B : Nat} {h : Heap} {v : Value} {l : List UInt8} (r : RdB B h v l) (h0 : l.length ≠ 0) : firstCells h 1 l.length v = some (l.map byteV) := by
  obtain ⟨a, c, rfl, q⟩ := r
  obtain ⟨i, o, rfl, _, q⟩ := q fun e => h0 (by rw [e]; rfl)
  simp only [firstCells, Nat.mul_one]
  exact q
theorem cloneB_ret {B : Nat} {v : Value} {l : List UInt8} {h : Heap} {K : Value → Heap → Prop} (r : RdB B h v l) (hB : B ≤ h.n) (hN : l.length ≤ 50000) (hK : ∀ v' h', OwnS h.n h' 5 v' l.length (l.map byteV) → ExtB h.n h h' → K v' h') : Ret env (.func 56) [v] h K := by
  refine F56 rfl ?_
  obtain ⟨a, c, rfl, q⟩ := id r
  cases a with
  | none =>
    have hN0 : l = [] := by
      rcases l with _ | ⟨x, l⟩
      · rfl
      · obtain ⟨i, o, e, _⟩ := q (by simp); cases e
    subst hN0
    repeat' (first | done | with_reducible (first | refine y1 ?_ (by omega) | refine y2 ?_ (by omega) | refine y3 (fun _ => ?_) (fun _ => ?_) | refine y4 ?_ (by omega) (by omega) | refine y5 ?_ (by omega) | refine y6 ?_ (by with_unfolding_all rfl) | refine y7 ?_ (by with_unfolding_all rfl) | refine y8 ?_ (by with_unfolding_all rfl) | refine y9 ?_ (by with_unfolding_all rfl) | refine ya ?_ (by with_unfolding_all rfl)) | ((with_reducible refine And.intro ?_ ?_); (· omega)) | (simp -dsimp only [↓cw_ops, ↓cw_seq, ↓cw_ret, ↓cw_cond, ↓seqK_normal, ↓seqK_ret, ↓getK_same, ↓getK_ne, ↓evK_tmp, ↓evK_nilslice, ↓condV_var, ↓opsW_nil, ↓opsW_d, ↓opW_move, ↓opW_assign, ↓opW_bin, ↓resK_one, ↓setAll_cons, ↓setAll_nil, ↓eqN_36, ↓r56_2_w, ↓s56_3_w, ↓s56_4_w, ↓r56_5_w, ↓s56_6_w, ↓s56_7_w, ↓r56_8_w, ↓s56_9_w, List.length_nil, brK_true, ne_eq, Nat.reduceEqDiff, not_false_eq_true, eqN_36, Option.isNone_none]))
    exact hK _ h .nil (ExtB.refl _ _)
  | some a =>
    repeat' (first | done | with_reducible (first | refine y1 ?_ (by omega) | refine y2 ?_ (by omega) | refine y3 (fun _ => ?_) (fun _ => ?_) | refine y4 ?_ (by omega) (by omega) | refine y5 ?_ (by omega) | refine y6 ?_ (by with_unfolding_all rfl) | refine y7 ?_ (by with_unfolding_all rfl) | refine y8 ?_ (by with_unfolding_all rfl) | refine y9 ?_ (by with_unfolding_all rfl) | refine ya ?_ (by with_unfolding_all rfl)) | ((with_reducible refine And.intro ?_ ?_); (· omega)) | (simp -dsimp only [↓cw_skip, ↓cw_ops, ↓cw_seq, ↓cw_cond, ↓seqK_normal, ↓getK_same, ↓getK_ne, ↓evK_tmp, ↓evK_nilslice, ↓condV_var, ↓opsW_nil, ↓opsW_d, ↓opW_move, ↓opW_assign, ↓opW_bin, ↓setAll_cons, ↓setAll_nil, ↓evp_nil, ↓eqN_36, ↓bsl_36_0, ↓r56_0_w, ↓s56_1_w, ↓s56_4_w, ↓r56_5_w, ↓s56_6_w, ↓s56_7_w, ↓r56_8_w, ↓s56_9_w, brK_false, ne_eq, Nat.reduceEqDiff, not_false_eq_true, Bool.false_eq_true,  eqN_36, Option.isNone_some]))
    have X1 : ExtB h.n h (newBlk h (.cells [] 5 true)) := ExtB.new _ (Nat.le_refl _)
    have hn1 : (newBlk h (.cells [] 5 true)).n = h.n + 1 := rfl
    refine bs_of (l := []) rfl ?_
    generalize newBlk h (.cells [] 5 true) = h1 at X1 hn1 ⊢
    repeat' (first | done | with_reducible (first | refine y1 ?_ (by omega) | refine y2 ?_ (by omega) | refine y3 (fun _ => ?_) (fun _ => ?_) | refine y4 ?_ (by omega) (by omega) | refine y5 ?_ (by omega) | refine y6 ?_ (by with_unfolding_all rfl) | refine y7 ?_ (by with_unfolding_all rfl) | refine y8 ?_ (by with_unfolding_all rfl) | refine y9 ?_ (by with_unfolding_all rfl) | refine ya ?_ (by with_unfolding_all rfl)) | ((with_reducible refine And.intro ?_ ?_); (· omega)) | (simp -dsimp only [↓getK_same, ↓getK_ne, ↓evK_tmp, ↓opsW_d, ↓opW_move, ↓setAll_cons, ↓setAll_nil, ↓ap_36_36, ne_eq, Nat.reduceEqDiff, not_false_eq_true]))
    refine app_ownG (OwnS.emp (B := h.n) h.n (by omega)) (by omega) rfl rfl (by omega) (fun h0 => ((r.ext (X1.mono hB)).first h0)) (by simp) (bytes_one l) (by decide) fun v' h' o X2 => ?_
    rw [Nat.zero_add, List.nil_append] at o
    have n2 := X2.n
    repeat' (first | done | with_reducible (first | refine y1 ?_ (by omega) | refine y2 ?_ (by omega) | refine y3 (fun _ => ?_) (fun _ => ?_) | refine y4 ?_ (by omega) (by omega) | refine y5 ?_ (by omega) | refine y6 ?_ (by with_unfolding_all rfl) | refine y7 ?_ (by with_unfolding_all rfl) | refine y8 ?_ (by with_unfolding_all rfl) | refine y9 ?_ (by with_unfolding_all rfl) | refine ya ?_ (by with_unfolding_all rfl)) | ((with_reducible refine And.intro ?_ ?_); (· omega)) | (simp -dsimp only [↓cw_ret, ↓seqK_normal, ↓getK_same, ↓evK_tmp, ↓opsW_nil, ↓opsW_d, ↓opW_assign, ↓resK_one]))
    exact hK v' h' o (X1.trans X2)
theorem acts_len (A : List ActD) : (A.map ActD.cells).flatten.length = A.length * 4 := by rw [flat_len (sz := 4) _ (by simp [ActD.cells])]; simp
theorem acts_one (A : List ActD) : (A.map ActD.cells).flatten.all oneCell = true := by
  rw [List.all_eq_true]
  intro x hx
  obtain ⟨l, hl, hx⟩ := List.mem_flatten.1 hx
  obtain ⟨y, _, rfl⟩ := List.mem_map.1 hl
  simp only [ActD.cells, List.mem_cons, List.not_mem_nil, or_false] at hx
  rcases hx with rfl | rfl | rfl | rfl <;> rfl
theorem RdA.first {B : Nat} {h : Heap} {v : Value} {A : List ActD} (r : RdA B h v A) (h0 : A.length ≠ 0) : firstCells h 4 A.length v = some (A.map ActD.cells).flatten := by
  obtain ⟨a, c, rfl, q⟩ := r
  obtain ⟨b, off, rfl, _, e⟩ := RowAt.cells q (by simp [ActD.cells]) (by decide) (by simpa using fun e => h0 (by rw [e]; rfl))
  simp only [firstCells]
  rw [List.length_map] at e
  exact e
theorem RdA.own {B : Nat} {h : Heap} {v : Value} {A : List ActD} (o : OwnS B h 35 v A.length (A.map ActD.cells).flatten) : RdA h.n h v A := by
  obtain ⟨a, c, e, r⟩ := OwnS.rowAt (sz := 4) o (by simp [ActD.cells]) (by simp)
  rw [List.length_map] at e
  exact ⟨a, c, e, r⟩
theorem cloneA_ret {B : Nat} {v : Value} {A : List ActD} {h : Heap} {K : Value → Heap → Prop} (r : RdA B h v A) (hB : B ≤ h.n) (hN : A.length ≤ 50000) (hK : ∀ v' h', OwnS h.n h' 35 v' A.length (A.map ActD.cells).flatten → ExtB h.n h h' → K v' h') : Ret env (.func 21) [v] h K := by
  refine F21 rfl ?_
  obtain ⟨a, c, rfl, q⟩ := id r
  cases a with
  | none =>
    have hN0 : A = [] := by
      rcases A with _ | ⟨x, l⟩
      · rfl
      · obtain ⟨i, o, e, _⟩ := q 0 (by simp); cases e
    subst hN0
    repeat' (first | done | with_reducible (first | refine y1 ?_ (by omega) | refine y2 ?_ (by omega) | refine y3 (fun _ => ?_) (fun _ => ?_) | refine y4 ?_ (by omega) (by omega) | refine y5 ?_ (by omega) | refine y6 ?_ (by with_unfolding_all rfl) | refine y7 ?_ (by with_unfolding_all rfl) | refine y8 ?_ (by with_unfolding_all rfl) | refine y9 ?_ (by with_unfolding_all rfl) | refine ya ?_ (by with_unfolding_all rfl)) | ((with_reducible refine And.intro ?_ ?_); (· omega)) | (simp -dsimp only [↓cw_ops, ↓cw_seq, ↓cw_ret, ↓cw_cond, ↓seqK_normal, ↓seqK_ret, ↓getK_same, ↓getK_ne, ↓evK_tmp, ↓evK_nilslice, ↓condV_var, ↓opsW_nil, ↓opsW_d, ↓opW_move, ↓opW_assign, ↓opW_bin, ↓resK_one, ↓setAll_cons, ↓setAll_nil, ↓eqN_26, ↓r21_2_w, ↓s21_3_w, ↓s21_4_w, ↓r21_5_w, ↓s21_6_w, ↓s21_7_w, ↓r21_8_w, ↓s21_9_w, List.length_nil, brK_true, ne_eq, Nat.reduceEqDiff, not_false_eq_true, eqN_26, Option.isNone_none]))
    exact hK _ h .nil (ExtB.refl _ _)
  | some a =>
    repeat' (first | done | with_reducible (first | refine y1 ?_ (by omega) | refine y2 ?_ (by omega) | refine y3 (fun _ => ?_) (fun _ => ?_) | refine y4 ?_ (by omega) (by omega) | refine y5 ?_ (by omega) | refine y6 ?_ (by with_unfolding_all rfl) | refine y7 ?_ (by with_unfolding_all rfl) | refine y8 ?_ (by with_unfolding_all rfl) | refine y9 ?_ (by with_unfolding_all rfl) | refine ya ?_ (by with_unfolding_all rfl)) | ((with_reducible refine And.intro ?_ ?_); (· omega)) | (simp -dsimp only [↓cw_skip, ↓cw_ops, ↓cw_seq, ↓cw_cond, ↓seqK_normal, ↓getK_same, ↓getK_ne, ↓evK_tmp, ↓evK_nilslice, ↓condV_var, ↓opsW_nil, ↓opsW_d, ↓opW_move, ↓opW_assign, ↓opW_bin, ↓setAll_cons, ↓setAll_nil, ↓evp_nil, ↓eqN_26, ↓bsl_26_0, ↓r21_0_w, ↓s21_1_w, ↓s21_4_w, ↓r21_5_w, ↓s21_6_w, ↓s21_7_w, ↓r21_8_w, ↓s21_9_w, brK_false, ne_eq, Nat.reduceEqDiff, not_false_eq_true, Bool.false_eq_true,  eqN_26, Option.isNone_some]))
    have X1 : ExtB h.n h (newBlk h (.cells [] 35 true)) := ExtB.new _ (Nat.le_refl _)
    have hn1 : (newBlk h (.cells [] 35 true)).n = h.n + 1 := rfl
    refine bs_of (l := []) rfl ?_
    generalize newBlk h (.cells [] 35 true) = h1 at X1 hn1 ⊢
    repeat' (first | done | with_reducible (first | refine y1 ?_ (by omega) | refine y2 ?_ (by omega) | refine y3 (fun _ => ?_) (fun _ => ?_) | refine y4 ?_ (by omega) (by omega) | refine y5 ?_ (by omega) | refine y6 ?_ (by with_unfolding_all rfl) | refine y7 ?_ (by with_unfolding_all rfl) | refine y8 ?_ (by with_unfolding_all rfl) | refine y9 ?_ (by with_unfolding_all rfl) | refine ya ?_ (by with_unfolding_all rfl)) | ((with_reducible refine And.intro ?_ ?_); (· omega)) | (simp -dsimp only [↓getK_same, ↓getK_ne, ↓evK_tmp, ↓opsW_d, ↓opW_move, ↓setAll_cons, ↓setAll_nil, ↓ap_26_26, ne_eq, Nat.reduceEqDiff, not_false_eq_true]))
    refine app_ownG (OwnS.emp (B := h.n) h.n (by omega)) (by omega) rfl rfl (by omega) (fun h0 => ((r.ext (X1.mono hB)).first h0)) (acts_len A) (acts_one A) (by decide) fun v' h' o X2 => ?_
    rw [Nat.zero_add, List.nil_append] at o
    have n2 := X2.n
    repeat' (first | done | with_reducible (first | refine y1 ?_ (by omega) | refine y2 ?_ (by omega) | refine y3 (fun _ => ?_) (fun _ => ?_) | refine y4 ?_ (by omega) (by omega) | refine y5 ?_ (by omega) | refine y6 ?_ (by with_unfolding_all rfl) | refine y7 ?_ (by with_unfolding_all rfl) | refine y8 ?_ (by with_unfolding_all rfl) | refine y9 ?_ (by with_unfolding_all rfl) | refine ya ?_ (by with_unfolding_all rfl)) | ((with_reducible refine And.intro ?_ ?_); (· omega)) | (simp -dsimp only [↓cw_ret, ↓seqK_normal, ↓getK_same, ↓evK_tmp, ↓opsW_nil, ↓opsW_d, ↓opW_assign, ↓resK_one]))
    exact hK v' h' o (X1.trans X2)
/-! a script's own value -/
def cfgL (c : Nat → Int) (pv : Value) : List Value := [.int .i64 (c 0), .int .i64 (c 1), .int .i64 (c 2), .int .i64 (c 3), .int .i64 (c 4), .int .i64 (c 5), .int .i64 (c 6), .int .i64 (c 7), .int .i64 (c 8), .int .i64 (c 9), .int .u64 (c 10), .int .u64 (c 11), .int .u64 (c 12), .int .u64 (c 13), pv]
def scrL (c : Nat → Int) (pv av : Value) : List Value := cfgL c pv ++ [av]
structure Box (h : Heap) (i : Nat) (cs : List Value) (e : TypeId) : Prop where
  lt : i < h.n
  get : h.b.get i = some (.cells cs e true)
theorem Box.new (h : Heap) (cs : List Value) (e : TypeId) : Box (newBlk h (.cells cs e true)) h.n cs e := ⟨Nat.lt_succ_self _, newBlk_same _ _⟩
theorem Box.ext {B : Nat} {h h' : Heap} {i : Nat} {cs : List Value} {e : TypeId} (b : Box h i cs e) (x : ExtB B h h') (hi : i < B) : Box h' i cs e := ⟨Nat.lt_of_lt_of_le b.lt x.n, by rw [x.get i hi]; exact b.get⟩
theorem Box.cfg {h : Heap} {i : Nat} {c : Nat → Int} {pv : Value} (b : Box h i (cfgL c pv) 25) : cellsAt h ⟨i, 0, none⟩ 15 = some (cfgL c pv) ∧ cellAt h ⟨i, 14, none⟩ = some pv := ⟨cellsAt_blk b.lt b.get rfl rfl, cellAt_blk b.lt b.get rfl⟩
theorem Box.scr {h : Heap} {i : Nat} {c : Nat → Int} {pv av : Value} (b : Box h i (scrL c pv av) 28) : cellsAt h ⟨i, 0, none⟩ 16 = some (scrL c pv av) ∧ cellsAt h ⟨i, 0, none⟩ 15 = some (cfgL c pv) ∧ cellAt h ⟨i, 14, none⟩ = some pv ∧ cellAt h ⟨i, 15, none⟩ = some av :=
  ⟨cellsAt_blk b.lt b.get rfl rfl, cellsAt_blk b.lt b.get rfl rfl, cellAt_blk b.lt b.get rfl, cellAt_blk b.lt b.get rfl⟩
theorem cfg_one {c : Nat → Int} {a : Option Addr} {n cc : Nat} : (cfgL c (.slice a n cc)).all oneCell = true := rfl
theorem scr_one {c : Nat → Int} {a a' : Option Addr} {n cc n' cc' : Nat} : (scrL c (.slice a n cc) (.slice a' n' cc')).all oneCell = true := rfl
end Go.Proofs.YtohjaacnlmkhbaaGreatDoor

namespace Go.Proofs.YtohjaacnlmkhbaaGreatDoor
open Go.Ev
set_option maxRecDepth 100000
set_option maxHeartbeats 400000
def sumL (P : List (List UInt8)) (k : Nat) : Nat := ((P.take k).map List.length).sum
theorem sumL_succ {P : List (List UInt8)} {k : Nat} (hk : k < P.length) : sumL P (k + 1) = sumL P k + P[k].length := by
  unfold sumL
  rw [List.take_add_one, List.getElem?_eq_getElem hk, List.map_append, List.sum_append]
  simp only [Option.toList_some, List.map_cons, List.map_nil, List.sum_cons, List.sum_nil, Nat.add_zero]
theorem sumL_le {P : List (List UInt8)} (k : Nat) (hs : ∀ l ∈ P, l.length ≤ 281474976710656) : sumL P k ≤ k * 281474976710656 := by
  induction k with
  | zero => simp [sumL]
  | succ k ih =>
    by_cases hk : k < P.length
    · rw [sumL_succ hk]; have := hs P[k] (List.getElem_mem _); omega
    · have : sumL P (k + 1) = sumL P k := by unfold sumL; rw [List.take_of_length_le (by omega), List.take_of_length_le (by omega)]
      omega
theorem sumL_ge {P : List (List UInt8)} {k : Nat} : ∀ {j : Nat} (hj : j < P.length), j < k → P[j].length ≤ sumL P k := by
  induction k with
  | zero => intro j _ h; omega
  | succ k ih =>
    intro j hj hk
    by_cases hkl : k < P.length
    · rw [sumL_succ hkl]
      by_cases e : j = k
      · subst e; omega
      · have := ih hj (by omega); omega
    · have : sumL P (k + 1) = sumL P k := by unfold sumL; rw [List.take_of_length_le (by omega), List.take_of_length_le (by omega)]
      have := ih hj (by omega); omega
theorem RdP.at_ {B : Nat} {h : Heap} {a : Option Addr} {n c : Nat} {P : List (List UInt8)} (r : RdP B h (.slice a n c) P) {k : Nat} (hk : k < P.length) :
    ∃ i o ua uc, a = some ⟨i, o, none⟩ ∧ i < B ∧ cellAt h ⟨i, o + k, none⟩ = some (.slice ua P[k].length uc) ∧ RdB B h (.slice ua P[k].length uc) P[k] := by
  obtain ⟨a', c', e, q⟩ := r
  cases e
  obtain ⟨i, o, u, e1, hi, hc, hb⟩ := q k _ (List.getElem?_eq_getElem hk)
  obtain ⟨ua, uc, rfl, _⟩ := id hb
  exact ⟨i, o, ua, uc, e1, hi, hc, hb⟩
theorem lt_int {a b : Nat} : ((a : Int) < (b : Int)) = (a < b) := by simp
theorem refMuch_ret {B : Nat} {c : Nat → Int} {pv : Value} {P : List (List UInt8)} {h : Heap} {K : Value → Heap → Prop} (r : RdP B h pv P) (hB : B ≤ h.n) (hs : P.length ≤ 281474976710656 ∧ ∀ l ∈ P, l.length ≤ 281474976710656)
    (hK : ∀ b h', ExtB h.n h h' → (b = false → P.length ≤ 40 ∧ ∀ l ∈ P, l.length ≤ 40000) → K (.bool b) h') : Ret env (.func 18) [.agg ⟨cfgL c pv⟩] h K := by
  obtain ⟨pa, pc, rfl, q⟩ := id r
  refine F18 rfl ?_
  repeat' (first | done | with_reducible (first | refine y1 ?_ (by omega) | refine y2 ?_ (by omega) | refine y3 (fun _ => ?_) (fun _ => ?_) | refine y4 ?_ (by omega) (by omega) | refine y5 ?_ (by omega) | refine y6 ?_ (by with_unfolding_all rfl) | refine y7 ?_ (by with_unfolding_all rfl) | refine y8 ?_ (by with_unfolding_all rfl) | refine y9 ?_ (by with_unfolding_all rfl) | refine ya ?_ (by with_unfolding_all rfl)) | ((with_reducible refine And.intro ?_ ?_); (· omega)) | (simp -dsimp only [↓cw_ops, ↓cw_seq, ↓cw_block, ↓seqK_normal, ↓getK_same, ↓evK_tmp, ↓evK_int, ↓evK_bool, ↓opsW_nil, ↓opsW_d, ↓opW_assign, ↓setAll_cons, ↓setAll_nil, ↓opW_box, ↓box_agg, ↓s18_11_w, ↓s18_12_w, ↓r18_13_w, ↓s18_14_w, ↓s18_15_w, ↓r18_16_w, ↓s18_17_w, ↓r18_18_w, ↓s18_19_w, true_and, cfg_one]))
  have V := Box.new h (cfgL c (.slice pa P.length pc)) 25
  have X : ExtB h.n h (newBlk h (.cells (cfgL c (.slice pa P.length pc)) 25 true)) := ExtB.new _ (Nat.le_refl _)
  have hn1 : (newBlk h (.cells (cfgL c (.slice pa P.length pc)) 25 true)).n = h.n + 1 := rfl
  generalize newBlk h (.cells (cfgL c (.slice pa P.length pc)) 25 true) = h1 at V X hn1 ⊢
  have r1 := r.ext (X.mono hB)
  have dv := V.cfg
  obtain ⟨hs1, hs2⟩ := hs
  refine cw_loopI (fun m fr' h' => ∃ k : Nat, k ≤ P.length ∧ k ≤ 41 ∧ m = 41 - k ∧ h' = h1 ∧ fr'.get 4 = some (.int .i64 k) ∧ fr'.get 3 = some (.int .i64 (sumL P k))) 41 ?_ (by omega) ?_
  · exact ⟨0, by omega, by omega, by omega, rfl, by simp [T.get_set], by simp [T.get_set, sumL]⟩
  rintro m fr2 h' ⟨k, hk, hk41, rfl, rfl, f4, f3⟩ hag
  have e4 := getK_of f4
  have e3 := getK_of f3
  have a1 := getK_eq (hag 1 rfl)
  have fin : P.length ≤ 40 → k = P.length → sumL P k ≤ 40000 → ∀ l ∈ P, l.length ≤ 40000 := fun h40 hkl hsum l hl => by
    obtain ⟨j, hj, rfl⟩ := List.getElem_of_mem hl
    have := sumL_ge hj (show j < k by omega)
    omega
  by_cases hlt : k < P.length ∧ k ≤ 40
  · obtain ⟨l1, l2⟩ := hlt
    obtain ⟨i, o, ua, uc, rfl, hi, hc, _⟩ := r1.at_ l1
    have hsm := sumL_le (P := P) k hs2
    have hlk := hs2 P[k] (List.getElem_mem _)
    have w1 : IntKind.i64.wrap (((sumL P k : Nat) : Int) + (P[k].length : Int)) = ((sumL P (k + 1) : Nat) : Int) := by rw [sumL_succ l1, wrap_i64 (by omega) (by omega)]; omega
    clear fin hs2 q
    generalize P[k].length = L at hc hlk w1
    repeat' (first | done | with_reducible (first | refine y1 ?_ (by omega) | refine y2 ?_ (by omega) | refine y3 (fun _ => ?_) (fun _ => ?_) | refine y4 ?_ (by omega) (by omega) | refine y5 ?_ (by omega) | refine y6 ?_ (by with_unfolding_all rfl) | refine y7 ?_ (by with_unfolding_all rfl) | refine y8 ?_ (by with_unfolding_all rfl) | refine y9 ?_ (by with_unfolding_all rfl) | refine ya ?_ (by with_unfolding_all rfl)) | ((with_reducible refine And.intro ?_ ?_); (· omega)) | (simp -dsimp only [↓cw_skip, ↓cw_ops, ↓cw_seq, ↓cw_block, ↓cw_cond, ↓seqK_normal, ↓blockK_normal, ↓loopK_normal, ↓getK_same, ↓getK_ne, ↓evK_tmp, ↓evK_int, ↓condV_var, ↓gdV_var, ↓opsW_nil, ↓opsW_d, ↓opsW_gd, ↓opW_move, ↓opW_assign, ↓opW_pick, ↓opW_bin, ↓bin_add, ↓bin_lss, ↓bin_leq, ↓ld1_some, ↓fldA_some, ↓idxS_some, ↓lenS_some, ↓fa_25_14, ↓ld_23, ↓len_23, ↓ia_23, ↓ld_36, ↓len_36, ↓r18_2_w, ↓s18_3_w, ↓r18_4_w, ↓s18_5_w, ↓s18_6_w, ↓s18_7_w, ↓r18_8_w, ↓s18_9_w, ↓s18_10_w, onV_some', brK_true, true_and, ne_eq, Nat.reduceEqDiff, Nat.reduceAdd, not_false_eq_true, Addr.add_lit, Int.toNat_natCast, ↓e4, ↓e3, ↓a1, dv, Nat.mul_one, hc, w1]))
    exact ⟨41 - (k + 1), by omega, k + 1, by omega, by omega, rfl, by simp [T.get_set, wrap_succ (show k ≤ 4611686018427387904 by omega)], by simp [T.get_set]⟩
  · by_cases l1 : k < P.length
    · have l2 : k = 41 := by omega
      subst l2
      repeat' (first | done | with_reducible (first | refine y1 ?_ (by omega) | refine y2 ?_ (by omega) | refine y3 (fun _ => ?_) (fun _ => ?_) | refine y4 ?_ (by omega) (by omega) | refine y5 ?_ (by omega) | refine y6 ?_ (by with_unfolding_all rfl) | refine y7 ?_ (by with_unfolding_all rfl) | refine y8 ?_ (by with_unfolding_all rfl) | refine y9 ?_ (by with_unfolding_all rfl) | refine ya ?_ (by with_unfolding_all rfl)) | ((with_reducible refine And.intro ?_ ?_); (· omega)) | (simp -dsimp only [↓cw_ops, ↓cw_seq, ↓cw_exit, ↓cw_ret, ↓cw_cond, ↓seqK_normal, ↓seqK_exit, ↓blockK_same, ↓loopK_exit, ↓getK_same, ↓getK_ne, ↓evK_tmp, ↓evK_int, ↓evK_bool, ↓condV_var, ↓gdV_var, ↓opsW_nil, ↓opsW_d, ↓opsW_gd, ↓opW_move, ↓opW_assign, ↓opW_pick, ↓opW_bin, ↓bin_lss, ↓bin_leq, ↓bin_gtr, ↓ld1_some, ↓fldA_some, ↓lenS_some, ↓resK_one, ↓fa_25_14, ↓ld_23, ↓len_23, ↓r18_0_w, ↓s18_1_w, ↓s18_7_w, ↓r18_8_w, ↓s18_9_w, ↓s18_10_w, onV_some', brK_true, brK_false, ne_eq, Nat.reduceEqDiff, Nat.reduceAdd, not_false_eq_true, Addr.add_lit, Bool.true_eq_false, Bool.false_eq_true,  ↓e4, ↓a1, dv]))
      exact hK _ _ X (by simp)
    · have hkl : k = P.length := by omega
      by_cases h40 : 40 < P.length
      · repeat' (first | done | with_reducible (first | refine y1 ?_ (by omega) | refine y2 ?_ (by omega) | refine y3 (fun _ => ?_) (fun _ => ?_) | refine y4 ?_ (by omega) (by omega) | refine y5 ?_ (by omega) | refine y6 ?_ (by with_unfolding_all rfl) | refine y7 ?_ (by with_unfolding_all rfl) | refine y8 ?_ (by with_unfolding_all rfl) | refine y9 ?_ (by with_unfolding_all rfl) | refine ya ?_ (by with_unfolding_all rfl)) | ((with_reducible refine And.intro ?_ ?_); (· omega)) | (simp -dsimp only [↓cw_ops, ↓cw_seq, ↓cw_exit, ↓cw_ret, ↓cw_cond, ↓seqK_normal, ↓seqK_exit, ↓blockK_same, ↓loopK_exit, ↓getK_same, ↓getK_ne, ↓evK_tmp, ↓evK_int, ↓evK_bool, ↓condV_var, ↓gdV_var, ↓opsW_nil, ↓opsW_d, ↓opsW_gd, ↓opW_move, ↓opW_assign, ↓opW_pick, ↓opW_bin, ↓bin_lss, ↓bin_gtr, ↓ld1_some, ↓fldA_some, ↓lenS_some, ↓resK_one, ↓fa_25_14, ↓ld_23, ↓len_23, ↓r18_0_w, ↓s18_1_w, ↓s18_7_w, ↓r18_8_w, ↓s18_9_w, ↓s18_10_w, onV_some', brK_true, brK_false, ne_eq, Nat.reduceEqDiff, Nat.reduceAdd, not_false_eq_true, Addr.add_lit, Bool.true_eq_false, Bool.false_eq_true,  ↓e4, ↓a1, dv]))
        all_goals exact hK _ _ X (by simp)
      · by_cases hsum : 40000 < sumL P k
        · repeat' (first | done | with_reducible (first | refine y1 ?_ (by omega) | refine y2 ?_ (by omega) | refine y3 (fun _ => ?_) (fun _ => ?_) | refine y4 ?_ (by omega) (by omega) | refine y5 ?_ (by omega) | refine y6 ?_ (by with_unfolding_all rfl) | refine y7 ?_ (by with_unfolding_all rfl) | refine y8 ?_ (by with_unfolding_all rfl) | refine y9 ?_ (by with_unfolding_all rfl) | refine ya ?_ (by with_unfolding_all rfl)) | ((with_reducible refine And.intro ?_ ?_); (· omega)) | (simp -dsimp only [↓cw_ops, ↓cw_seq, ↓cw_exit, ↓cw_ret, ↓cw_cond, ↓seqK_normal, ↓seqK_exit, ↓blockK_same, ↓loopK_exit, ↓getK_same, ↓getK_ne, ↓evK_tmp, ↓evK_int, ↓evK_bool, ↓condV_var, ↓gdV_var, ↓opsW_nil, ↓opsW_d, ↓opsW_gd, ↓opW_move, ↓opW_assign, ↓opW_pick, ↓opW_bin, ↓bin_lss, ↓bin_gtr, ↓ld1_some, ↓fldA_some, ↓lenS_some, ↓resK_one, ↓fa_25_14, ↓ld_23, ↓len_23, ↓r18_0_w, ↓s18_1_w, ↓s18_7_w, ↓r18_8_w, ↓s18_9_w, ↓s18_10_w, onV_some', brK_true, brK_false, ne_eq, Nat.reduceEqDiff, Nat.reduceAdd, not_false_eq_true, Addr.add_lit, Bool.false_eq_true,  ↓e4, ↓e3, ↓a1, dv]))
          exact hK _ _ X (by simp)
        · repeat' (first | done | with_reducible (first | refine y1 ?_ (by omega) | refine y2 ?_ (by omega) | refine y3 (fun _ => ?_) (fun _ => ?_) | refine y4 ?_ (by omega) (by omega) | refine y5 ?_ (by omega) | refine y6 ?_ (by with_unfolding_all rfl) | refine y7 ?_ (by with_unfolding_all rfl) | refine y8 ?_ (by with_unfolding_all rfl) | refine y9 ?_ (by with_unfolding_all rfl) | refine ya ?_ (by with_unfolding_all rfl)) | ((with_reducible refine And.intro ?_ ?_); (· omega)) | (simp -dsimp only [↓cw_ops, ↓cw_seq, ↓cw_exit, ↓cw_ret, ↓cw_cond, ↓seqK_normal, ↓seqK_exit, ↓blockK_same, ↓loopK_exit, ↓getK_same, ↓getK_ne, ↓evK_tmp, ↓evK_int, ↓evK_bool, ↓condV_var, ↓gdV_var, ↓opsW_nil, ↓opsW_d, ↓opsW_gd, ↓opW_move, ↓opW_assign, ↓opW_pick, ↓opW_bin, ↓bin_lss, ↓bin_gtr, ↓ld1_some, ↓fldA_some, ↓lenS_some, ↓resK_one, ↓fa_25_14, ↓ld_23, ↓len_23, ↓r18_0_w, ↓s18_1_w, ↓s18_7_w, ↓r18_8_w, ↓s18_9_w, ↓s18_10_w, onV_some', brK_true, brK_false, ne_eq, Nat.reduceEqDiff, Nat.reduceAdd, not_false_eq_true, Addr.add_lit, Bool.false_eq_true,  ↓e4, ↓e3, ↓a1, dv]))
          exact hK _ _ X fun _ => ⟨by omega, fin (by omega) hkl (by omega)⟩
end Go.Proofs.YtohjaacnlmkhbaaGreatDoor

namespace Go.Proofs.YtohjaacnlmkhbaaGreatDoor
open Go.Ev
set_option maxRecDepth 100000
set_option maxHeartbeats 400000
theorem ownS_setLow {B i : Nat} {h : Heap} {e : TypeId} {v : Value} {n : Nat} {cs : List Value} {k : Blk} (o : OwnS B h e v n cs) (hi : i < B) : OwnS B { h with b := h.b.set i k } e v n cs := by
  cases o with
  | nil => exact .nil
  | emp j hj => exact .emp j hj
  | row j n cs h1 h2 h3 => exact .row j n cs h1 h2 (by show T.get (T.set h.b i k) j = _; rw [T.get_set_ne _ _ (by omega)]; exact h3)
theorem ownS_fr {B B0 : Nat} {h h' : Heap} {e e' : TypeId} {v s : Value} {n m : Nat} {cs ds : List Value} (o : OwnS B h e' v n cs) (os : OwnS B0 h e s m ds) (hne : e ≠ e') (h0 : m = 0 → s = .slice none 0 0) (hn : h.n ≤ h'.n) (hf : ∀ j, j < h.n → notIn s j → h'.b.get j = h.b.get j) : OwnS B h' e' v n cs := by
  cases o with
  | nil => exact .nil
  | emp j hj => exact .emp j (by omega)
  | row j n cs h1 h2 h3 =>
    refine .row j n cs h1 (by omega) ?_
    rw [hf j h2 ?_, h3]
    intro a n' c' e1 e2
    cases os with
    | nil => cases e1
    | emp i hi => exact absurd (h0 rfl) (by simp)
    | row i n2 cs2 g1 g2 g3 =>
      cases e1
      simp only at e2
      subst e2
      rw [h3] at g3
      simp only [Option.some.injEq, Blk.cells.injEq] at g3
      exact hne g3.2.1.symm
theorem ownS_old {B i : Nat} {h : Heap} {e : TypeId} {s : Value} {n : Nat} {cs : List Value} (o : OwnS B h e s n cs) (h0 : n = 0 → s = .slice none 0 0) (hi : i < B) : notIn s i := by
  intro a n' c' e1 e2
  cases o with
  | nil => cases e1
  | emp j hj => exact absurd (h0 rfl) (by simp)
  | row j n cs g1 g2 g3 => cases e1; simp only at e2; omega
theorem Box.set {h : Heap} {i : Nat} {cs cs' : List Value} {e : TypeId} (b : Box h i cs e) : Box { h with b := h.b.set i (.cells cs' e true) } i cs' e := ⟨b.lt, T.get_set_same _ _ _⟩
/-- programs in own rows -/
def OwnP (B : Nat) (h : Heap) (v : Value) (P : List (List UInt8)) : Prop :=
  ∃ us : List Value, us.length = P.length ∧ OwnS B h 36 v P.length us ∧ (P.length = 0 → v = .slice none 0 0) ∧ ∀ (k : Nat) u l, us[k]? = some u → P[k]? = some l → OwnS B h 5 u l.length (l.map byteV)
theorem OwnP.nil (B : Nat) (h : Heap) : OwnP B h (.slice none 0 0) [] := ⟨[], rfl, .nil, fun _ => rfl, fun k u l e => by simp at e⟩
theorem OwnP.setLow {B i : Nat} {h : Heap} {v : Value} {P : List (List UInt8)} {k : Blk} (o : OwnP B h v P) (hi : i < B) : OwnP B { h with b := h.b.set i k } v P := by
  obtain ⟨us, e1, e2, e3, e4⟩ := o
  exact ⟨us, e1, ownS_setLow e2 hi, e3, fun k u l h1 h2 => ownS_setLow (e4 k u l h1 h2) hi⟩
theorem OwnP.ext {B B' : Nat} {h h' : Heap} {v : Value} {P : List (List UInt8)} (o : OwnP B h v P) (x : ExtB B' h h') (hB : h.n ≤ B') : OwnP B h' v P := by
  obtain ⟨us, e1, e2, e3, e4⟩ := o
  exact ⟨us, e1, e2.ext x hB, e3, fun k u l h1 h2 => (e4 k u l h1 h2).ext x hB⟩
theorem OwnP.rd {B : Nat} {h : Heap} {v : Value} {P : List (List UInt8)} (o : OwnP B h v P) : RdP h.n h v P := by
  obtain ⟨us, e1, e2, e3, e4⟩ := o
  generalize hn : P.length = n at e2 e1
  cases e2 with
  | nil => exact ⟨_, _, by rw [hn], fun k l e => by have := (List.getElem?_eq_some_iff.1 e).1; omega⟩
  | emp i hi => exact ⟨_, _, by rw [hn], fun k l e => by have := (List.getElem?_eq_some_iff.1 e).1; omega⟩
  | row i n us g1 g2 g3 =>
    refine ⟨_, _, by rw [hn], fun k l e => ?_⟩
    have hk := (List.getElem?_eq_some_iff.1 e).1
    have hu : us[k]? = some (us[k]'(by omega)) := List.getElem?_eq_getElem _
    exact ⟨i, 0, _, rfl, g2, cellAt_blk g2 g3 (by rw [Nat.zero_add]; exact hu), RdB.own (e4 k _ l hu e)⟩
theorem OwnP.val {B : Nat} {h : Heap} {v : Value} {P : List (List UInt8)} (o : OwnP B h v P) : ∃ a c, v = .slice a P.length c := by
  obtain ⟨a, c, e, _⟩ := o.rd; exact ⟨a, c, e⟩
theorem app_oneN {B : Nat} {e : TypeId} {sz n j : Nat} {s : Value} {cs new : List Value} {h1 : Heap} {K : Value → Heap → Prop} (o : OwnS B h1 e s n cs) (hB : B ≤ h1.n) (hlen : cs.length = n * sz) (hsz : n + 1 ≤ 100000)
    (hnl : new.length = sz) (hone : new.all oneCell = true) (hpos : sz ≠ 0) (hj : j = h1.n)
    (k : ∀ v' h', OwnS B h' e v' (n + 1) (cs ++ new) → ExtB B h1 h' → h1.n + 1 ≤ h'.n → (∀ j, j < h1.n → notIn s j → h'.b.get j = h1.b.get j) → K v' h') : appK e sz s (.slice (some ⟨j, 0, none⟩) 1 1) (newBlk h1 (.cells new e true)) K := by
  subst hj
  refine app_ownF (o.new _) (Nat.le_trans hB (Nat.le_succ _)) hlen (m := 1) rfl (by decide) hsz (new := new) ?_ (by omega) hone hpos fun v' h' o' x' f' => k v' h' o' ((ExtB.new _ hB).trans x') x'.n fun j hj hno => by rw [f' j (Nat.lt_succ_of_lt hj) hno, newBlk_old _ hj]
  simp only [firstCells, Nat.one_mul]
  exact cellsAt_newE hnl
/-- one program more -/
theorem OwnP.app {B j : Nat} {h : Heap} {v u : Value} {P : List (List UInt8)} {l : List UInt8} {K : Value → Heap → Prop} (o : OwnP B h v P) (ou : OwnS B h 5 u l.length (l.map byteV)) (hB : B ≤ h.n) (hP : P.length + 1 ≤ 100000) (hone : oneCell u = true) (hj : j = h.n)
    (k : ∀ v' h', OwnP B h' v' (P ++ [l]) → ExtB B h h' → h.n + 1 ≤ h'.n → K v' h') : appK 36 1 v (.slice (some ⟨j, 0, none⟩) 1 1) (newBlk h (.cells [u] 36 true)) K := by
  obtain ⟨us, e1, e2, e3, e4⟩ := o
  refine app_oneN e2 hB (by rw [Nat.mul_one]; exact e1) hP rfl (by simp [hone]) (by decide) hj fun v' h' o' x xn f => k v' h' ⟨us ++ [u], by simp [e1], by simpa using o', fun h0 => by simp at h0, fun i w m h1 h2 => ?_⟩ x xn
  rw [List.getElem?_append] at h1 h2
  have nn := x.n
  by_cases hi : i < us.length
  · rw [if_pos hi] at h1
    rw [if_pos (by omega)] at h2
    exact ownS_fr (e4 i w m h1 h2) e2 (by decide) e3 nn f
  · rw [if_neg hi] at h1
    rw [if_neg (by omega)] at h2
    have hz : i - us.length = 0 := by
      rcases Nat.eq_zero_or_pos (i - us.length) with h0 | h0
      · exact h0
      · rw [List.getElem?_eq_none (by simp; omega)] at h1; cases h1
    rw [hz] at h1
    rw [show i - P.length = 0 by omega] at h2
    cases h1; cases h2
    exact ownS_fr ou e2 (by decide) e3 nn f
end Go.Proofs.YtohjaacnlmkhbaaGreatDoor

