/- What a view holds, and 'num.Has' and the reference's. Conditions: each theorem's own. -/
import Derived.Test.YtdjnedamphifcaaWA
set_option linter.unusedSimpArgs false
set_option linter.unusedVariables false
namespace Go.Proofs.Ytdjnedamphifcaa
open Go.Ev
set_option maxRecDepth 100000
/-! what is handed in -/
structure TaskD where
  idx : Int
  gen : Int
  state : Int
  susp : Bool
  d0 : Int
  d1 : Int
  c0 : Int
  c1 : Int
  aff : Int
  prog : Int
  pc : Int
  r0 : Int
  r1 : Int
  r2 : Int
  r3 : Int
  r4 : Int
  r5 : Int
  r6 : Int
  r7 : Int
  code : Int
  untl : Int
def TaskD.g (x : TaskD) : List Value := [.int .i64 x.state, .bool x.susp, .int .i64 x.d0, .int .u64 x.d1, .int .i64 x.c0, .int .u64 x.c1, .int .u8 x.aff, .int .i64 x.prog, .int .i64 x.pc,
  .int .u64 x.r0, .int .u64 x.r1, .int .u64 x.r2, .int .u64 x.r3, .int .u64 x.r4, .int .u64 x.r5, .int .u64 x.r6, .int .u64 x.r7, .int .i64 x.code, .int .u64 x.untl]
def TaskD.cells (x : TaskD) : List Value := [.int .i64 x.idx, .int .u64 x.gen, .int .i64 x.state, .bool x.susp, .int .i64 x.d0, .int .u64 x.d1, .int .i64 x.c0, .int .u64 x.c1, .int .u8 x.aff, .int .i64 x.prog, .int .i64 x.pc,
  .int .u64 x.r0, .int .u64 x.r1, .int .u64 x.r2, .int .u64 x.r3, .int .u64 x.r4, .int .u64 x.r5, .int .u64 x.r6, .int .u64 x.r7, .int .i64 x.code, .int .u64 x.untl]
structure RingD where
  a : Option Addr
  c : Nat
  l : List Int
def RingD.cells (r : RingD) : List Value := [.slice r.a r.l.length r.c]
structure TimerD where
  at_ : Int
  id : Int
def TimerD.cells (t : TimerD) : List Value := [.int .u64 t.at_, .int .i64 t.id]
def intCells (n : Int) : List Value := [.int .i64 n]
structure ViewD where
  tasks : List TaskD
  runs : List Int
  next : List Int
  rings : List RingD
  global : List Int
  timers : List TimerD
/-- the slices themselves -/
structure VA where
  now : Int
  ta : Option Addr
  tc : Nat
  a2 : Option Addr
  n2 : Nat
  c2 : Nat
  a3 : Option Addr
  n3 : Nat
  c3 : Nat
  a4 : Option Addr
  n4 : Nat
  c4 : Nat
  ra : Option Addr
  rc : Nat
  na : Option Addr
  nc : Nat
  ga : Option Addr
  gc : Nat
  a8 : Option Addr
  n8 : Nat
  c8 : Nat
  a9 : Option Addr
  n9 : Nat
  c9 : Nat
  la : Option Addr
  lc : Nat
  ma : Option Addr
  mc : Nat
def vcells (a : VA) (d : ViewD) : List Value := [.int .u64 a.now, .slice a.ta d.tasks.length a.tc, .slice a.a2 a.n2 a.c2, .slice a.a3 a.n3 a.c3, .slice a.a4 a.n4 a.c4, .slice a.ra d.runs.length a.rc, .slice a.na d.next.length a.nc,
  .slice a.ga d.rings.length a.gc, .slice a.a8 a.n8 a.c8, .slice a.a9 a.n9 a.c9, .slice a.la d.global.length a.lc, .slice a.ma d.timers.length a.mc]
theorem vcells_one (a : VA) (d : ViewD) : (vcells a d).all oneCell = true := rfl
structure VOK (B : Nat) (h : Heap) (a : VA) (d : ViewD) : Prop where
  tasks : RowAt B h a.ta 21 (d.tasks.map TaskD.cells)
  runs : RowAt B h a.ra 1 (d.runs.map intCells)
  next : RowAt B h a.na 1 (d.next.map intCells)
  rings : RowAt B h a.ga 1 (d.rings.map RingD.cells)
  ring : ∀ r ∈ d.rings, RowAt B h r.a 1 (r.l.map intCells)
  global : RowAt B h a.la 1 (d.global.map intCells)
  timers : RowAt B h a.ma 2 (d.timers.map TimerD.cells)
theorem VOK.ext {B : Nat} {h h' : Heap} {a : VA} {d : ViewD} (v : VOK B h a d) (e : ExtB B h h') : VOK B h' a d :=
  ⟨v.tasks.ext e, v.runs.ext e, v.next.ext e, v.rings.ext e, fun r hr => (v.ring r hr).ext e, v.global.ext e, v.timers.ext e⟩
/-- a view in a block of its own -/
structure VBox (h : Heap) (i : Nat) (a : VA) (d : ViewD) : Prop where
  lt : i < h.n
  get : ∀ j v, (vcells a d)[j]? = some v → cellAt h ⟨i, j, none⟩ = some v
theorem VBox.ext {B : Nat} {h h' : Heap} {i : Nat} {a : VA} {d : ViewD} (v : VBox h i a d) (e : ExtB B h h') (hi : i < B) : VBox h' i a d :=
  ⟨Nat.lt_of_lt_of_le v.lt e.n, fun j x hj => cellAt_ext e hi (v.get j x hj)⟩
theorem VBox.new (h : Heap) (a : VA) (d : ViewD) (t : TypeId) : VBox (newBlk h (.cells (vcells a d) t true)) h.n a d := ⟨by simp [newBlk], fun j v hj => cellAt_new hj⟩
structure OnceP (d : ViewD) : Prop where
  t : d.tasks.length ≤ 20
  pos : ∀ x ∈ d.tasks, 0 ≤ x.idx
  nodup : (d.tasks.map TaskD.idx).Nodup
  runs : d.runs.length ≤ 8
  next : d.next.length ≤ 8
  rings : d.rings.length ≤ 8
  sum : d.global.length + d.timers.length + (d.rings.map (·.l.length)).sum ≤ 200
structure Ranges (d : ViewD) : Prop where
  aff : ∀ x ∈ d.tasks, 0 ≤ x.aff ∧ x.aff ≤ 255
  len : d.tasks.length ≤ 281474976710656 ∧ d.runs.length ≤ 281474976710656 ∧ d.next.length ≤ 281474976710656 ∧ d.rings.length ≤ 281474976710656 ∧ d.global.length ≤ 281474976710656 ∧ d.timers.length ≤ 281474976710656
  ring : ∀ r ∈ d.rings, r.l.length ≤ 281474976710656

/-! bits of a byte -/
def hasB (a p : Int) : Bool := decide ((0 ≤ p ∧ p ≤ 7) ∧ a / 2 ^ p.toNat % 2 = 1)
theorem has_no {a p : Int} (h : p < 0 ∨ 7 < p) : hasB a p = false := by unfold hasB; rw [decide_eq_false]; omega
theorem land_bits : ∀ n, n < 256 → ∀ i, i < 8 → (((n &&& 2 ^ i) = 0 ↔ ¬ n / 2 ^ i % 2 = 1) ∧ (n &&& 2 ^ i) < 256) := by decide +kernel
theorem has_bits {n i : Nat} (hn : n < 256) (hi : i ≤ 7) : (IntKind.wrap .u8 ((BitVec.ofInt 8 (n : Int) &&& BitVec.ofInt 8 (IntKind.wrap .u8 (1 * 2 ^ min i 8))).toNat : Int) = 0) ↔ hasB n i = false := by
  have h1 : ((2 : Int) ^ i) = ((2 ^ i : Nat) : Int) := by simp
  have h2 : 2 ^ i < 256 := by have := Nat.pow_lt_pow_right (a := 2) (by omega) (show i < 8 by omega); simpa using this
  have h3 : IntKind.wrap .u8 (1 * 2 ^ min i 8) = ((2 ^ i : Nat) : Int) := by
    rw [Nat.min_eq_left (by omega), Int.one_mul, h1]
    generalize 2 ^ i = m at h2
    exact wrap_u8 (by omega) (by omega)
  rw [h3]
  have h4 : (BitVec.ofInt 8 (n : Int) &&& BitVec.ofInt 8 ((2 ^ i : Nat) : Int)).toNat = n &&& 2 ^ i := by
    rw [BitVec.toNat_and]
    generalize 2 ^ i = m at h2
    simp only [BitVec.toNat_ofInt]
    congr 1 <;> omega
  rw [h4]
  obtain ⟨l1, l2⟩ := land_bits n hn i (by omega)
  rw [wrap_u8 (by omega) (by omega)]
  have h5 : hasB (n : Int) (i : Int) = decide (n / 2 ^ i % 2 = 1) := by
    unfold hasB
    have : ((n : Int) / 2 ^ (i : Int).toNat % 2 = 1) ↔ n / 2 ^ i % 2 = 1 := by
      rw [Int.toNat_natCast, h1]
      generalize 2 ^ i = m
      omega
    simp only [this]
    congr 1
    apply propext
    constructor
    · exact fun h => h.2
    · exact fun h => ⟨by omega, h⟩
  rw [h5]
  rw [decide_eq_false_iff_not, ← l1]
  omega
theorem has_ret {a p : Int} {h : Heap} {K : Value → Heap → Prop} (ha : 0 ≤ a ∧ a ≤ 255) (hK : K (.bool (hasB a p)) h) : Ret env (.func 49) [.int .u8 a, .int .i64 p] h K := by
  refine F49 rfl ?_
  repeat' (first | done | ((with_reducible refine brK_yes ?_ ?_); (· omega)) | ((with_reducible refine brK_no ?_ ?_); (· omega)) | (with_reducible refine brK_both (fun _ => ?_) (fun _ => ?_)) | ((with_reducible refine And.intro (And.intro ?_ ?_) ?_); (· omega); (· omega)) | ((with_reducible refine And.intro ?_ ?_); (· omega)) | ((with_reducible refine st_newM ?_ ?_); (· rfl)) | ((with_reducible refine bs_oneM ?_ ?_); (· rfl)) | (with_reducible refine bd_of (by with_unfolding_all (simp only [fillL_cons, fillL_nil, nth_eq, blt_eq, cond_beq, over, Value.cells, List.getElem?_cons_zero, List.getElem?_cons_succ, List.length_cons, List.length_nil, Nat.reduceAdd, Nat.reduceSub, Nat.reduceLT, Nat.reduceEqDiff, decide_true, cond_true, Option.map_some, if_true, if_false, Nat.add_one_sub_one, Nat.succ_ne_zero, reduceCtorEq, OfNat.ofNat]; rfl)) ?_) | (with_reducible refine bda_of (by with_unfolding_all rfl) ?_) | (simp -dsimp only [↓cw_ops, ↓cw_seq, ↓seqK_normal, ↓getK_same, ↓getK_ne, ↓evK_tmp, ↓evK_bool, ↓opsW_nil, ↓opsW_d, ↓opW_move, ↓opW_assign, ↓evs_nil, ↓evs_cons, ↓opW_call, ↓setAll_cons, ↓setAll_nil, ↓r49_0_w, ↓s49_1_w, ↓r49_2_w, ↓s49_3_w, ne_eq, Nat.reduceEqDiff, Nat.reduceAdd, not_false_eq_true, Nat.one_ne_zero]))
  refine F68 rfl ?_
  by_cases hp : 0 ≤ p ∧ p ≤ 7
  · obtain ⟨n, rfl⟩ : ∃ n : Nat, a = n := ⟨a.toNat, by omega⟩
    obtain ⟨i, rfl⟩ : ∃ i : Nat, p = i := ⟨p.toNat, by omega⟩
    repeat' (first | done | ((with_reducible refine brK_yes ?_ ?_); (· omega)) | ((with_reducible refine brK_no ?_ ?_); (· omega)) | (with_reducible refine brK_both (fun _ => ?_) (fun _ => ?_)) | ((with_reducible refine And.intro (And.intro ?_ ?_) ?_); (· omega); (· omega)) | ((with_reducible refine And.intro ?_ ?_); (· omega)) | ((with_reducible refine st_newM ?_ ?_); (· rfl)) | ((with_reducible refine bs_oneM ?_ ?_); (· rfl)) | (with_reducible refine bd_of (by with_unfolding_all (simp only [fillL_cons, fillL_nil, nth_eq, blt_eq, cond_beq, over, Value.cells, List.getElem?_cons_zero, List.getElem?_cons_succ, List.length_cons, List.length_nil, Nat.reduceAdd, Nat.reduceSub, Nat.reduceLT, Nat.reduceEqDiff, decide_true, cond_true, Option.map_some, if_true, if_false, Nat.add_one_sub_one, Nat.succ_ne_zero, reduceCtorEq, OfNat.ofNat]; rfl)) ?_) | (with_reducible refine bda_of (by with_unfolding_all rfl) ?_) | (simp -dsimp only [↓cw_skip, ↓cw_ops, ↓cw_seq, ↓cw_ret, ↓cw_cond, ↓seqK_normal, ↓getK_same, ↓getK_ne, ↓evK_tmp, ↓evK_int, ↓condV_var, ↓gdV_var, ↓opsW_nil, ↓opsW_d, ↓opsW_gd, ↓opW_move, ↓opW_assign, ↓opW_pick, ↓opW_bin, ↓bin_shl, ↓bin_neq, ↓bin_lss, ↓bin_gtr, ↓resK_one, ↓setAll_cons, ↓setAll_nil, ↓bin_and, ↓r68_0_w, ↓s68_1_w, ↓s68_4_w, ↓r68_5_w, ↓s68_6_w, ↓s68_7_w, ↓r68_8_w, ↓s68_9_w, brK_true, brK_false, ne_eq, Nat.reduceEqDiff, not_false_eq_true, Int.toNat_natCast, Bool.false_eq_true]))
    · rename_i he
      rw [(has_bits (by omega) (by omega)).1 he] at hK
      exact hK
    · rename_i he
      have : hasB (n : Int) (i : Int) = true := by
        cases hb : hasB (n : Int) (i : Int) with
        | true => rfl
        | false => exact absurd ((has_bits (n := n) (i := i) (by omega) (by omega)).2 hb) he
      rw [this] at hK
      exact hK
  · rw [has_no (by omega)] at hK
    have z : IntKind.wrap .u8 ((BitVec.ofInt IntKind.u8.bits a &&& BitVec.ofInt IntKind.u8.bits 0).toNat : Int) = 0 := by
      have : (BitVec.ofInt IntKind.u8.bits a &&& BitVec.ofInt IntKind.u8.bits 0) = 0#8 := by
        show (BitVec.ofInt 8 a &&& 0#8) = 0#8
        exact BitVec.and_zero
      rw [this]; rfl
    repeat' (first | done | ((with_reducible refine brK_yes ?_ ?_); (· omega)) | ((with_reducible refine brK_no ?_ ?_); (· omega)) | (with_reducible refine brK_both (fun _ => ?_) (fun _ => ?_)) | ((with_reducible refine And.intro (And.intro ?_ ?_) ?_); (· omega); (· omega)) | ((with_reducible refine And.intro ?_ ?_); (· omega)) | ((with_reducible refine st_newM ?_ ?_); (· rfl)) | ((with_reducible refine bs_oneM ?_ ?_); (· rfl)) | (with_reducible refine bd_of (by with_unfolding_all (simp only [fillL_cons, fillL_nil, nth_eq, blt_eq, cond_beq, over, Value.cells, List.getElem?_cons_zero, List.getElem?_cons_succ, List.length_cons, List.length_nil, Nat.reduceAdd, Nat.reduceSub, Nat.reduceLT, Nat.reduceEqDiff, decide_true, cond_true, Option.map_some, if_true, if_false, Nat.add_one_sub_one, Nat.succ_ne_zero, reduceCtorEq, OfNat.ofNat]; rfl)) ?_) | (with_reducible refine bda_of (by with_unfolding_all rfl) ?_) | (simp -dsimp only [↓cw_ops, ↓cw_seq, ↓cw_ret, ↓cw_cond, ↓seqK_normal, ↓seqK_ret, ↓getK_same, ↓getK_ne, ↓evK_tmp, ↓evK_int, ↓evK_bool, ↓condV_var, ↓gdV_var, ↓opsW_nil, ↓opsW_d, ↓opsW_gd, ↓opW_move, ↓opW_assign, ↓opW_pick, ↓opW_bin, ↓bin_neq, ↓bin_lss, ↓bin_gtr, ↓resK_one, ↓setAll_cons, ↓setAll_nil, ↓bin_and, ↓r68_2_w, ↓s68_3_w, ↓s68_4_w, ↓r68_5_w, ↓s68_6_w, ↓s68_7_w, ↓r68_8_w, ↓s68_9_w, brK_true, brK_false, ne_eq, Nat.reduceEqDiff, not_false_eq_true, Bool.true_eq_false, Bool.false_eq_true,  z, eq_self]))
    · exact hK
    · exact hK
theorem refHas_ret {a p : Int} {h : Heap} {K : Value → Heap → Prop} (ha : 0 ≤ a ∧ a ≤ 255) (hK : K (.bool (hasB a p)) h) : Ret env (.func 53) [.int .u8 a, .int .i64 p] h K := by
  refine F53 rfl ?_
  by_cases hp : 0 ≤ p ∧ p ≤ 7
  · obtain ⟨i, rfl⟩ : ∃ i : Nat, p = i := ⟨p.toNat, by omega⟩
    repeat' (first | done | ((with_reducible refine brK_yes ?_ ?_); (· omega)) | ((with_reducible refine brK_no ?_ ?_); (· omega)) | (with_reducible refine brK_both (fun _ => ?_) (fun _ => ?_)) | ((with_reducible refine And.intro (And.intro ?_ ?_) ?_); (· omega); (· omega)) | ((with_reducible refine And.intro ?_ ?_); (· omega)) | ((with_reducible refine st_newM ?_ ?_); (· rfl)) | ((with_reducible refine bs_oneM ?_ ?_); (· rfl)) | (with_reducible refine bd_of (by with_unfolding_all (simp only [fillL_cons, fillL_nil, nth_eq, blt_eq, cond_beq, over, Value.cells, List.getElem?_cons_zero, List.getElem?_cons_succ, List.length_cons, List.length_nil, Nat.reduceAdd, Nat.reduceSub, Nat.reduceLT, Nat.reduceEqDiff, decide_true, cond_true, Option.map_some, if_true, if_false, Nat.add_one_sub_one, Nat.succ_ne_zero, reduceCtorEq, OfNat.ofNat]; rfl)) ?_) | (with_reducible refine bda_of (by with_unfolding_all rfl) ?_) | (simp -dsimp only [↓cw_skip, ↓cw_ops, ↓cw_seq, ↓cw_block, ↓cw_cond, ↓seqK_normal, ↓getK_same, ↓getK_ne, ↓evK_tmp, ↓evK_int, ↓evK_bool, ↓condV_var, ↓gdV_var, ↓opsW_nil, ↓opsW_d, ↓opsW_gd, ↓opW_move, ↓opW_assign, ↓opW_pick, ↓opW_bin, ↓bin_lss, ↓bin_gtr, ↓setAll_cons, ↓setAll_nil, ↓s53_11_w, ↓s53_12_w, ↓r53_13_w, ↓s53_14_w, ↓s53_15_w, ↓s53_18_w, ↓r53_19_w, ↓s53_20_w, ↓s53_21_w, ↓r53_22_w, ↓s53_23_w, brK_true, brK_false, ne_eq, Nat.reduceEqDiff, Nat.reduceAdd, not_false_eq_true, Bool.false_eq_true]))
    refine cw_loopI (fun n fr h' => h' = h ∧ ∃ k : Nat, k ≤ i ∧ n = i - k ∧ fr.get 5 = some (.int .i64 k) ∧ fr.get 0 = some (.int .u8 (a / 2 ^ k))) i ?_ (by omega) ?_
    · exact ⟨rfl, 0, by omega, by omega, by simp [T.get_set], by simp [T.get_set]⟩
    rintro n fr h' ⟨rfl, k, hk, rfl, g5, g0⟩ hag
    have g5 := getK_of g5
    have g0 := getK_of g0
    have a1 := getK_eq (hag 1 rfl)
    have hd : 0 ≤ a / 2 ^ k ∧ a / 2 ^ k ≤ 255 := by
      have hpos : (0 : Int) < 2 ^ k := Int.pow_pos (by omega)
      exact ⟨Int.ediv_nonneg ha.1 (by omega), Int.le_trans (Int.ediv_le_self _ ha.1) ha.2⟩
    by_cases hlt : k < i
    · repeat' (first | done | ((with_reducible refine brK_yes ?_ ?_); (· omega)) | ((with_reducible refine brK_no ?_ ?_); (· omega)) | (with_reducible refine brK_both (fun _ => ?_) (fun _ => ?_)) | ((with_reducible refine And.intro (And.intro ?_ ?_) ?_); (· omega); (· omega)) | ((with_reducible refine And.intro ?_ ?_); (· omega)) | ((with_reducible refine st_newM ?_ ?_); (· rfl)) | ((with_reducible refine bs_oneM ?_ ?_); (· rfl)) | (with_reducible refine bd_of (by with_unfolding_all (simp only [fillL_cons, fillL_nil, nth_eq, blt_eq, cond_beq, over, Value.cells, List.getElem?_cons_zero, List.getElem?_cons_succ, List.length_cons, List.length_nil, Nat.reduceAdd, Nat.reduceSub, Nat.reduceLT, Nat.reduceEqDiff, decide_true, cond_true, Option.map_some, if_true, if_false, Nat.add_one_sub_one, Nat.succ_ne_zero, reduceCtorEq, OfNat.ofNat]; rfl)) ?_) | (with_reducible refine bda_of (by with_unfolding_all rfl) ?_) | (simp -dsimp only [↓cw_skip, ↓cw_ops, ↓cw_seq, ↓cw_block, ↓cw_cond, ↓seqK_normal, ↓blockK_normal, ↓loopK_normal, ↓getK_same, ↓getK_ne, ↓evK_tmp, ↓evK_int, ↓condV_var, ↓opsW_nil, ↓opsW_d, ↓opW_move, ↓opW_assign, ↓opW_bin, ↓bin_add, ↓bin_quo, ↓bin_lss, ↓r53_2_w, ↓s53_3_w, ↓r53_4_w, ↓s53_5_w, ↓s53_6_w, ↓s53_7_w, ↓r53_8_w, ↓s53_9_w, ↓s53_10_w, brK_true, true_and, ne_eq, Nat.reduceEqDiff, not_false_eq_true, ↓g5, ↓g0, ↓a1]))
      refine ⟨i - (k + 1), by omega, k + 1, by omega, rfl, by simp [T.get_set, wrap_succ (show k ≤ 4611686018427387904 by omega)], ?_⟩
      simp only [T.get_set]
      simp
      rw [Int.tdiv_eq_ediv_of_nonneg hd.1, wrap_u8 (by omega) (by omega), Int.pow_succ, ← Int.ediv_ediv_of_nonneg (Int.le_of_lt (Int.pow_pos (by omega)))]
    · have e : k = i := by omega
      subst e
      have hm : (a / 2 ^ k).tmod 2 = a / 2 ^ k % 2 := Int.tmod_eq_emod_of_nonneg hd.1
      have hb : hasB a k = decide (a / 2 ^ k % 2 = 1) := by
        unfold hasB
        rw [Int.toNat_natCast]
        congr 1
        apply propext
        exact ⟨fun h => h.2, fun h => ⟨hp, h⟩⟩
      repeat' (first | done | ((with_reducible refine brK_yes ?_ ?_); (· omega)) | ((with_reducible refine brK_no ?_ ?_); (· omega)) | (with_reducible refine brK_both (fun _ => ?_) (fun _ => ?_)) | ((with_reducible refine And.intro (And.intro ?_ ?_) ?_); (· omega); (· omega)) | ((with_reducible refine And.intro ?_ ?_); (· omega)) | ((with_reducible refine st_newM ?_ ?_); (· rfl)) | ((with_reducible refine bs_oneM ?_ ?_); (· rfl)) | (with_reducible refine bd_of (by with_unfolding_all (simp only [fillL_cons, fillL_nil, nth_eq, blt_eq, cond_beq, over, Value.cells, List.getElem?_cons_zero, List.getElem?_cons_succ, List.length_cons, List.length_nil, Nat.reduceAdd, Nat.reduceSub, Nat.reduceLT, Nat.reduceEqDiff, decide_true, cond_true, Option.map_some, if_true, if_false, Nat.add_one_sub_one, Nat.succ_ne_zero, reduceCtorEq, OfNat.ofNat]; rfl)) ?_) | (with_reducible refine bda_of (by with_unfolding_all rfl) ?_) | (simp -dsimp only [↓cw_ops, ↓cw_seq, ↓cw_exit, ↓cw_ret, ↓cw_cond, ↓seqK_normal, ↓seqK_exit, ↓blockK_same, ↓loopK_exit, ↓getK_same, ↓getK_ne, ↓evK_tmp, ↓evK_int, ↓condV_var, ↓opsW_nil, ↓opsW_d, ↓opW_move, ↓opW_assign, ↓opW_bin, ↓bin_rem, ↓bin_eql, ↓bin_lss, ↓resK_one, ↓r53_0_w, ↓s53_1_w, ↓s53_7_w, ↓r53_8_w, ↓s53_9_w, ↓s53_10_w, brK_false, ne_eq, Nat.reduceEqDiff, not_false_eq_true, Bool.false_eq_true,  ↓g5, ↓g0, ↓a1, hm]))
      · rename_i he
        rw [hb, decide_eq_true he] at hK
        exact hK
      · rename_i he
        rw [hb, decide_eq_false he] at hK
        exact hK
  · rw [has_no (by omega)] at hK
    repeat' (first | done | ((with_reducible refine brK_yes ?_ ?_); (· omega)) | ((with_reducible refine brK_no ?_ ?_); (· omega)) | (with_reducible refine brK_both (fun _ => ?_) (fun _ => ?_)) | ((with_reducible refine And.intro (And.intro ?_ ?_) ?_); (· omega); (· omega)) | ((with_reducible refine And.intro ?_ ?_); (· omega)) | ((with_reducible refine st_newM ?_ ?_); (· rfl)) | ((with_reducible refine bs_oneM ?_ ?_); (· rfl)) | (with_reducible refine bd_of (by with_unfolding_all (simp only [fillL_cons, fillL_nil, nth_eq, blt_eq, cond_beq, over, Value.cells, List.getElem?_cons_zero, List.getElem?_cons_succ, List.length_cons, List.length_nil, Nat.reduceAdd, Nat.reduceSub, Nat.reduceLT, Nat.reduceEqDiff, decide_true, cond_true, Option.map_some, if_true, if_false, Nat.add_one_sub_one, Nat.succ_ne_zero, reduceCtorEq, OfNat.ofNat]; rfl)) ?_) | (with_reducible refine bda_of (by with_unfolding_all rfl) ?_) | (simp -dsimp only [↓cw_ops, ↓cw_seq, ↓cw_ret, ↓cw_cond, ↓seqK_normal, ↓seqK_ret, ↓getK_same, ↓getK_ne, ↓evK_tmp, ↓evK_int, ↓evK_bool, ↓condV_var, ↓gdV_var, ↓opsW_nil, ↓opsW_d, ↓opsW_gd, ↓opW_move, ↓opW_assign, ↓opW_pick, ↓opW_bin, ↓bin_lss, ↓bin_gtr, ↓resK_one, ↓setAll_cons, ↓setAll_nil, ↓r53_16_w, ↓s53_17_w, ↓s53_18_w, ↓r53_19_w, ↓s53_20_w, ↓s53_21_w, ↓r53_22_w, ↓s53_23_w, brK_true, brK_false, ne_eq, Nat.reduceEqDiff, Nat.reduceAdd, not_false_eq_true, Bool.true_eq_false, Bool.false_eq_true]))
    · exact hK
    · exact hK
end Go.Proofs.Ytdjnedamphifcaa
