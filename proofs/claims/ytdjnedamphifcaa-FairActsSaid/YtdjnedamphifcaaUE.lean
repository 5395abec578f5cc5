/- New. Conditions, each theorem's own. -/
import Derived.Test.YtdjnedamphifcaaUA
set_option linter.unusedSimpArgs false
set_option linter.unusedVariables false
namespace Go.Proofs.Ytdjnedamphifcaa
open Go.Ev
set_option maxRecDepth 100000
set_option maxHeartbeats 400000
theorem G.fr {h h' : Heap} {X j : Nat} {cs cs' : List Value} {e e' : TypeId} {b b' : Bool} (g : G h j cs e b) (gx : G h X cs' e' b') (hd : e' ≠ e) (n : h.n ≤ h'.n) (f : ∀ j, j < h.n → j ≠ X → h'.b.get j = h.b.get j) : G h' j cs e b :=
  g.same n (f j g.1 (fun hh => (gx.ne g (.inl hd)) hh.symm))
def ptr (b : Nat) : Value := .pointer (some ⟨b, 0, none⟩)
theorem same_ptr {b : Nat} : (sameV 50 (.pointer (some ⟨b, 0, none⟩)) (.pointer (some ⟨b, 0, none⟩)) = true) = True := by simp [sameV]
theorem same_ref {a b : Int} : (sameV 50 (.agg ⟨[.int .i64 a, .int .u64 b]⟩) (.agg ⟨[.int .i64 a, .int .u64 b]⟩) = true) = True := by simp [sameV, sameV.go]
theorem all_ret' {z : Int} {h : Heap} {K : Value → Heap → Prop} (hz : 1 ≤ z ∧ z ≤ 8) (hK : ∀ (n : Int) h', ExtB h.n h h' → K (.int .u8 n) h') : Ret env (.func 36) [.int .i64 z] h K := by
  obtain ⟨n, rfl⟩ := Int.eq_ofNat_of_zero_le (show 0 ≤ z by omega)
  exact all_ret (by omega) (by omega) hK
structure KOb (h : Heap) (c : CfgD) (cb kb rb tb tl tf xb xl db ds pb qb sb : Nat) (vF vL tm : Value) (gN xN dN : Nat) : Prop where
  cbx : G h cb c.cells 25 true
  kbx : G h kb (c.cells ++ [.int .u64 0, .pointer (some ⟨tb, 0, none⟩), .pointer (some ⟨xb, 0, none⟩), .pointer (some ⟨db, 0, none⟩), .pointer (some ⟨sb, 0, none⟩), .pointer (some ⟨pb, 0, none⟩), tm]) 89 true
  rbx : G h rb [.int .i64 0, .int .u64 1] 59 true
  tab : G h tb [.slice (some ⟨tl, 0, none⟩) gN UNK, .slice (some ⟨tf, 0, none⟩) gN UNK] 129 true
  tal : G h tl (many gN place0) 131 false
  taf : G h tf (iV (downL gN gN)) 3 false
  ctx : G h xb [.slice (some ⟨xl, 0, none⟩) xN UNK, .int .i64 0, .int .i64 c.refills] 134 true
  ctl : G h xl (ctxL xN) 139 false
  dom : DomO h db ds dN c.gs c.cpu c.period vF
  plc : G h pb [vL, .pointer (some ⟨qb, 0, none⟩)] 106 true
  que : G h qb [.slice none 0 0] 150 true
  spc : G h sb [.int .i64 c.gs, .int .i64 c.slots, .int .i64 c.nodes, .slice none 0 0, .int .i64 0] 148 true
  g1 : 1 ≤ gN ∧ gN ≤ 64
  x1 : 1 ≤ xN ∧ xN ≤ 64
theorem phaseB {c : CfgD} {cb kb rb tb tl tf xb xl db ds pb qb sb : Nat} {vF vL tm : Value} {gN xN dN : Nat} {fr : Fr} {h : Heap} {K : Value → Heap → Prop} (ok : CfgOK c) (o : KOb h c cb kb rb tb tl tf xb xl db ds pb qb sb vF vL tm gN xN dN) (B : Nat) (hB : ∀ j, j < B → j ≠ xl ∧ j ≠ ds ∧ j ≠ tb ∧ j ≠ tl ∧ j ≠ qb ∧ j ≠ sb) (hBn : B ≤ h.n)
    (f1 : fr.get 1 = some (.pointer (some ⟨cb, 0, none⟩))) (f5 : fr.get 5 = some (.pointer (some ⟨kb, 0, none⟩))) (f6 : fr.get 6 = some (.pointer (some ⟨rb, 0, none⟩)))
    (hK : ∀ v h', ExtB B h h' → K (.tuple #[v, .int .i64 0]) h') : s16_17.wp env 128 none fr h (resK env [.tmp 2, .tmp 3] K) := by
  obtain ⟨p1, p2⟩ := ok.ps
  have e1 := getK_of f1
  have e5 := getK_of f5
  have e6 := getK_of f6
  have k3 := o.kbx.cell (off := 17) rfl
  have k4 := o.kbx.cell (off := 18) rfl
  have b12 := o.cbx.cell (off := 12) rfl
  have b13 := o.cbx.cell (off := 13) rfl
  have rr := o.rbx.cells (n := 2) rfl (by decide)
  repeat' (first | done | with_reducible (first | refine y1 ?_ (by omega) | refine y2 ?_ (by omega) | refine y3 (fun _ => ?_) (fun _ => ?_) | refine y4 ?_ (by omega) (by omega) | refine y5 ?_ (by omega) | refine y6 ?_ (by with_unfolding_all rfl) | refine y7 ?_ (by with_unfolding_all rfl) | refine y8 ?_ (by with_unfolding_all rfl) | refine y9 ?_ (by with_unfolding_all rfl) | refine ya ?_ (by with_unfolding_all rfl)) | (simp -dsimp only [↓cw_plan, ↓cw_seq, ↓getK_same, ↓getK_ne, ↓evK_tmp, ↓evK_int, ↓planW_d, ↓agK_nil, ↓opW_move, ↓ld1_some, ↓fldA_some, ↓evs_nil, ↓evs_cons, ↓opW_call, ↓opW_nilCheck, ↓fa_89_3, ↓ld_22, ↓ld_83, ↓fa_25_12, ↓fa_25_13, ↓p16_16_w, ↓s16_17_w, onV_some', Nat.le_refl, true_and, ne_eq, Nat.reduceEqDiff, Nat.reduceAdd, not_false_eq_true, Addr.add_lit, ↓e1, ↓e5, k3, b12, b13]))
  refine ctxMake_ret o.x1.1 o.x1.2 ok.budget ok.each o.ctx o.ctl fun v1 sl rest h1 ctx1 ctl1 n1 F1 => ?_
  have cb1 := o.cbx.fr o.ctl (by decide) n1 F1
  have kb1 := o.kbx.fr o.ctl (by decide) n1 F1
  have rb1 := o.rbx.fr o.ctl (by decide) n1 F1
  have tb1 := o.tab.fr o.ctl (by decide) n1 F1
  have tl1 := o.tal.fr o.ctl (by decide) n1 F1
  have tf1 := o.taf.fr o.ctl (by decide) n1 F1
  have dom1 : DomO h1 db ds dN c.gs c.cpu c.period vF := ⟨o.dom.d.fr o.ctl (by decide) n1 F1, o.dom.s.fr o.ctl (by decide) n1 F1, o.dom.one, o.dom.few⟩
  have pl1 := o.plc.fr o.ctl (by decide) n1 F1
  have qu1 := o.que.fr o.ctl (by decide) n1 F1
  have sp1 := o.spc.fr o.ctl (by decide) n1 F1
  have k3 := kb1.cell (off := 17) rfl
  have k4 := kb1.cell (off := 18) rfl
  have b12 := cb1.cell (off := 12) rfl
  have b13 := cb1.cell (off := 13) rfl
  have rr := rb1.cells (n := 2) rfl (by decide)
  refine ⟨n1, by repeat' (first | done | with_reducible (first | refine y1 ?_ (by omega) | refine y2 ?_ (by omega) | refine y3 (fun _ => ?_) (fun _ => ?_) | refine y4 ?_ (by omega) (by omega) | refine y5 ?_ (by omega) | refine y6 ?_ (by with_unfolding_all rfl) | refine y7 ?_ (by with_unfolding_all rfl) | refine y8 ?_ (by with_unfolding_all rfl) | refine y9 ?_ (by with_unfolding_all rfl) | refine ya ?_ (by with_unfolding_all rfl)) | (simp -dsimp only [↓agK_nil])), ?_⟩
  repeat' (first | done | with_reducible (first | refine y1 ?_ (by omega) | refine y2 ?_ (by omega) | refine y3 (fun _ => ?_) (fun _ => ?_) | refine y4 ?_ (by omega) (by omega) | refine y5 ?_ (by omega) | refine y6 ?_ (by with_unfolding_all rfl) | refine y7 ?_ (by with_unfolding_all rfl) | refine y8 ?_ (by with_unfolding_all rfl) | refine y9 ?_ (by with_unfolding_all rfl) | refine ya ?_ (by with_unfolding_all rfl)) | (simp -dsimp only [↓cw_plan, ↓cw_seq, ↓seqK_normal, ↓getK_same, ↓getK_ne, ↓evK_tmp, ↓planW_nil, ↓planW_d, ↓agK_nil, ↓opW_move, ↓ld1_some, ↓ldN_some, ↓fldA_some, ↓evs_nil, ↓evs_cons, ↓opW_call, ↓opW_nilCheck, ↓fa_89_4, ↓ld_84, ↓ld_59, ↓p16_14_w, ↓s16_15_w, onV_some', Nat.le_refl, true_and, ne_eq, Nat.reduceEqDiff, Nat.reduceAdd, not_false_eq_true, Addr.add_lit, ↓e5, ↓e6, k4, rr]))
  refine join_ret dom1 ok.gs.1 fun v2 h2 n2 F2 => ?_
  have cb2 := cb1.fr dom1.s (by decide) n2 F2
  have kb2 := kb1.fr dom1.s (by decide) n2 F2
  have rb2 := rb1.fr dom1.s (by decide) n2 F2
  have tb2 := tb1.fr dom1.s (by decide) n2 F2
  have tl2 := tl1.fr dom1.s (by decide) n2 F2
  have tf2 := tf1.fr dom1.s (by decide) n2 F2
  have pl2 := pl1.fr dom1.s (by decide) n2 F2
  have qu2 := qu1.fr dom1.s (by decide) n2 F2
  have sp2 := sp1.fr dom1.s (by decide) n2 F2
  have ctx2 := ctx1.fr dom1.s (by decide) n2 F2
  have ctl2 := ctl1.fr dom1.s (by decide) n2 F2
  have k2 := kb2.cell (off := 16) rfl
  have k3 := kb2.cell (off := 17) rfl
  have k4 := kb2.cell (off := 18) rfl
  have k5 := kb2.cell (off := 19) rfl
  have k6 := kb2.cell (off := 20) rfl
  have b0 := cb2.cell (off := 0) rfl
  have rr := rb2.cells (n := 2) rfl (by decide)
  refine ⟨n2, by repeat' (first | done | with_reducible (first | refine y1 ?_ (by omega) | refine y2 ?_ (by omega) | refine y3 (fun _ => ?_) (fun _ => ?_) | refine y4 ?_ (by omega) (by omega) | refine y5 ?_ (by omega) | refine y6 ?_ (by with_unfolding_all rfl) | refine y7 ?_ (by with_unfolding_all rfl) | refine y8 ?_ (by with_unfolding_all rfl) | refine y9 ?_ (by with_unfolding_all rfl) | refine ya ?_ (by with_unfolding_all rfl)) | (simp -dsimp only [↓agK_nil])), ?_⟩
  repeat' (first | done | with_reducible (first | refine y1 ?_ (by omega) | refine y2 ?_ (by omega) | refine y3 (fun _ => ?_) (fun _ => ?_) | refine y4 ?_ (by omega) (by omega) | refine y5 ?_ (by omega) | refine y6 ?_ (by with_unfolding_all rfl) | refine y7 ?_ (by with_unfolding_all rfl) | refine y8 ?_ (by with_unfolding_all rfl) | refine y9 ?_ (by with_unfolding_all rfl) | refine ya ?_ (by with_unfolding_all rfl)) | (simp -dsimp only [↓cw_plan, ↓cw_seq, ↓seqK_normal, ↓getK_same, ↓getK_ne, ↓evK_tmp, ↓evK_int, ↓planW_nil, ↓planW_d, ↓agK_nil, ↓opW_move, ↓ld1_some, ↓ldN_some, ↓fldA_some, ↓evs_nil, ↓evs_cons, ↓opW_call, ↓opW_nilCheck, ↓fa_89_3, ↓ld_83, ↓ld_59, ↓p16_12_w, ↓s16_13_w, onV_some', Nat.le_refl, true_and, ne_eq, Nat.reduceEqDiff, Nat.reduceAdd, not_false_eq_true, Addr.add_lit, ↓e5, ↓e6, k3, rr]))
  refine ctxBind_ret o.x1.1 ctx2 ctl2 fun v3 h3 n3 F3 => ?_
  have cb3 := cb2.fr ctl2 (by decide) n3 F3
  have kb3 := kb2.fr ctl2 (by decide) n3 F3
  have rb3 := rb2.fr ctl2 (by decide) n3 F3
  have tb3 := tb2.fr ctl2 (by decide) n3 F3
  have tl3 := tl2.fr ctl2 (by decide) n3 F3
  have tf3 := tf2.fr ctl2 (by decide) n3 F3
  have pl3 := pl2.fr ctl2 (by decide) n3 F3
  have qu3 := qu2.fr ctl2 (by decide) n3 F3
  have sp3 := sp2.fr ctl2 (by decide) n3 F3
  have k2 := kb3.cell (off := 16) rfl
  have k3 := kb3.cell (off := 17) rfl
  have k4 := kb3.cell (off := 18) rfl
  have k5 := kb3.cell (off := 19) rfl
  have k6 := kb3.cell (off := 20) rfl
  have b0 := cb3.cell (off := 0) rfl
  have rr := rb3.cells (n := 2) rfl (by decide)
  refine ⟨n3, by repeat' (first | done | with_reducible (first | refine y1 ?_ (by omega) | refine y2 ?_ (by omega) | refine y3 (fun _ => ?_) (fun _ => ?_) | refine y4 ?_ (by omega) (by omega) | refine y5 ?_ (by omega) | refine y6 ?_ (by with_unfolding_all rfl) | refine y7 ?_ (by with_unfolding_all rfl) | refine y8 ?_ (by with_unfolding_all rfl) | refine y9 ?_ (by with_unfolding_all rfl) | refine ya ?_ (by with_unfolding_all rfl)) | (simp -dsimp only [↓agK_nil])), ?_⟩
  repeat' (first | done | with_reducible (first | refine y1 ?_ (by omega) | refine y2 ?_ (by omega) | refine y3 (fun _ => ?_) (fun _ => ?_) | refine y4 ?_ (by omega) (by omega) | refine y5 ?_ (by omega) | refine y6 ?_ (by with_unfolding_all rfl) | refine y7 ?_ (by with_unfolding_all rfl) | refine y8 ?_ (by with_unfolding_all rfl) | refine y9 ?_ (by with_unfolding_all rfl) | refine ya ?_ (by with_unfolding_all rfl)) | (simp -dsimp only [↓cw_plan, ↓cw_seq, ↓seqK_normal, ↓getK_same, ↓getK_ne, ↓evK_tmp, ↓planW_nil, ↓planW_d, ↓agK_nil, ↓opW_move, ↓ld1_some, ↓ldN_some, ↓fldA_some, ↓evs_nil, ↓evs_cons, ↓opW_call, ↓opW_nilCheck, ↓fa_25_0, ↓ld_3, ↓fa_89_2, ↓ld_59, ↓ld_82, ↓p16_10_w, ↓s16_11_w, onV_some', Nat.le_refl, true_and, ne_eq, Nat.reduceEqDiff, Nat.reduceAdd, not_false_eq_true, Nat.add_zero, Addr.add_lit, ↓e1, ↓e5, ↓e6, k2, b0, rr]))
  refine all_ret' ok.ps fun af h4 X4 => ?_
  have n4 := X4.n
  have cb4 := cb3.ext X4 cb3.1
  have kb4 := kb3.ext X4 kb3.1
  have rb4 := rb3.ext X4 rb3.1
  have tb4 := tb3.ext X4 tb3.1
  have tl4 := tl3.ext X4 tl3.1
  have tf4 := tf3.ext X4 tf3.1
  have pl4 := pl3.ext X4 pl3.1
  have qu4 := qu3.ext X4 qu3.1
  have sp4 := sp3.ext X4 sp3.1
  have k2 := kb4.cell (off := 16) rfl
  have k3 := kb4.cell (off := 17) rfl
  have k4 := kb4.cell (off := 18) rfl
  have k5 := kb4.cell (off := 19) rfl
  have k6 := kb4.cell (off := 20) rfl
  have b0 := cb4.cell (off := 0) rfl
  have rr := rb4.cells (n := 2) rfl (by decide)
  refine ⟨n4, by repeat' (first | done | with_reducible (first | refine y1 ?_ (by omega) | refine y2 ?_ (by omega) | refine y3 (fun _ => ?_) (fun _ => ?_) | refine y4 ?_ (by omega) (by omega) | refine y5 ?_ (by omega) | refine y6 ?_ (by with_unfolding_all rfl) | refine y7 ?_ (by with_unfolding_all rfl) | refine y8 ?_ (by with_unfolding_all rfl) | refine y9 ?_ (by with_unfolding_all rfl) | refine ya ?_ (by with_unfolding_all rfl)) | (simp -dsimp only [↓getK_same, ↓getK_ne, ↓evK_tmp, ↓agK_nil, ↓ld1_some, ↓ldN_some, ↓agK_load, ↓agV_same, ↓agV_ne, ↓agl_82, ↓agl_59, onV_some', and_true, ne_eq, Nat.reduceEqDiff, Nat.reduceAdd, not_false_eq_true, Addr.add_lit, ↓e6, k2, rr, same_ptr, same_ref])), ?_⟩
  repeat' (first | done | with_reducible (first | refine y1 ?_ (by omega) | refine y2 ?_ (by omega) | refine y3 (fun _ => ?_) (fun _ => ?_) | refine y4 ?_ (by omega) (by omega) | refine y5 ?_ (by omega) | refine y6 ?_ (by with_unfolding_all rfl) | refine y7 ?_ (by with_unfolding_all rfl) | refine y8 ?_ (by with_unfolding_all rfl) | refine y9 ?_ (by with_unfolding_all rfl) | refine ya ?_ (by with_unfolding_all rfl)) | (simp -dsimp only [↓getK_same, ↓getK_ne, ↓evK_tmp, ↓evK_int, ↓planW_d, ↓agK_nil, ↓evs_nil, ↓evs_cons, ↓opW_call, ↓evp_nil, ↓evp_cons, ↓bd_64, true_and, ne_eq, Nat.reduceEqDiff, not_false_eq_true]))
  refine gMake_ret (n := af) o.g1.1 o.g1.2 tb4 tl4 tf4 fun v5 h5 n5 F5 => ?_
  have cb5 := cb4.same n5 (F5 _ cb4.1 (fun hh => (tb4.ne cb4 (.inl (by decide))) hh.symm) (fun hh => (tl4.ne cb4 (.inl (by decide))) hh.symm))
  have kb5 := kb4.same n5 (F5 _ kb4.1 (fun hh => (tb4.ne kb4 (.inl (by decide))) hh.symm) (fun hh => (tl4.ne kb4 (.inl (by decide))) hh.symm))
  have rb5 := rb4.same n5 (F5 _ rb4.1 (fun hh => (tb4.ne rb4 (.inl (by decide))) hh.symm) (fun hh => (tl4.ne rb4 (.inl (by decide))) hh.symm))
  have pl5 := pl4.same n5 (F5 _ pl4.1 (fun hh => (tb4.ne pl4 (.inl (by decide))) hh.symm) (fun hh => (tl4.ne pl4 (.inl (by decide))) hh.symm))
  have qu5 := qu4.same n5 (F5 _ qu4.1 (fun hh => (tb4.ne qu4 (.inl (by decide))) hh.symm) (fun hh => (tl4.ne qu4 (.inl (by decide))) hh.symm))
  have sp5 := sp4.same n5 (F5 _ sp4.1 (fun hh => (tb4.ne sp4 (.inl (by decide))) hh.symm) (fun hh => (tl4.ne sp4 (.inl (by decide))) hh.symm))
  have k2 := kb5.cell (off := 16) rfl
  have k3 := kb5.cell (off := 17) rfl
  have k4 := kb5.cell (off := 18) rfl
  have k5 := kb5.cell (off := 19) rfl
  have k6 := kb5.cell (off := 20) rfl
  have b0 := cb5.cell (off := 0) rfl
  have rr := rb5.cells (n := 2) rfl (by decide)
  have p1c := pl5.cell (off := 1) rfl
  refine ⟨n5, by repeat' (first | done | with_reducible (first | refine y1 ?_ (by omega) | refine y2 ?_ (by omega) | refine y3 (fun _ => ?_) (fun _ => ?_) | refine y4 ?_ (by omega) (by omega) | refine y5 ?_ (by omega) | refine y6 ?_ (by with_unfolding_all rfl) | refine y7 ?_ (by with_unfolding_all rfl) | refine y8 ?_ (by with_unfolding_all rfl) | refine y9 ?_ (by with_unfolding_all rfl) | refine ya ?_ (by with_unfolding_all rfl)) | (simp -dsimp only [↓agK_nil])), ?_⟩
  repeat' (first | done | with_reducible (first | refine y1 ?_ (by omega) | refine y2 ?_ (by omega) | refine y3 (fun _ => ?_) (fun _ => ?_) | refine y4 ?_ (by omega) (by omega) | refine y5 ?_ (by omega) | refine y6 ?_ (by with_unfolding_all rfl) | refine y7 ?_ (by with_unfolding_all rfl) | refine y8 ?_ (by with_unfolding_all rfl) | refine y9 ?_ (by with_unfolding_all rfl) | refine ya ?_ (by with_unfolding_all rfl)) | (simp -dsimp only [↓cw_ops, ↓cw_seq, ↓seqK_normal, ↓getK_same, ↓getK_ne, ↓evK_tmp, ↓evK_int, ↓opsW_d, ↓planW_nil, ↓opW_move, ↓ld1_some, ↓fldA_some, ↓evs_nil, ↓evs_cons, ↓opW_call, ↓evp_nil, ↓evp_cons, ↓opW_nilCheck, ↓fa_89_6, ↓ld_86, ↓fa_106_1, ↓ld_104, ↓bsl_38_1, ↓r16_8_w, ↓s16_9_w, onV_some', ne_eq, Nat.reduceEqDiff, Nat.reduceAdd, not_false_eq_true, Addr.add_lit, ↓e5, k6, p1c]))
  have X6 : ExtB h5.n h5 (newBlk h5 (.cells [.int .i64 0] 3 true)) := ExtB.new _ (Nat.le_refl _)
  have z6 := G.new h5 [.int .i64 0] 3 true
  have hz : Blk.cells (Value.int .i64 0).cells.toList 3 true = .cells [.int .i64 0] 3 true := rfl
  rw [hz]
  have cb6 := cb5.ext X6 cb5.1
  have kb6 := kb5.ext X6 kb5.1
  have rb6 := rb5.ext X6 rb5.1
  have qu6 := qu5.ext X6 qu5.1
  have sp6 := sp5.ext X6 sp5.1
  generalize newBlk h5 (.cells [.int .i64 0] 3 true) = h6 at X6 z6 cb6 kb6 rb6 qu6 sp6 ⊢
  have n6 := X6.n
  refine qPut_ret qu6 z6 fun v7 h7 n7 F7 => ?_
  have cb7 := cb6.fr qu6 (by decide) n7 F7
  have kb7 := kb6.fr qu6 (by decide) n7 F7
  have rb7 := rb6.fr qu6 (by decide) n7 F7
  have sp7 := sp6.fr qu6 (by decide) n7 F7
  have k2 := kb7.cell (off := 16) rfl
  have k3 := kb7.cell (off := 17) rfl
  have k4 := kb7.cell (off := 18) rfl
  have k5 := kb7.cell (off := 19) rfl
  have k6 := kb7.cell (off := 20) rfl
  have b0 := cb7.cell (off := 0) rfl
  have rr := rb7.cells (n := 2) rfl (by decide)
  repeat' (first | done | with_reducible (first | refine y1 ?_ (by omega) | refine y2 ?_ (by omega) | refine y3 (fun _ => ?_) (fun _ => ?_) | refine y4 ?_ (by omega) (by omega) | refine y5 ?_ (by omega) | refine y6 ?_ (by with_unfolding_all rfl) | refine y7 ?_ (by with_unfolding_all rfl) | refine y8 ?_ (by with_unfolding_all rfl) | refine y9 ?_ (by with_unfolding_all rfl) | refine ya ?_ (by with_unfolding_all rfl)) | (simp -dsimp only [↓cw_plan, ↓cw_seq, ↓seqK_normal, ↓getK_same, ↓getK_ne, ↓evK_tmp, ↓evK_int, ↓opsW_nil, ↓planW_d, ↓agK_nil, ↓opW_move, ↓ld1_some, ↓ldN_some, ↓fldA_some, ↓evs_nil, ↓evs_cons, ↓opW_call, ↓evp_nil, ↓evp_cons, ↓opW_nilCheck, ↓fa_89_5, ↓ld_59, ↓ld_85, ↓bd_112, ↓p16_6_w, ↓s16_7_w, onV_some', Nat.le_refl, true_and, ne_eq, Nat.reduceEqDiff, Nat.reduceAdd, not_false_eq_true, Addr.add_lit, ↓e5, ↓e6, k5, rr]))
  have so7 : SpcO 0 h7 sb 0 c.gs c.slots c.nodes none 0 := ⟨sp7, .nil, Nat.zero_le _⟩
  refine spcPut_ret (k := 0) so7 (by omega) ok.gs.1 ok.slots.1 ok.nodes.1 fun v8 a8 c8 h8 so8 n8 F8 => ?_
  have cb8 := cb7.fr sp7 (by decide) n8 F8
  have kb8 := kb7.fr sp7 (by decide) n8 F8
  have rb8 := rb7.fr sp7 (by decide) n8 F8
  have k2 := kb8.cell (off := 16) rfl
  have k3 := kb8.cell (off := 17) rfl
  have k4 := kb8.cell (off := 18) rfl
  have k5 := kb8.cell (off := 19) rfl
  have k6 := kb8.cell (off := 20) rfl
  have b0 := cb8.cell (off := 0) rfl
  have rr := rb8.cells (n := 2) rfl (by decide)
  refine ⟨n8, by repeat' (first | done | with_reducible (first | refine y1 ?_ (by omega) | refine y2 ?_ (by omega) | refine y3 (fun _ => ?_) (fun _ => ?_) | refine y4 ?_ (by omega) (by omega) | refine y5 ?_ (by omega) | refine y6 ?_ (by with_unfolding_all rfl) | refine y7 ?_ (by with_unfolding_all rfl) | refine y8 ?_ (by with_unfolding_all rfl) | refine y9 ?_ (by with_unfolding_all rfl) | refine ya ?_ (by with_unfolding_all rfl)) | (simp -dsimp only [↓agK_nil])), ?_⟩
  repeat' (first | done | with_reducible (first | refine y1 ?_ (by omega) | refine y2 ?_ (by omega) | refine y3 (fun _ => ?_) (fun _ => ?_) | refine y4 ?_ (by omega) (by omega) | refine y5 ?_ (by omega) | refine y6 ?_ (by with_unfolding_all rfl) | refine y7 ?_ (by with_unfolding_all rfl) | refine y8 ?_ (by with_unfolding_all rfl) | refine y9 ?_ (by with_unfolding_all rfl) | refine ya ?_ (by with_unfolding_all rfl)) | (simp -dsimp only [↓cw_plan, ↓cw_seq, ↓seqK_normal, ↓getK_same, ↓getK_ne, ↓evK_tmp, ↓evK_int, ↓planW_nil, ↓planW_d, ↓agK_nil, ↓opW_move, ↓ld1_some, ↓ldN_some, ↓fldA_some, ↓evs_nil, ↓evs_cons, ↓opW_call, ↓evp_nil, ↓evp_cons, ↓opW_nilCheck, ↓fa_89_5, ↓ld_59, ↓ld_85, ↓bd_112, ↓p16_4_w, ↓s16_5_w, onV_some', Nat.le_refl, true_and, ne_eq, Nat.reduceEqDiff, Nat.reduceAdd, not_false_eq_true, Addr.add_lit, ↓e5, ↓e6, k5, rr]))
  refine spcPut_ret (k := 1) so8 (by omega) ok.gs.1 ok.slots.1 ok.nodes.1 fun v9 a9 c9 h9 so9 n9 F9 => ?_
  have cb9 := cb8.fr so8.g (by decide) n9 F9
  have kb9 := kb8.fr so8.g (by decide) n9 F9
  have rb9 := rb8.fr so8.g (by decide) n9 F9
  have k2 := kb9.cell (off := 16) rfl
  have k3 := kb9.cell (off := 17) rfl
  have k4 := kb9.cell (off := 18) rfl
  have k5 := kb9.cell (off := 19) rfl
  have k6 := kb9.cell (off := 20) rfl
  have b0 := cb9.cell (off := 0) rfl
  have rr := rb9.cells (n := 2) rfl (by decide)
  refine ⟨n9, by repeat' (first | done | with_reducible (first | refine y1 ?_ (by omega) | refine y2 ?_ (by omega) | refine y3 (fun _ => ?_) (fun _ => ?_) | refine y4 ?_ (by omega) (by omega) | refine y5 ?_ (by omega) | refine y6 ?_ (by with_unfolding_all rfl) | refine y7 ?_ (by with_unfolding_all rfl) | refine y8 ?_ (by with_unfolding_all rfl) | refine y9 ?_ (by with_unfolding_all rfl) | refine ya ?_ (by with_unfolding_all rfl)) | (simp -dsimp only [↓agK_nil])), ?_⟩
  repeat' (first | done | with_reducible (first | refine y1 ?_ (by omega) | refine y2 ?_ (by omega) | refine y3 (fun _ => ?_) (fun _ => ?_) | refine y4 ?_ (by omega) (by omega) | refine y5 ?_ (by omega) | refine y6 ?_ (by with_unfolding_all rfl) | refine y7 ?_ (by with_unfolding_all rfl) | refine y8 ?_ (by with_unfolding_all rfl) | refine y9 ?_ (by with_unfolding_all rfl) | refine ya ?_ (by with_unfolding_all rfl)) | (simp -dsimp only [↓cw_plan, ↓cw_seq, ↓seqK_normal, ↓getK_same, ↓getK_ne, ↓evK_tmp, ↓evK_int, ↓planW_nil, ↓planW_d, ↓agK_nil, ↓opW_move, ↓ld1_some, ↓ldN_some, ↓fldA_some, ↓evs_nil, ↓evs_cons, ↓opW_call, ↓evp_nil, ↓evp_cons, ↓opW_nilCheck, ↓fa_89_5, ↓ld_59, ↓ld_85, ↓bd_112, ↓p16_2_w, ↓s16_3_w, onV_some', Nat.le_refl, true_and, ne_eq, Nat.reduceEqDiff, Nat.reduceAdd, not_false_eq_true, Addr.add_lit, ↓e5, ↓e6, k5, rr]))
  refine spcPut_ret (k := 2) so9 (by omega) ok.gs.1 ok.slots.1 ok.nodes.1 fun v10 a10 c10 h10 so10 n10 F10 => ?_
  have cb10 := cb9.fr so9.g (by decide) n10 F10
  have kb10 := kb9.fr so9.g (by decide) n10 F10
  have rb10 := rb9.fr so9.g (by decide) n10 F10
  have k2 := kb10.cell (off := 16) rfl
  have k3 := kb10.cell (off := 17) rfl
  have k4 := kb10.cell (off := 18) rfl
  have k5 := kb10.cell (off := 19) rfl
  have k6 := kb10.cell (off := 20) rfl
  have b0 := cb10.cell (off := 0) rfl
  have rr := rb10.cells (n := 2) rfl (by decide)
  refine ⟨n10, by repeat' (first | done | with_reducible (first | refine y1 ?_ (by omega) | refine y2 ?_ (by omega) | refine y3 (fun _ => ?_) (fun _ => ?_) | refine y4 ?_ (by omega) (by omega) | refine y5 ?_ (by omega) | refine y6 ?_ (by with_unfolding_all rfl) | refine y7 ?_ (by with_unfolding_all rfl) | refine y8 ?_ (by with_unfolding_all rfl) | refine y9 ?_ (by with_unfolding_all rfl) | refine ya ?_ (by with_unfolding_all rfl)) | (simp -dsimp only [↓agK_nil])), ?_⟩
  repeat' (first | done | with_reducible (first | refine y1 ?_ (by omega) | refine y2 ?_ (by omega) | refine y3 (fun _ => ?_) (fun _ => ?_) | refine y4 ?_ (by omega) (by omega) | refine y5 ?_ (by omega) | refine y6 ?_ (by with_unfolding_all rfl) | refine y7 ?_ (by with_unfolding_all rfl) | refine y8 ?_ (by with_unfolding_all rfl) | refine y9 ?_ (by with_unfolding_all rfl) | refine ya ?_ (by with_unfolding_all rfl)) | (simp -dsimp only [↓cw_ops, ↓cw_seq, ↓cw_ret, ↓seqK_normal, ↓getK_same, ↓getK_ne, ↓evK_tmp, ↓evK_int, ↓opsW_nil, ↓opsW_d, ↓planW_nil, ↓opW_move, ↓opW_assign, ↓resK_two, ↓r16_0_w, ↓s16_1_w, ne_eq, Nat.reduceEqDiff, not_false_eq_true, ↓e5]))
  exact hK _ h10 ⟨by omega, fun j hj => by
    obtain ⟨d1, d2, d3, d4, d5, d6⟩ := hB j hj
    rw [F10 j (by omega) d6, F9 j (by omega) d6, F8 j (by omega) d6, F7 j (by omega) d5, X6.get j (by omega), F5 j (by omega) d3 d4, X4.get j (by omega), F3 j (by omega) d1, F2 j (by omega) d2, F1 j (by omega) d1]⟩
end Go.Proofs.Ytdjnedamphifcaa

namespace Go.Proofs.Ytdjnedamphifcaa
open Go.Ev
set_option maxRecDepth 100000
set_option maxHeartbeats 400000
section
variable {h : Heap} {K : Value → Heap → Prop}
theorem newTab_ret' {z : Int} (hz : 1 ≤ z ∧ z ≤ 64) (hK : ∀ (n tl tf : Nat) h', 1 ≤ n ∧ n ≤ 64 → G h' h.n [.slice (some ⟨tl, 0, none⟩) n UNK, .slice (some ⟨tf, 0, none⟩) n UNK] 129 true → G h' tl (many n place0) 131 false → G h' tf (iV (downL n n)) 3 false → h.n < tl → h.n < tf → ExtB h.n h h' → K (.pointer (some ⟨h.n, 0, none⟩)) h') : Ret env (.func 27) [.int .i64 z] h K := by
  obtain ⟨n, rfl⟩ := Int.eq_ofNat_of_zero_le (show 0 ≤ z by omega)
  refine newTab_ret (by omega) fun vL vF h' g1 hn rL rF X => ?_
  obtain ⟨tl, rfl, i1, gl⟩ := rL.g (by omega)
  obtain ⟨tf, rfl, i2, gf⟩ := rF.g (by omega)
  exact hK n tl tf h' (by omega) ⟨hn, g1⟩ gl gf (by omega) (by omega) X
theorem newCtx_ret' {z most : Int} (hz : 1 ≤ z ∧ z ≤ 32) (hK : ∀ (n xl : Nat) h', 1 ≤ n ∧ n ≤ 64 → G h' h.n [.slice (some ⟨xl, 0, none⟩) n UNK, .int .i64 0, .int .i64 most] 134 true → G h' xl (ctxL n) 139 false → h.n < xl → ExtB h.n h h' → K (.pointer (some ⟨h.n, 0, none⟩)) h') : Ret env (.func 28) [.int .i64 z, .int .i64 most] h K := by
  obtain ⟨n, rfl⟩ := Int.eq_ofNat_of_zero_le (show 0 ≤ z by omega)
  refine newCtx_ret (by omega) fun vL h' g1 hn rL X => ?_
  obtain ⟨xl, rfl, i1, gl⟩ := rL.g (by omega)
  exact hK n xl h' (by omega) ⟨hn, g1⟩ gl (by omega) X
theorem newDom_ret' {z gs cpu period : Int} (hz : 1 ≤ z ∧ z ≤ 32) (hK : ∀ (n : Nat) vF h', DomO h' (h.n + 1) h.n n gs cpu period vF → ExtB h.n h h' → K (.pointer (some ⟨h.n + 1, 0, none⟩)) h') : Ret env (.func 29) [.int .i64 z, .int .i64 gs, .int .u64 cpu, .int .u64 period] h K := by
  obtain ⟨n, rfl⟩ := Int.eq_ofNat_of_zero_le (show 0 ≤ z by omega)
  refine newDom_ret (by omega) (by omega) fun vF h' g1 g2 X => ?_
  exact hK n vF h' ⟨g1, g2, by omega, by omega⟩ X
theorem newPlc_ret' {z ring : Int} (hz : 1 ≤ z ∧ z ≤ 8) (hK : ∀ vL h', G h' h.n [.slice none 0 0] 150 true → G h' (h.n + 1) [vL, .pointer (some ⟨h.n, 0, none⟩)] 106 true → ExtB h.n h h' → K (.pointer (some ⟨h.n + 1, 0, none⟩)) h') : Ret env (.func 31) [.int .i64 z, .int .i64 ring] h K := by
  obtain ⟨n, rfl⟩ := Int.eq_ofNat_of_zero_le (show 0 ≤ z by omega)
  refine newPlc_ret (by omega) fun vL h' g1 g2 hn X => ?_
  exact hK vL h' ⟨by omega, g1⟩ ⟨hn, g2⟩ X
theorem new_ret {B : Nat} {c : CfgD} {l : List PrgD} (hB : B ≤ h.n) (hp : Progs B h c l) (hK : ∀ v e h', (e = 0 → CfgOK c) → ExtB h.n h h' → K (.tuple #[v, .int .i64 e]) h') : Ret env (.func 16) [.agg ⟨c.cells⟩] h K := by
  refine F16 rfl ?_
  repeat' (first | done | with_reducible (first | refine y1 ?_ (by omega) | refine y2 ?_ (by omega) | refine y3 (fun _ => ?_) (fun _ => ?_) | refine y4 ?_ (by omega) (by omega) | refine y5 ?_ (by omega) | refine y6 ?_ (by with_unfolding_all rfl) | refine y7 ?_ (by with_unfolding_all rfl) | refine y8 ?_ (by with_unfolding_all rfl) | refine y9 ?_ (by with_unfolding_all rfl) | refine ya ?_ (by with_unfolding_all rfl)) | (simp -dsimp only [↓cw_ops, ↓cw_seq, ↓seqK_normal, ↓getK_same, ↓evK_tmp, ↓evK_int, ↓evK_nilptr, ↓opsW_nil, ↓opsW_d, ↓opW_assign, ↓setAll_cons, ↓setAll_nil, ↓opW_box, ↓box_agg, ↓r16_42_w, ↓s16_43_w]))
  have X1 : ExtB h.n h (newBlk h (.cells c.cells 25 true)) := ExtB.new _ (Nat.le_refl _)
  have cb := G.new h c.cells 25 true
  have hn1 : (newBlk h (.cells c.cells 25 true)).n = h.n + 1 := rfl
  generalize newBlk h (.cells c.cells 25 true) = h1 at X1 cb hn1 ⊢
  have dc := cb.cells (n := 15) rfl (by decide)
  repeat' (first | done | with_reducible (first | refine y1 ?_ (by omega) | refine y2 ?_ (by omega) | refine y3 (fun _ => ?_) (fun _ => ?_) | refine y4 ?_ (by omega) (by omega) | refine y5 ?_ (by omega) | refine y6 ?_ (by with_unfolding_all rfl) | refine y7 ?_ (by with_unfolding_all rfl) | refine y8 ?_ (by with_unfolding_all rfl) | refine y9 ?_ (by with_unfolding_all rfl) | refine ya ?_ (by with_unfolding_all rfl)) | (simp -dsimp only [↓cw_ops, ↓cw_seq, ↓getK_same, ↓getK_ne, ↓evK_tmp, ↓opsW_d, ↓ldN_some, ↓evs_nil, ↓evs_cons, ↓opW_call, ↓ld_25, ↓r16_39_w, ↓s16_40_w, ↓s16_41_w, onV_some', ne_eq, Nat.reduceEqDiff, not_false_eq_true, dc]))
  refine may_ret (B := B) (by omega) (hp.ext (X1.mono hB)) fun e h2 he X2 => ?_
  have XX2 : ExtB h.n h h2 := X1.trans (X2.mono (by omega))
  by_cases h0 : e = 0
  · subst h0
    have ok := he rfl
    have cb2 := cb.ext X2 cb.1
    have dc := cb2.cells (n := 15) rfl (by decide)
    have hn2 := X2.n
    repeat' (first | done | with_reducible (first | refine y1 ?_ (by omega) | refine y2 ?_ (by omega) | refine y3 (fun _ => ?_) (fun _ => ?_) | refine y4 ?_ (by omega) (by omega) | refine y5 ?_ (by omega) | refine y6 ?_ (by with_unfolding_all rfl) | refine y7 ?_ (by with_unfolding_all rfl) | refine y8 ?_ (by with_unfolding_all rfl) | refine y9 ?_ (by with_unfolding_all rfl) | refine ya ?_ (by with_unfolding_all rfl)) | (simp -dsimp only [↓cw_skip, ↓cw_ops, ↓cw_seq, ↓cw_cond, ↓seqK_normal, ↓getK_same, ↓getK_ne, ↓evK_tmp, ↓evK_int, ↓condV_var, ↓opsW_nil, ↓opsW_d, ↓opW_move, ↓opW_assign, ↓opW_bin, ↓bin_neq, ↓ldN_some, ↓opW_box, ↓box_agg, ↓evp_nil, ↓evp_cons, ↓ld_25, ↓bd_89, ↓r16_32_w, ↓s16_33_w, ↓s16_36_w, ↓r16_37_w, ↓s16_38_w, onV_some', brK_true, brK_false, ne_eq, Nat.reduceEqDiff, not_false_eq_true, Bool.false_eq_true,  dc]))
    show GC.wp env 128 none s16_31 _ (newBlk h2 (.cells (c.cells ++ [.int .u64 0, .pointer none, .pointer none, .pointer none, .pointer none, .pointer none, .pointer none]) 89 true)) _
    have X3 : ExtB h2.n h2 (newBlk h2 (.cells (c.cells ++ [.int .u64 0, .pointer none, .pointer none, .pointer none, .pointer none, .pointer none, .pointer none]) 89 true)) := ExtB.new _ (Nat.le_refl _)
    have kb3 := G.new h2 (c.cells ++ [.int .u64 0, .pointer none, .pointer none, .pointer none, .pointer none, .pointer none, .pointer none]) 89 true
    have cb3 := cb2.ext X3 cb2.1
    generalize newBlk h2 (.cells (c.cells ++ [.int .u64 0, .pointer none, .pointer none, .pointer none, .pointer none, .pointer none, .pointer none]) 89 true) = h3 at X3 kb3 cb3 ⊢
    have n3 := X3.n
    have lk : h2.n < h3.n := kb3.1
    have XX3 : ExtB h.n h h3 := XX2.trans (X3.mono (by omega))
    have d0 := cb3.cell (off := 0) rfl
    have d1 := cb3.cell (off := 1) rfl
    have d2 := cb3.cell (off := 2) rfl
    have d3 := cb3.cell (off := 3) rfl
    have d4 := cb3.cell (off := 4) rfl
    have d5 := cb3.cell (off := 5) rfl
    have d6 := cb3.cell (off := 6) rfl
    have d7 := cb3.cell (off := 7) rfl
    have d10 := cb3.cell (off := 10) rfl
    have d11 := cb3.cell (off := 11) rfl
    repeat' (first | done | with_reducible (first | refine y1 ?_ (by omega) | refine y2 ?_ (by omega) | refine y3 (fun _ => ?_) (fun _ => ?_) | refine y4 ?_ (by omega) (by omega) | refine y5 ?_ (by omega) | refine y6 ?_ (by with_unfolding_all rfl) | refine y7 ?_ (by with_unfolding_all rfl) | refine y8 ?_ (by with_unfolding_all rfl) | refine y9 ?_ (by with_unfolding_all rfl) | refine ya ?_ (by with_unfolding_all rfl)) | (simp -dsimp only [↓cw_ops, ↓cw_seq, ↓getK_same, ↓getK_ne, ↓evK_tmp, ↓opsW_d, ↓opW_move, ↓ld1_some, ↓fldA_some, ↓evs_nil, ↓evs_cons, ↓opW_call, ↓ld_3, ↓fa_25_2, ↓r16_30_w, ↓s16_31_w, onV_some', ne_eq, Nat.reduceEqDiff, Nat.reduceAdd, not_false_eq_true, Addr.add_lit, d2]))
    refine newTab_ret' ok.gs fun gN tl tf h4 hg tab4 tal4 taf4 lt4 lf4 X4 => ?_
    have n4 := X4.n
    have cb4 := cb3.ext X4 cb3.1
    have kb4 := kb3.ext X4 kb3.1
    have XX4 : ExtB h.n h h4 := XX3.trans (X4.mono (by have := XX3.n; omega))
    repeat' (first | done | with_reducible (first | refine y1 ?_ (by omega) | refine y2 ?_ (by omega) | refine y3 (fun _ => ?_) (fun _ => ?_) | refine y4 ?_ (by omega) (by omega) | refine y5 ?_ (by omega) | refine y6 ?_ (by with_unfolding_all rfl) | refine y7 ?_ (by with_unfolding_all rfl) | refine y8 ?_ (by with_unfolding_all rfl) | refine y9 ?_ (by with_unfolding_all rfl) | refine ya ?_ (by with_unfolding_all rfl)) | (simp -dsimp only [↓getK_same, ↓getK_ne, ↓evK_tmp, ↓opsW_d, ↓opsW_n, ↓fldA_some, ↓opW_nilCheck, ↓fa_89_2, ↓st_82, ne_eq, Nat.reduceEqDiff, Nat.reduceAdd, not_false_eq_true, Addr.add_lit]))
    refine st_G (off := 16) (l := [.pointer (some ⟨h3.n, 0, none⟩)]) (cs' := c.cells ++ [.int .u64 0, .pointer (some ⟨h3.n, 0, none⟩), .pointer none, .pointer none, .pointer none, .pointer none, .pointer none]) kb4 rfl rfl rfl rfl (by decide) fun h5 e5 kb5 f5 => ?_
    have cb5 := cb4.fr kb4 (by decide) (by omega) (fun j _ hj => f5 j hj)
    have tab5 := tab4.fr kb4 (by decide) (by omega) (fun j _ hj => f5 j hj)
    have tal5 := tal4.fr kb4 (by decide) (by omega) (fun j _ hj => f5 j hj)
    have taf5 := taf4.fr kb4 (by decide) (by omega) (fun j _ hj => f5 j hj)
    have XX5 : ExtB h.n h h5 := XX4.trans ⟨by omega, fun j hj => f5 j (by have := XX2.n; omega)⟩
    have d0 := cb5.cell (off := 0) rfl
    have d1 := cb5.cell (off := 1) rfl
    have d2 := cb5.cell (off := 2) rfl
    have d3 := cb5.cell (off := 3) rfl
    have d4 := cb5.cell (off := 4) rfl
    have d5 := cb5.cell (off := 5) rfl
    have d6 := cb5.cell (off := 6) rfl
    have d7 := cb5.cell (off := 7) rfl
    have d10 := cb5.cell (off := 10) rfl
    have d11 := cb5.cell (off := 11) rfl
    repeat' (first | done | with_reducible (first | refine y1 ?_ (by omega) | refine y2 ?_ (by omega) | refine y3 (fun _ => ?_) (fun _ => ?_) | refine y4 ?_ (by omega) (by omega) | refine y5 ?_ (by omega) | refine y6 ?_ (by with_unfolding_all rfl) | refine y7 ?_ (by with_unfolding_all rfl) | refine y8 ?_ (by with_unfolding_all rfl) | refine y9 ?_ (by with_unfolding_all rfl) | refine ya ?_ (by with_unfolding_all rfl)) | (simp -dsimp only [↓seqK_normal, ↓opsW_nil, Nat.reduceAdd, Addr.add_lit]))
    repeat' (first | done | with_reducible (first | refine y1 ?_ (by omega) | refine y2 ?_ (by omega) | refine y3 (fun _ => ?_) (fun _ => ?_) | refine y4 ?_ (by omega) (by omega) | refine y5 ?_ (by omega) | refine y6 ?_ (by with_unfolding_all rfl) | refine y7 ?_ (by with_unfolding_all rfl) | refine y8 ?_ (by with_unfolding_all rfl) | refine y9 ?_ (by with_unfolding_all rfl) | refine ya ?_ (by with_unfolding_all rfl)) | (simp -dsimp only [↓cw_ops, ↓cw_seq, ↓getK_same, ↓getK_ne, ↓evK_tmp, ↓opsW_d, ↓opW_move, ↓ld1_some, ↓fldA_some, ↓evs_nil, ↓evs_cons, ↓opW_call, ↓ld_3, ↓fa_25_3, ↓fa_25_7, ↓r16_28_w, ↓s16_29_w, onV_some', ne_eq, Nat.reduceEqDiff, Nat.reduceAdd, not_false_eq_true, Addr.add_lit, d3, d7]))
    refine newCtx_ret' ok.contexts fun xN xl h6 hx ctx6 ctl6 lx6 X6 => ?_
    have n6 := X6.n
    have cb6 := cb5.ext X6 cb5.1
    have tab6 := tab5.ext X6 tab5.1
    have tal6 := tal5.ext X6 tal5.1
    have taf6 := taf5.ext X6 taf5.1
    have kb6 := kb5.ext X6 kb5.1
    have XX6 : ExtB h.n h h6 := XX5.trans (X6.mono (by have := XX5.n; omega))
    repeat' (first | done | with_reducible (first | refine y1 ?_ (by omega) | refine y2 ?_ (by omega) | refine y3 (fun _ => ?_) (fun _ => ?_) | refine y4 ?_ (by omega) (by omega) | refine y5 ?_ (by omega) | refine y6 ?_ (by with_unfolding_all rfl) | refine y7 ?_ (by with_unfolding_all rfl) | refine y8 ?_ (by with_unfolding_all rfl) | refine y9 ?_ (by with_unfolding_all rfl) | refine ya ?_ (by with_unfolding_all rfl)) | (simp -dsimp only [↓getK_same, ↓getK_ne, ↓evK_tmp, ↓opsW_d, ↓opsW_n, ↓fldA_some, ↓opW_nilCheck, ↓fa_89_3, ↓st_83, ne_eq, Nat.reduceEqDiff, Nat.reduceAdd, not_false_eq_true, Addr.add_lit]))
    refine st_G (off := 17) (l := [.pointer (some ⟨h5.n, 0, none⟩)]) (cs' := c.cells ++ [.int .u64 0, .pointer (some ⟨h3.n, 0, none⟩), .pointer (some ⟨h5.n, 0, none⟩), .pointer none, .pointer none, .pointer none, .pointer none]) kb6 rfl rfl rfl rfl (by decide) fun h7 e7 kb7 f7 => ?_
    have cb7 := cb6.fr kb6 (by decide) (by omega) (fun j _ hj => f7 j hj)
    have tab7 := tab6.fr kb6 (by decide) (by omega) (fun j _ hj => f7 j hj)
    have tal7 := tal6.fr kb6 (by decide) (by omega) (fun j _ hj => f7 j hj)
    have taf7 := taf6.fr kb6 (by decide) (by omega) (fun j _ hj => f7 j hj)
    have ctx7 := ctx6.fr kb6 (by decide) (by omega) (fun j _ hj => f7 j hj)
    have ctl7 := ctl6.fr kb6 (by decide) (by omega) (fun j _ hj => f7 j hj)
    have XX7 : ExtB h.n h h7 := XX6.trans ⟨by omega, fun j hj => f7 j (by have := XX2.n; omega)⟩
    have d0 := cb7.cell (off := 0) rfl
    have d1 := cb7.cell (off := 1) rfl
    have d2 := cb7.cell (off := 2) rfl
    have d3 := cb7.cell (off := 3) rfl
    have d4 := cb7.cell (off := 4) rfl
    have d5 := cb7.cell (off := 5) rfl
    have d6 := cb7.cell (off := 6) rfl
    have d7 := cb7.cell (off := 7) rfl
    have d10 := cb7.cell (off := 10) rfl
    have d11 := cb7.cell (off := 11) rfl
    repeat' (first | done | with_reducible (first | refine y1 ?_ (by omega) | refine y2 ?_ (by omega) | refine y3 (fun _ => ?_) (fun _ => ?_) | refine y4 ?_ (by omega) (by omega) | refine y5 ?_ (by omega) | refine y6 ?_ (by with_unfolding_all rfl) | refine y7 ?_ (by with_unfolding_all rfl) | refine y8 ?_ (by with_unfolding_all rfl) | refine y9 ?_ (by with_unfolding_all rfl) | refine ya ?_ (by with_unfolding_all rfl)) | (simp -dsimp only [↓seqK_normal, ↓opsW_nil, Nat.reduceAdd, Addr.add_lit]))
    repeat' (first | done | with_reducible (first | refine y1 ?_ (by omega) | refine y2 ?_ (by omega) | refine y3 (fun _ => ?_) (fun _ => ?_) | refine y4 ?_ (by omega) (by omega) | refine y5 ?_ (by omega) | refine y6 ?_ (by with_unfolding_all rfl) | refine y7 ?_ (by with_unfolding_all rfl) | refine y8 ?_ (by with_unfolding_all rfl) | refine y9 ?_ (by with_unfolding_all rfl) | refine ya ?_ (by with_unfolding_all rfl)) | (simp -dsimp only [↓cw_ops, ↓cw_seq, ↓getK_same, ↓getK_ne, ↓evK_tmp, ↓opsW_d, ↓opW_move, ↓ld1_some, ↓fldA_some, ↓evs_nil, ↓evs_cons, ↓opW_call, ↓ld_3, ↓fa_25_2, ↓fa_25_4, ↓fa_25_10, ↓ld_22, ↓fa_25_11, ↓r16_26_w, ↓s16_27_w, onV_some', ne_eq, Nat.reduceEqDiff, Nat.reduceAdd, not_false_eq_true, Addr.add_lit, d2, d4, d10, d11]))
    refine newDom_ret' ok.domains fun dN vF h8 dom8 X8 => ?_
    have n8 := X8.n
    have cb8 := cb7.ext X8 cb7.1
    have tab8 := tab7.ext X8 tab7.1
    have tal8 := tal7.ext X8 tal7.1
    have taf8 := taf7.ext X8 taf7.1
    have ctx8 := ctx7.ext X8 ctx7.1
    have ctl8 := ctl7.ext X8 ctl7.1
    have kb8 := kb7.ext X8 kb7.1
    have XX8 : ExtB h.n h h8 := XX7.trans (X8.mono (by have := XX7.n; omega))
    repeat' (first | done | with_reducible (first | refine y1 ?_ (by omega) | refine y2 ?_ (by omega) | refine y3 (fun _ => ?_) (fun _ => ?_) | refine y4 ?_ (by omega) (by omega) | refine y5 ?_ (by omega) | refine y6 ?_ (by with_unfolding_all rfl) | refine y7 ?_ (by with_unfolding_all rfl) | refine y8 ?_ (by with_unfolding_all rfl) | refine y9 ?_ (by with_unfolding_all rfl) | refine ya ?_ (by with_unfolding_all rfl)) | (simp -dsimp only [↓getK_same, ↓getK_ne, ↓evK_tmp, ↓opsW_d, ↓opsW_n, ↓fldA_some, ↓opW_nilCheck, ↓fa_89_4, ↓st_84, ne_eq, Nat.reduceEqDiff, Nat.reduceAdd, not_false_eq_true, Addr.add_lit]))
    refine st_G (off := 18) (l := [.pointer (some ⟨h7.n + 1, 0, none⟩)]) (cs' := c.cells ++ [.int .u64 0, .pointer (some ⟨h3.n, 0, none⟩), .pointer (some ⟨h5.n, 0, none⟩), .pointer (some ⟨h7.n + 1, 0, none⟩), .pointer none, .pointer none, .pointer none]) kb8 rfl rfl rfl rfl (by decide) fun h9 e9 kb9 f9 => ?_
    have cb9 := cb8.fr kb8 (by decide) (by omega) (fun j _ hj => f9 j hj)
    have tab9 := tab8.fr kb8 (by decide) (by omega) (fun j _ hj => f9 j hj)
    have tal9 := tal8.fr kb8 (by decide) (by omega) (fun j _ hj => f9 j hj)
    have taf9 := taf8.fr kb8 (by decide) (by omega) (fun j _ hj => f9 j hj)
    have ctx9 := ctx8.fr kb8 (by decide) (by omega) (fun j _ hj => f9 j hj)
    have ctl9 := ctl8.fr kb8 (by decide) (by omega) (fun j _ hj => f9 j hj)
    have dom9 : DomO h9 (h7.n + 1) h7.n dN c.gs c.cpu c.period vF := ⟨dom8.d.fr kb8 (by decide) (by omega) (fun j _ hj => f9 j hj), dom8.s.fr kb8 (by decide) (by omega) (fun j _ hj => f9 j hj), dom8.one, dom8.few⟩
    have XX9 : ExtB h.n h h9 := XX8.trans ⟨by omega, fun j hj => f9 j (by have := XX2.n; omega)⟩
    have d0 := cb9.cell (off := 0) rfl
    have d1 := cb9.cell (off := 1) rfl
    have d2 := cb9.cell (off := 2) rfl
    have d3 := cb9.cell (off := 3) rfl
    have d4 := cb9.cell (off := 4) rfl
    have d5 := cb9.cell (off := 5) rfl
    have d6 := cb9.cell (off := 6) rfl
    have d7 := cb9.cell (off := 7) rfl
    have d10 := cb9.cell (off := 10) rfl
    have d11 := cb9.cell (off := 11) rfl
    repeat' (first | done | with_reducible (first | refine y1 ?_ (by omega) | refine y2 ?_ (by omega) | refine y3 (fun _ => ?_) (fun _ => ?_) | refine y4 ?_ (by omega) (by omega) | refine y5 ?_ (by omega) | refine y6 ?_ (by with_unfolding_all rfl) | refine y7 ?_ (by with_unfolding_all rfl) | refine y8 ?_ (by with_unfolding_all rfl) | refine y9 ?_ (by with_unfolding_all rfl) | refine ya ?_ (by with_unfolding_all rfl)) | (simp -dsimp only [↓seqK_normal, ↓opsW_nil, Nat.reduceAdd, Addr.add_lit]))
    repeat' (first | done | with_reducible (first | refine y1 ?_ (by omega) | refine y2 ?_ (by omega) | refine y3 (fun _ => ?_) (fun _ => ?_) | refine y4 ?_ (by omega) (by omega) | refine y5 ?_ (by omega) | refine y6 ?_ (by with_unfolding_all rfl) | refine y7 ?_ (by with_unfolding_all rfl) | refine y8 ?_ (by with_unfolding_all rfl) | refine y9 ?_ (by with_unfolding_all rfl) | refine ya ?_ (by with_unfolding_all rfl)) | (simp -dsimp only [↓cw_ops, ↓cw_seq, ↓getK_same, ↓getK_ne, ↓evK_tmp, ↓opsW_d, ↓opW_move, ↓ld1_some, ↓fldA_some, ↓evs_nil, ↓evs_cons, ↓opW_call, ↓ld_3, ↓fa_25_2, ↓fa_25_6, ↓fa_25_5, ↓r16_24_w, ↓s16_25_w, onV_some', ne_eq, Nat.reduceEqDiff, Nat.reduceAdd, not_false_eq_true, Addr.add_lit, d2, d5, d6]))
    refine newSpc_ret ?_
    have X10 : ExtB h9.n h9 (newBlk h9 (.cells [.int .i64 c.gs, .int .i64 c.slots, .int .i64 c.nodes, .slice none 0 0, .int .i64 0] 148 true)) := ExtB.new _ (Nat.le_refl _)
    have spc10 := G.new h9 [.int .i64 c.gs, .int .i64 c.slots, .int .i64 c.nodes, .slice none 0 0, .int .i64 0] 148 true
    have cb10 := cb9.ext X10 cb9.1
    have tab10 := tab9.ext X10 tab9.1
    have tal10 := tal9.ext X10 tal9.1
    have taf10 := taf9.ext X10 taf9.1
    have ctx10 := ctx9.ext X10 ctx9.1
    have ctl10 := ctl9.ext X10 ctl9.1
    have dom10 := dom9.ext X10 dom9.d.1 dom9.s.1
    have kb10 := kb9.ext X10 kb9.1
    generalize newBlk h9 (.cells [.int .i64 c.gs, .int .i64 c.slots, .int .i64 c.nodes, .slice none 0 0, .int .i64 0] 148 true) = h10 at X10 spc10 cb10 tab10 tal10 taf10 ctx10 ctl10 dom10 kb10 ⊢
    have n10 := X10.n
    have XX10 : ExtB h.n h h10 := XX9.trans (X10.mono (by have := XX9.n; omega))
    repeat' (first | done | with_reducible (first | refine y1 ?_ (by omega) | refine y2 ?_ (by omega) | refine y3 (fun _ => ?_) (fun _ => ?_) | refine y4 ?_ (by omega) (by omega) | refine y5 ?_ (by omega) | refine y6 ?_ (by with_unfolding_all rfl) | refine y7 ?_ (by with_unfolding_all rfl) | refine y8 ?_ (by with_unfolding_all rfl) | refine y9 ?_ (by with_unfolding_all rfl) | refine ya ?_ (by with_unfolding_all rfl)) | (simp -dsimp only [↓getK_same, ↓getK_ne, ↓evK_tmp, ↓opsW_d, ↓opsW_n, ↓fldA_some, ↓opW_nilCheck, ↓fa_89_5, ↓st_85, ne_eq, Nat.reduceEqDiff, Nat.reduceAdd, not_false_eq_true, Addr.add_lit]))
    refine st_G (off := 19) (l := [.pointer (some ⟨h9.n, 0, none⟩)]) (cs' := c.cells ++ [.int .u64 0, .pointer (some ⟨h3.n, 0, none⟩), .pointer (some ⟨h5.n, 0, none⟩), .pointer (some ⟨h7.n + 1, 0, none⟩), .pointer (some ⟨h9.n, 0, none⟩), .pointer none, .pointer none]) kb10 rfl rfl rfl rfl (by decide) fun h11 e11 kb11 f11 => ?_
    have cb11 := cb10.fr kb10 (by decide) (by omega) (fun j _ hj => f11 j hj)
    have tab11 := tab10.fr kb10 (by decide) (by omega) (fun j _ hj => f11 j hj)
    have tal11 := tal10.fr kb10 (by decide) (by omega) (fun j _ hj => f11 j hj)
    have taf11 := taf10.fr kb10 (by decide) (by omega) (fun j _ hj => f11 j hj)
    have ctx11 := ctx10.fr kb10 (by decide) (by omega) (fun j _ hj => f11 j hj)
    have ctl11 := ctl10.fr kb10 (by decide) (by omega) (fun j _ hj => f11 j hj)
    have dom11 : DomO h11 (h7.n + 1) h7.n dN c.gs c.cpu c.period vF := ⟨dom10.d.fr kb10 (by decide) (by omega) (fun j _ hj => f11 j hj), dom10.s.fr kb10 (by decide) (by omega) (fun j _ hj => f11 j hj), dom10.one, dom10.few⟩
    have spc11 := spc10.fr kb10 (by decide) (by omega) (fun j _ hj => f11 j hj)
    have XX11 : ExtB h.n h h11 := XX10.trans ⟨by omega, fun j hj => f11 j (by have := XX2.n; omega)⟩
    have d0 := cb11.cell (off := 0) rfl
    have d1 := cb11.cell (off := 1) rfl
    have d2 := cb11.cell (off := 2) rfl
    have d3 := cb11.cell (off := 3) rfl
    have d4 := cb11.cell (off := 4) rfl
    have d5 := cb11.cell (off := 5) rfl
    have d6 := cb11.cell (off := 6) rfl
    have d7 := cb11.cell (off := 7) rfl
    have d10 := cb11.cell (off := 10) rfl
    have d11 := cb11.cell (off := 11) rfl
    repeat' (first | done | with_reducible (first | refine y1 ?_ (by omega) | refine y2 ?_ (by omega) | refine y3 (fun _ => ?_) (fun _ => ?_) | refine y4 ?_ (by omega) (by omega) | refine y5 ?_ (by omega) | refine y6 ?_ (by with_unfolding_all rfl) | refine y7 ?_ (by with_unfolding_all rfl) | refine y8 ?_ (by with_unfolding_all rfl) | refine y9 ?_ (by with_unfolding_all rfl) | refine ya ?_ (by with_unfolding_all rfl)) | (simp -dsimp only [↓seqK_normal, ↓opsW_nil, Nat.reduceAdd, Addr.add_lit]))
    repeat' (first | done | with_reducible (first | refine y1 ?_ (by omega) | refine y2 ?_ (by omega) | refine y3 (fun _ => ?_) (fun _ => ?_) | refine y4 ?_ (by omega) (by omega) | refine y5 ?_ (by omega) | refine y6 ?_ (by with_unfolding_all rfl) | refine y7 ?_ (by with_unfolding_all rfl) | refine y8 ?_ (by with_unfolding_all rfl) | refine y9 ?_ (by with_unfolding_all rfl) | refine ya ?_ (by with_unfolding_all rfl)) | (simp -dsimp only [↓cw_ops, ↓cw_seq, ↓getK_same, ↓getK_ne, ↓evK_tmp, ↓opsW_d, ↓opW_move, ↓ld1_some, ↓fldA_some, ↓evs_nil, ↓evs_cons, ↓opW_call, ↓fa_25_0, ↓ld_3, ↓fa_25_1, ↓r16_22_w, ↓s16_23_w, onV_some', ne_eq, Nat.reduceEqDiff, Nat.reduceAdd, not_false_eq_true, Nat.add_zero, Addr.add_lit, d0, d1]))
    refine newPlc_ret' ok.ps fun vL h12 que12 plc12 X12 => ?_
    have n12 := X12.n
    have cb12 := cb11.ext X12 cb11.1
    have tab12 := tab11.ext X12 tab11.1
    have tal12 := tal11.ext X12 tal11.1
    have taf12 := taf11.ext X12 taf11.1
    have ctx12 := ctx11.ext X12 ctx11.1
    have ctl12 := ctl11.ext X12 ctl11.1
    have dom12 := dom11.ext X12 dom11.d.1 dom11.s.1
    have spc12 := spc11.ext X12 spc11.1
    have kb12 := kb11.ext X12 kb11.1
    have XX12 : ExtB h.n h h12 := XX11.trans (X12.mono (by have := XX11.n; omega))
    repeat' (first | done | with_reducible (first | refine y1 ?_ (by omega) | refine y2 ?_ (by omega) | refine y3 (fun _ => ?_) (fun _ => ?_) | refine y4 ?_ (by omega) (by omega) | refine y5 ?_ (by omega) | refine y6 ?_ (by with_unfolding_all rfl) | refine y7 ?_ (by with_unfolding_all rfl) | refine y8 ?_ (by with_unfolding_all rfl) | refine y9 ?_ (by with_unfolding_all rfl) | refine ya ?_ (by with_unfolding_all rfl)) | (simp -dsimp only [↓getK_same, ↓getK_ne, ↓evK_tmp, ↓opsW_d, ↓opsW_n, ↓fldA_some, ↓opW_nilCheck, ↓fa_89_6, ↓st_86, ne_eq, Nat.reduceEqDiff, Nat.reduceAdd, not_false_eq_true, Addr.add_lit]))
    refine st_G (off := 20) (l := [.pointer (some ⟨h11.n + 1, 0, none⟩)]) (cs' := c.cells ++ [.int .u64 0, .pointer (some ⟨h3.n, 0, none⟩), .pointer (some ⟨h5.n, 0, none⟩), .pointer (some ⟨h7.n + 1, 0, none⟩), .pointer (some ⟨h9.n, 0, none⟩), .pointer (some ⟨h11.n + 1, 0, none⟩), .pointer none]) kb12 rfl rfl rfl rfl (by decide) fun h13 e13 kb13 f13 => ?_
    have cb13 := cb12.fr kb12 (by decide) (by omega) (fun j _ hj => f13 j hj)
    have tab13 := tab12.fr kb12 (by decide) (by omega) (fun j _ hj => f13 j hj)
    have tal13 := tal12.fr kb12 (by decide) (by omega) (fun j _ hj => f13 j hj)
    have taf13 := taf12.fr kb12 (by decide) (by omega) (fun j _ hj => f13 j hj)
    have ctx13 := ctx12.fr kb12 (by decide) (by omega) (fun j _ hj => f13 j hj)
    have ctl13 := ctl12.fr kb12 (by decide) (by omega) (fun j _ hj => f13 j hj)
    have dom13 : DomO h13 (h7.n + 1) h7.n dN c.gs c.cpu c.period vF := ⟨dom12.d.fr kb12 (by decide) (by omega) (fun j _ hj => f13 j hj), dom12.s.fr kb12 (by decide) (by omega) (fun j _ hj => f13 j hj), dom12.one, dom12.few⟩
    have spc13 := spc12.fr kb12 (by decide) (by omega) (fun j _ hj => f13 j hj)
    have que13 := que12.fr kb12 (by decide) (by omega) (fun j _ hj => f13 j hj)
    have plc13 := plc12.fr kb12 (by decide) (by omega) (fun j _ hj => f13 j hj)
    have XX13 : ExtB h.n h h13 := XX12.trans ⟨by omega, fun j hj => f13 j (by have := XX2.n; omega)⟩
    have d0 := cb13.cell (off := 0) rfl
    have d1 := cb13.cell (off := 1) rfl
    have d2 := cb13.cell (off := 2) rfl
    have d3 := cb13.cell (off := 3) rfl
    have d4 := cb13.cell (off := 4) rfl
    have d5 := cb13.cell (off := 5) rfl
    have d6 := cb13.cell (off := 6) rfl
    have d7 := cb13.cell (off := 7) rfl
    have d10 := cb13.cell (off := 10) rfl
    have d11 := cb13.cell (off := 11) rfl
    repeat' (first | done | with_reducible (first | refine y1 ?_ (by omega) | refine y2 ?_ (by omega) | refine y3 (fun _ => ?_) (fun _ => ?_) | refine y4 ?_ (by omega) (by omega) | refine y5 ?_ (by omega) | refine y6 ?_ (by with_unfolding_all rfl) | refine y7 ?_ (by with_unfolding_all rfl) | refine y8 ?_ (by with_unfolding_all rfl) | refine y9 ?_ (by with_unfolding_all rfl) | refine ya ?_ (by with_unfolding_all rfl)) | (simp -dsimp only [↓seqK_normal, ↓opsW_nil, Nat.reduceAdd, Nat.add_zero, Addr.add_lit]))
    repeat' (first | done | with_reducible (first | refine y1 ?_ (by omega) | refine y2 ?_ (by omega) | refine y3 (fun _ => ?_) (fun _ => ?_) | refine y4 ?_ (by omega) (by omega) | refine y5 ?_ (by omega) | refine y6 ?_ (by with_unfolding_all rfl) | refine y7 ?_ (by with_unfolding_all rfl) | refine y8 ?_ (by with_unfolding_all rfl) | refine y9 ?_ (by with_unfolding_all rfl) | refine ya ?_ (by with_unfolding_all rfl)) | (simp -dsimp only [↓cw_ops, ↓cw_seq, ↓getK_same, ↓getK_ne, ↓evK_tmp, ↓opsW_d, ↓opsW_n, ↓opW_move, ↓fldA_some, ↓opW_box, ↓box_agg, ↓evp_nil, ↓opW_nilCheck, ↓bd_96, ↓fa_89_7, ↓st_87, ↓r16_20_w, ↓s16_21_w, ne_eq, Nat.reduceEqDiff, Nat.reduceAdd, not_false_eq_true, Addr.add_lit]))
    have X14 : ExtB h13.n h13 (newBlk h13 (.cells [.slice none 0 0] 96 true)) := ExtB.new _ (Nat.le_refl _)
    have cb14 := cb13.ext X14 cb13.1
    have tab14 := tab13.ext X14 tab13.1
    have tal14 := tal13.ext X14 tal13.1
    have taf14 := taf13.ext X14 taf13.1
    have ctx14 := ctx13.ext X14 ctx13.1
    have ctl14 := ctl13.ext X14 ctl13.1
    have dom14 := dom13.ext X14 dom13.d.1 dom13.s.1
    have spc14 := spc13.ext X14 spc13.1
    have que14 := que13.ext X14 que13.1
    have plc14 := plc13.ext X14 plc13.1
    have kb14 := kb13.ext X14 kb13.1
    generalize newBlk h13 (.cells [.slice none 0 0] 96 true) = h14 at X14 cb14 tab14 tal14 taf14 ctx14 ctl14 dom14 spc14 que14 plc14 kb14 ⊢
    have n14 := X14.n
    have XX14 : ExtB h.n h h14 := XX13.trans (X14.mono (by have := XX13.n; omega))
    refine st_G (off := 21) (l := [.pointer (some ⟨h13.n, 0, none⟩)]) (cs' := c.cells ++ [.int .u64 0, .pointer (some ⟨h3.n, 0, none⟩), .pointer (some ⟨h5.n, 0, none⟩), .pointer (some ⟨h7.n + 1, 0, none⟩), .pointer (some ⟨h9.n, 0, none⟩), .pointer (some ⟨h11.n + 1, 0, none⟩), .pointer (some ⟨h13.n, 0, none⟩)]) kb14 rfl rfl rfl rfl (by decide) fun h15 e15 kb15 f15 => ?_
    have cb15 := cb14.fr kb14 (by decide) (by omega) (fun j _ hj => f15 j hj)
    have tab15 := tab14.fr kb14 (by decide) (by omega) (fun j _ hj => f15 j hj)
    have tal15 := tal14.fr kb14 (by decide) (by omega) (fun j _ hj => f15 j hj)
    have taf15 := taf14.fr kb14 (by decide) (by omega) (fun j _ hj => f15 j hj)
    have ctx15 := ctx14.fr kb14 (by decide) (by omega) (fun j _ hj => f15 j hj)
    have ctl15 := ctl14.fr kb14 (by decide) (by omega) (fun j _ hj => f15 j hj)
    have dom15 : DomO h15 (h7.n + 1) h7.n dN c.gs c.cpu c.period vF := ⟨dom14.d.fr kb14 (by decide) (by omega) (fun j _ hj => f15 j hj), dom14.s.fr kb14 (by decide) (by omega) (fun j _ hj => f15 j hj), dom14.one, dom14.few⟩
    have spc15 := spc14.fr kb14 (by decide) (by omega) (fun j _ hj => f15 j hj)
    have que15 := que14.fr kb14 (by decide) (by omega) (fun j _ hj => f15 j hj)
    have plc15 := plc14.fr kb14 (by decide) (by omega) (fun j _ hj => f15 j hj)
    have XX15 : ExtB h.n h h15 := XX14.trans ⟨by omega, fun j hj => f15 j (by have := XX2.n; omega)⟩
    repeat' (first | done | with_reducible (first | refine y1 ?_ (by omega) | refine y2 ?_ (by omega) | refine y3 (fun _ => ?_) (fun _ => ?_) | refine y4 ?_ (by omega) (by omega) | refine y5 ?_ (by omega) | refine y6 ?_ (by with_unfolding_all rfl) | refine y7 ?_ (by with_unfolding_all rfl) | refine y8 ?_ (by with_unfolding_all rfl) | refine y9 ?_ (by with_unfolding_all rfl) | refine ya ?_ (by with_unfolding_all rfl)) | (simp -dsimp only [↓cw_ops, ↓cw_seq, ↓seqK_normal, ↓getK_same, ↓getK_ne, ↓evK_tmp, ↓evK_int, ↓opsW_nil, ↓opsW_d, ↓opsW_n, ↓evp_nil, ↓evp_cons, ↓bd_59, ↓al_59, ↓st_59, ↓r16_18_w, ↓s16_19_w, ne_eq, Nat.reduceEqDiff, Nat.reduceAdd, not_false_eq_true, Addr.add_lit]))
    have X16 : ExtB h15.n h15 (newBlk h15 (.cells [.int .i64 0, .int .u64 1] 59 true)) := ExtB.new _ (Nat.le_refl _)
    have rb16 := G.new h15 [.int .i64 0, .int .u64 1] 59 true
    have cb16 := cb15.ext X16 cb15.1
    have tab16 := tab15.ext X16 tab15.1
    have tal16 := tal15.ext X16 tal15.1
    have taf16 := taf15.ext X16 taf15.1
    have ctx16 := ctx15.ext X16 ctx15.1
    have ctl16 := ctl15.ext X16 ctl15.1
    have dom16 := dom15.ext X16 dom15.d.1 dom15.s.1
    have spc16 := spc15.ext X16 spc15.1
    have que16 := que15.ext X16 que15.1
    have plc16 := plc15.ext X16 plc15.1
    have kb16 := kb15.ext X16 kb15.1
    generalize newBlk h15 (.cells [.int .i64 0, .int .u64 1] 59 true) = h16 at X16 rb16 cb16 tab16 tal16 taf16 ctx16 ctl16 dom16 spc16 que16 plc16 kb16 ⊢
    have n16 := X16.n
    have XX16 : ExtB h.n h h16 := XX15.trans (X16.mono (by have := XX15.n; omega))
    have hn2' := XX2.n
    refine phaseB (cb := h.n) (kb := h2.n) (rb := h15.n) (tb := h3.n) (tl := tl) (tf := tf) (xb := h5.n) (xl := xl) (db := h7.n + 1) (ds := h7.n) (pb := h11.n + 1) (qb := h11.n) (sb := h9.n) ok ⟨cb16, kb16, rb16, tab16, tal16, taf16, ctx16, ctl16, dom16, plc16, que16, spc16, hg, hx⟩ h.n (fun j hj => by omega) XX16.n (by simp [T.get_set]) (by simp [T.get_set]) (by simp [T.get_set]) fun v h17 X17 => hK v 0 h17 (fun _ => ok) (XX16.trans X17)
  · repeat' (first | done | with_reducible (first | refine y1 ?_ (by omega) | refine y2 ?_ (by omega) | refine y3 (fun _ => ?_) (fun _ => ?_) | refine y4 ?_ (by omega) (by omega) | refine y5 ?_ (by omega) | refine y6 ?_ (by with_unfolding_all rfl) | refine y7 ?_ (by with_unfolding_all rfl) | refine y8 ?_ (by with_unfolding_all rfl) | refine y9 ?_ (by with_unfolding_all rfl) | refine ya ?_ (by with_unfolding_all rfl)) | (simp -dsimp only [↓cw_ops, ↓cw_seq, ↓cw_ret, ↓cw_cond, ↓seqK_normal, ↓seqK_ret, ↓getK_same, ↓getK_ne, ↓evK_tmp, ↓evK_int, ↓evK_nilptr, ↓condV_var, ↓opsW_nil, ↓opsW_d, ↓opW_move, ↓opW_assign, ↓opW_bin, ↓bin_neq, ↓resK_two, ↓r16_34_w, ↓s16_35_w, ↓s16_36_w, ↓r16_37_w, ↓s16_38_w, brK_true, ne_eq, Nat.reduceEqDiff, not_false_eq_true]))
    exact hK _ e h2 he XX2
end
end Go.Proofs.Ytdjnedamphifcaa

