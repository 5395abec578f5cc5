/- THE LAW ScriptCopies, walked. Conditions: what came in can be read. -/
import Derived.Test.YtohjaacnlmkhbaaGreatDoorWI
set_option linter.unusedSimpArgs false
set_option linter.unusedVariables false
namespace Go.Proofs.YtohjaacnlmkhbaaGreatDoor
open Go.Ev
set_option maxRecDepth 100000
set_option maxHeartbeats 400000
theorem isBool4 : isBoolT env 4 = true := by kernel_rfl
/-- what is there while the law looks: the two that came in, the own one, its copy -/
structure LS (B B2 N i1 i2 i3 i4 : Nat) (c d : Nat → Int) (pv av qv dv pm am px ax : Value) (P Q : List (List UInt8)) (A D : List ActD) (h : Heap) : Prop where
  V : Box h i1 (scrL c pv av) 28
  W : Box h i2 (scrL d qv dv) 28
  M : Box h i3 (scrL c pm am) 28
  Z : Box h i4 (scrL c px ax) 28
  r : RdP B h pv P
  s : RdP B h qv Q
  ra : RdA B h av A
  rd : RdA B h dv D
  rm : RdP B2 h pm P
  ram : RdA B2 h am A
  rx : RdP N h px P
  rax : RdA N h ax A
  mp : MutP B2 h px (P.map List.length)
  mx : MutR B2 h 35 .i64 ax A.length (A.length * 4)
  b1 : B ≤ B2
  b2 : B2 ≤ N
  nn : N ≤ h.n
  t : tabsOk tabs h = true
theorem LS.ext {B B2 N i1 i2 i3 i4 : Nat} {c d : Nat → Int} {pv av qv dv pm am px ax : Value} {P Q : List (List UInt8)} {A D : List ActD} {h h' : Heap} (l : LS B B2 N i1 i2 i3 i4 c d pv av qv dv pm am px ax P Q A D h) (x : ExtB h.n h h') (h2 : 2 < N) :
    LS B B2 N i1 i2 i3 i4 c d pv av qv dv pm am px ax P Q A D h' := by
  have a1 := l.b1
  have a2 := l.b2
  have a3 := l.nn
  exact ⟨l.V.ext x l.V.lt, l.W.ext x l.W.lt, l.M.ext x l.M.lt, l.Z.ext x l.Z.lt, l.r.ext (x.mono (by omega)), l.s.ext (x.mono (by omega)), l.ra.ext (x.mono (by omega)), l.rd.ext (x.mono (by omega)), l.rm.ext (x.mono (by omega)), l.ram.ext (x.mono (by omega)), l.rx.ext (x.mono (by omega)), l.rax.ext (x.mono (by omega)),
    mutP_ext l.mp x (Nat.le_refl _), mutR_ext l.mx x (Nat.le_refl _), l.b1, l.b2, Nat.le_trans l.nn x.n, tabs_ext (by omega) x l.t⟩
theorem law_ret {B : Nat} {c d : Nat → Int} {pv qv av dv : Value} {P Q : List (List UInt8)} {A D : List ActD} {h : Heap} (r : RdP B h pv P) (s : RdP B h qv Q) (ra : RdA B h av A) (rd : RdA B h dv D) (hB : B ≤ h.n) (h2 : 2 < h.n) (ht : tabsOk tabs h = true)
    (hsp : ∀ n, sameV n pv pv = true) (hsq : ∀ n, sameV n qv qv = true) (hsa : ∀ n, sameV n av av = true) (hsd : ∀ n, sameV n dv dv = true)
    (hs : P.length ≤ 281474976710656 ∧ ∀ l ∈ P, l.length ≤ 281474976710656) (hs' : Q.length ≤ 281474976710656 ∧ ∀ l ∈ Q, l.length ≤ 281474976710656) (hA : A.length ≤ 281474976710656) (hD : D.length ≤ 281474976710656) :
    Ret env (.func 3) [.agg ⟨scrL c pv av⟩, .agg ⟨scrL d qv dv⟩] h fun v _ => v = .bool true := by
  obtain ⟨pa, pc, rfl, _⟩ := id r
  obtain ⟨qa, qc, rfl, _⟩ := id s
  obtain ⟨aa, ac, rfl, _⟩ := id ra
  obtain ⟨da, dc, rfl, _⟩ := id rd
  refine F3 rfl ?_
  repeat' (first | done | with_reducible (first | refine y1 ?_ (by omega) | refine y2 ?_ (by omega) | refine y3 (fun _ => ?_) (fun _ => ?_) | refine y4 ?_ (by omega) (by omega) | refine y5 ?_ (by omega) | refine y6 ?_ (by with_unfolding_all rfl) | refine y7 ?_ (by with_unfolding_all rfl) | refine y8 ?_ (by with_unfolding_all rfl) | refine y9 ?_ (by with_unfolding_all rfl) | refine ya ?_ (by with_unfolding_all rfl)) | ((with_reducible refine And.intro ?_ ?_); (· omega)) | (simp -dsimp only [↓cw_ops, ↓cw_seq, ↓seqK_normal, ↓getK_same, ↓getK_ne, ↓evK_tmp, ↓evK_bool, ↓opsW_nil, ↓opsW_d, ↓opW_assign, ↓ldN_some, ↓setAll_cons, ↓setAll_nil, ↓opW_box, ↓box_agg, ↓ld_28, ↓r3_54_w, ↓s3_55_w, ↓s3_56_w, ↓r3_57_w, ↓s3_58_w, true_and, ne_eq, Nat.reduceEqDiff, Nat.reduceAdd, not_false_eq_true, Nat.one_ne_zero, scr_one]))
  have V := Box.new h (scrL c (.slice pa P.length pc) (.slice aa A.length ac)) 28
  have X : ExtB h.n h (newBlk h (.cells (scrL c (.slice pa P.length pc) (.slice aa A.length ac)) 28 true)) := ExtB.new _ (Nat.le_refl _)
  have hn1 : (newBlk h (.cells (scrL c (.slice pa P.length pc) (.slice aa A.length ac)) 28 true)).n = h.n + 1 := rfl
  generalize newBlk h (.cells (scrL c (.slice pa P.length pc) (.slice aa A.length ac)) 28 true) = h1 at V X hn1 ⊢
  have W := Box.new h1 (scrL d (.slice qa Q.length qc) (.slice da D.length dc)) 28
  have X1 : ExtB h1.n h1 (newBlk h1 (.cells (scrL d (.slice qa Q.length qc) (.slice da D.length dc)) 28 true)) := ExtB.new _ (Nat.le_refl _)
  have hn2 : (newBlk h1 (.cells (scrL d (.slice qa Q.length qc) (.slice da D.length dc)) 28 true)).n = h.n + 2 := by show h1.n + 1 = _; omega
  rw [hn1] at W ⊢
  replace V := V.ext X1 (by omega)
  replace X := X.trans (X1.mono (by omega))
  generalize newBlk h1 (.cells (scrL d (.slice qa Q.length qc) (.slice da D.length dc)) 28 true) = h2' at V W X hn2 ⊢
  clear X1 hn1
  have dv := V.scr
  have dw := W.scr
  repeat' (first | done | with_reducible (first | refine y1 ?_ (by omega) | refine y2 ?_ (by omega) | refine y3 (fun _ => ?_) (fun _ => ?_) | refine y4 ?_ (by omega) (by omega) | refine y5 ?_ (by omega) | refine y6 ?_ (by with_unfolding_all rfl) | refine y7 ?_ (by with_unfolding_all rfl) | refine y8 ?_ (by with_unfolding_all rfl) | refine y9 ?_ (by with_unfolding_all rfl) | refine ya ?_ (by with_unfolding_all rfl)) | ((with_reducible refine And.intro ?_ ?_); (· omega)) | (simp -dsimp only [↓getK_same, ↓evK_tmp, ↓opsW_d, ↓evs_nil, ↓evs_cons, ↓callE, onV_some', dv]))
  refine much_ret (r.ext (X.mono hB)) (ra.ext (X.mono hB)) (by omega) hs hA fun b1 h3 X3 hb1 => ?_
  have n3 := X3.n
  replace V := V.ext X3 (by omega)
  replace W := W.ext X3 (by omega)
  replace X := X.trans (X3.mono (by omega))
  clear X3 dv dw
  have dv := V.scr
  have dw := W.scr
  cases b1 with
  | true =>
    repeat' (first | done | with_reducible (first | refine y1 ?_ (by omega) | refine y2 ?_ (by omega) | refine y3 (fun _ => ?_) (fun _ => ?_) | refine y4 ?_ (by omega) (by omega) | refine y5 ?_ (by omega) | refine y6 ?_ (by with_unfolding_all rfl) | refine y7 ?_ (by with_unfolding_all rfl) | refine y8 ?_ (by with_unfolding_all rfl) | refine y9 ?_ (by with_unfolding_all rfl) | refine ya ?_ (by with_unfolding_all rfl)) | ((with_reducible refine And.intro ?_ ?_); (· omega)) | (simp -dsimp only [↓cw_ops, ↓cw_seq, ↓cw_cond, ↓seqK_normal, ↓getK_same, ↓getK_ne, ↓evK_tmp, ↓evK_bool, ↓condV_var, ↓gdV_var, ↓opsW_nil, ↓opsW_d, ↓opsW_gd, ↓opW_move, ↓opW_pick, ↓evs_nil, ↓callE, ↓r3_51_w, ↓s3_52_w, ↓s3_53_w, brK_true, brK_false, ne_eq, Nat.reduceEqDiff, not_false_eq_true, Bool.true_eq_false]))
    refine known_ret (tabs_ext h2 X ht) ?_
    repeat' (first | done | with_reducible (first | refine y1 ?_ (by omega) | refine y2 ?_ (by omega) | refine y3 (fun _ => ?_) (fun _ => ?_) | refine y4 ?_ (by omega) (by omega) | refine y5 ?_ (by omega) | refine y6 ?_ (by with_unfolding_all rfl) | refine y7 ?_ (by with_unfolding_all rfl) | refine y8 ?_ (by with_unfolding_all rfl) | refine y9 ?_ (by with_unfolding_all rfl) | refine ya ?_ (by with_unfolding_all rfl)) | ((with_reducible refine And.intro ?_ ?_); (· omega)) | (simp -dsimp only [↓cw_ret, ↓seqK_normal, ↓seqK_ret, ↓getK_same, ↓evK_tmp, ↓opsW_nil, ↓opsW_d, ↓opW_assign, ↓resK_one]))
  | false =>
  have hb1 := hb1 rfl
  repeat' (first | done | with_reducible (first | refine y1 ?_ (by omega) | refine y2 ?_ (by omega) | refine y3 (fun _ => ?_) (fun _ => ?_) | refine y4 ?_ (by omega) (by omega) | refine y5 ?_ (by omega) | refine y6 ?_ (by with_unfolding_all rfl) | refine y7 ?_ (by with_unfolding_all rfl) | refine y8 ?_ (by with_unfolding_all rfl) | refine y9 ?_ (by with_unfolding_all rfl) | refine ya ?_ (by with_unfolding_all rfl)) | ((with_reducible refine And.intro ?_ ?_); (· omega)) | (simp -dsimp only [↓getK_same, ↓getK_ne, ↓evK_tmp, ↓gdV_var, ↓opsW_d, ↓opsW_gd, ↓opW_move, ↓ldN_some, ↓evs_nil, ↓evs_cons, ↓callE, ↓ld_28, onV_some', brK_true, ne_eq, Nat.reduceEqDiff, not_false_eq_true, dw]))
  refine much_ret (s.ext (X.mono hB)) (rd.ext (X.mono hB)) (by omega) hs' hD fun b2 h4 X4 hb2 => ?_
  have n4 := X4.n
  replace V := V.ext X4 (by omega)
  replace W := W.ext X4 (by omega)
  replace X := X.trans (X4.mono (by omega))
  clear X4 dv dw
  have dv := V.scr
  have dw := W.scr
  cases b2 with
  | true =>
    repeat' (first | done | with_reducible (first | refine y1 ?_ (by omega) | refine y2 ?_ (by omega) | refine y3 (fun _ => ?_) (fun _ => ?_) | refine y4 ?_ (by omega) (by omega) | refine y5 ?_ (by omega) | refine y6 ?_ (by with_unfolding_all rfl) | refine y7 ?_ (by with_unfolding_all rfl) | refine y8 ?_ (by with_unfolding_all rfl) | refine y9 ?_ (by with_unfolding_all rfl) | refine ya ?_ (by with_unfolding_all rfl)) | ((with_reducible refine And.intro ?_ ?_); (· omega)) | (simp -dsimp only [↓cw_ops, ↓cw_seq, ↓cw_cond, ↓seqK_normal, ↓getK_same, ↓getK_ne, ↓evK_tmp, ↓condV_var, ↓opsW_nil, ↓opsW_d, ↓opW_pick, ↓evs_nil, ↓callE, ↓r3_51_w, ↓s3_52_w, ↓s3_53_w, brK_true, brK_false, ne_eq, Nat.reduceEqDiff, not_false_eq_true, Bool.false_eq_true]))
    refine known_ret (tabs_ext h2 X ht) ?_
    repeat' (first | done | with_reducible (first | refine y1 ?_ (by omega) | refine y2 ?_ (by omega) | refine y3 (fun _ => ?_) (fun _ => ?_) | refine y4 ?_ (by omega) (by omega) | refine y5 ?_ (by omega) | refine y6 ?_ (by with_unfolding_all rfl) | refine y7 ?_ (by with_unfolding_all rfl) | refine y8 ?_ (by with_unfolding_all rfl) | refine y9 ?_ (by with_unfolding_all rfl) | refine ya ?_ (by with_unfolding_all rfl)) | ((with_reducible refine And.intro ?_ ?_); (· omega)) | (simp -dsimp only [↓cw_ret, ↓seqK_normal, ↓seqK_ret, ↓getK_same, ↓evK_tmp, ↓opsW_nil, ↓opsW_d, ↓opW_assign, ↓resK_one]))
  | false =>
  have hb2 := hb2 rfl
  repeat' (first | done | with_reducible (first | refine y1 ?_ (by omega) | refine y2 ?_ (by omega) | refine y3 (fun _ => ?_) (fun _ => ?_) | refine y4 ?_ (by omega) (by omega) | refine y5 ?_ (by omega) | refine y6 ?_ (by with_unfolding_all rfl) | refine y7 ?_ (by with_unfolding_all rfl) | refine y8 ?_ (by with_unfolding_all rfl) | refine y9 ?_ (by with_unfolding_all rfl) | refine ya ?_ (by with_unfolding_all rfl)) | ((with_reducible refine And.intro ?_ ?_); (· omega)) | (simp -dsimp only [↓cw_skip, ↓cw_ops, ↓cw_seq, ↓cw_cond, ↓seqK_normal, ↓getK_same, ↓getK_ne, ↓evK_tmp, ↓condV_var, ↓opsW_nil, ↓opsW_d, ↓opW_pick, ↓ldN_some, ↓evs_nil, ↓evs_cons, ↓callE, ↓ld_28, ↓r3_49_w, ↓s3_50_w, ↓s3_53_w, onV_some', brK_false, ne_eq, Nat.reduceEqDiff, not_false_eq_true, Bool.false_eq_true,  dv]))
  refine own_ret (r.ext (X.mono hB)) (ra.ext (X.mono hB)) (by omega) hb1.1 hb1.2 fun pm am h5 X5 Om om => ?_
  have n5 := X5.n
  replace V := V.ext X5 (by omega)
  replace W := W.ext X5 (by omega)
  replace X := X.trans (X5.mono (by omega))
  have rm := Om.rd
  have ram := RdA.own om
  have sm : ∀ n, sameV n pm pm = true := fun n => Om.same
  have sm' : ∀ n, sameV n am am = true := fun n => same_own om
  obtain ⟨ma, mc, rfl⟩ := Om.val
  obtain ⟨na, nc, rfl⟩ := ownS_val om
  clear X5 dv dw Om om
  repeat' (first | done | with_reducible (first | refine y1 ?_ (by omega) | refine y2 ?_ (by omega) | refine y3 (fun _ => ?_) (fun _ => ?_) | refine y4 ?_ (by omega) (by omega) | refine y5 ?_ (by omega) | refine y6 ?_ (by with_unfolding_all rfl) | refine y7 ?_ (by with_unfolding_all rfl) | refine y8 ?_ (by with_unfolding_all rfl) | refine y9 ?_ (by with_unfolding_all rfl) | refine ya ?_ (by with_unfolding_all rfl)) | ((with_reducible refine And.intro ?_ ?_); (· omega)) | (simp -dsimp only [↓cw_ops, ↓cw_seq, ↓seqK_normal, ↓getK_same, ↓getK_ne, ↓evK_tmp, ↓opsW_nil, ↓opsW_d, ↓opsW_n, ↓ldN_some, ↓ld_28, ↓al_28, ↓st_28, ↓r3_47_w, ↓s3_48_w, ne_eq, Nat.reduceEqDiff, not_false_eq_true]))
  have M := Box.new h5 (scrL c (.slice ma P.length mc) (.slice na A.length nc)) 28
  have X6 : ExtB h5.n h5 (newBlk h5 (.cells (scrL c (.slice ma P.length mc) (.slice na A.length nc)) 28 true)) := ExtB.new _ (Nat.le_refl _)
  have n6 : (newBlk h5 (.cells (scrL c (.slice ma P.length mc) (.slice na A.length nc)) 28 true)).n = h5.n + 1 := rfl
  generalize newBlk h5 (.cells (scrL c (.slice ma P.length mc) (.slice na A.length nc)) 28 true) = h6 at M X6 n6 ⊢
  replace V := V.ext X6 (by omega)
  replace W := W.ext X6 (by omega)
  replace X := X.trans (X6.mono (by omega))
  replace rm := (rm.ext X6).mono (B' := h6.n) (by omega)
  replace ram := (ram.ext X6).mono (B' := h6.n) (by omega)
  clear X6
  have dm := M.scr
  repeat' (first | done | with_reducible (first | refine y1 ?_ (by omega) | refine y2 ?_ (by omega) | refine y3 (fun _ => ?_) (fun _ => ?_) | refine y4 ?_ (by omega) (by omega) | refine y5 ?_ (by omega) | refine y6 ?_ (by with_unfolding_all rfl) | refine y7 ?_ (by with_unfolding_all rfl) | refine y8 ?_ (by with_unfolding_all rfl) | refine y9 ?_ (by with_unfolding_all rfl) | refine ya ?_ (by with_unfolding_all rfl)) | ((with_reducible refine And.intro ?_ ?_); (· omega)) | (simp -dsimp only [↓getK_same, ↓evK_tmp, ↓opsW_d, ↓evs_nil, ↓evs_cons, ↓callE, onV_some', dm]))
  refine copyS_ret rm ram sm' (Nat.le_refl _) hb1.1 hb1.2 fun px ax h7 X7 Ox ox => ?_
  have n7 := X7.n
  have rx := Ox.rd
  have rax := RdA.own ox
  have sx : ∀ n, sameV n px px = true := fun n => Ox.same
  have sx' : ∀ n, sameV n ax ax = true := fun n => same_own ox
  have mp := Ox.mut
  have mx := mutA_of ox
  obtain ⟨xa, xc, rfl⟩ := Ox.val
  obtain ⟨ya, yc, rfl⟩ := ownS_val ox
  replace V := V.ext X7 (by omega)
  replace W := W.ext X7 (by omega)
  replace M := M.ext X7 (by omega)
  replace X := X.trans (X7.mono (by omega))
  replace rm := rm.ext X7
  replace ram := ram.ext X7
  clear X7 dm Ox ox
  repeat' (first | done | with_reducible (first | refine y1 ?_ (by omega) | refine y2 ?_ (by omega) | refine y3 (fun _ => ?_) (fun _ => ?_) | refine y4 ?_ (by omega) (by omega) | refine y5 ?_ (by omega) | refine y6 ?_ (by with_unfolding_all rfl) | refine y7 ?_ (by with_unfolding_all rfl) | refine y8 ?_ (by with_unfolding_all rfl) | refine y9 ?_ (by with_unfolding_all rfl) | refine ya ?_ (by with_unfolding_all rfl)) | ((with_reducible refine And.intro ?_ ?_); (· omega)) | (simp -dsimp only [↓cw_plan, ↓cw_seq, ↓seqK_normal, ↓getK_same, ↓getK_ne, ↓evK_tmp, ↓opsW_nil, ↓opsW_d, ↓opsW_n, ↓planW_d, ↓ldN_some, ↓ld_28, ↓al_28, ↓st_28, ↓p3_44_w, ↓s3_45_w, ↓s3_46_w, ne_eq, Nat.reduceEqDiff, not_false_eq_true]))
  have Z := Box.new h7 (scrL c (.slice xa P.length xc) (.slice ya A.length yc)) 28
  have X8 : ExtB h7.n h7 (newBlk h7 (.cells (scrL c (.slice xa P.length xc) (.slice ya A.length yc)) 28 true)) := ExtB.new _ (Nat.le_refl _)
  have n8 : (newBlk h7 (.cells (scrL c (.slice xa P.length xc) (.slice ya A.length yc)) 28 true)).n = h7.n + 1 := rfl
  generalize newBlk h7 (.cells (scrL c (.slice xa P.length xc) (.slice ya A.length yc)) 28 true) = h8 at Z X8 n8 ⊢
  have XX : ExtB h.n h h8 := X.trans (X8.mono (by omega))
  have L8 : LS B h6.n h7.n h.n (h.n + 1) h5.n h7.n c d (.slice pa P.length pc) (.slice aa A.length ac) (.slice qa Q.length qc) (.slice da D.length dc) (.slice ma P.length mc) (.slice na A.length nc) (.slice xa P.length xc) (.slice ya A.length yc) P Q A D h8 :=
    ⟨V.ext X8 (by omega), W.ext X8 (by omega), M.ext X8 (by omega), Z, r.ext (XX.mono hB), s.ext (XX.mono hB), ra.ext (XX.mono hB), rd.ext (XX.mono hB), rm.ext (X8.mono (by omega)), ram.ext (X8.mono (by omega)), rx.ext X8, rax.ext X8, mutP_ext mp X8 (Nat.le_refl _), mutR_ext mx X8 (Nat.le_refl _), by omega, by omega, by omega, tabs_ext h2 XX ht⟩
  clear V W M Z r s ra rd rm ram rx rax mp mx X8 X
  have y1 := same_scr (c := c) hsp hsa
  have y2 := same_scr (c := d) hsq hsd
  have y3 := same_scr (c := c) sm sm'
  have y4 := same_scr (c := c) sx sx'
  have v1 := L8.V.scr
  have v2 := L8.W.scr
  have v3 := L8.M.scr
  have v4 := L8.Z.scr
  repeat' (first | done | with_reducible (first | refine y1 ?_ (by omega) | refine y2 ?_ (by omega) | refine y3 (fun _ => ?_) (fun _ => ?_) | refine y4 ?_ (by omega) (by omega) | refine y5 ?_ (by omega) | refine y6 ?_ (by with_unfolding_all rfl) | refine y7 ?_ (by with_unfolding_all rfl) | refine y8 ?_ (by with_unfolding_all rfl) | refine y9 ?_ (by with_unfolding_all rfl) | refine ya ?_ (by with_unfolding_all rfl)) | ((with_reducible refine And.intro ?_ ?_); (· omega)) | (simp -dsimp only [↓getK_same, ↓getK_ne, ↓evK_tmp, ↓planW_d, ↓agK_nil, ↓ldN_some, ↓evs_nil, ↓evs_cons, ↓callE, ↓ld_28, onV_some', Nat.le_refl, true_and, ne_eq, Nat.reduceEqDiff, not_false_eq_true, v1, v4]))
  refine refSame_ret L8.rx (L8.r.mono (Nat.le_trans L8.b1 L8.b2)) L8.rax (L8.ra.mono (Nat.le_trans L8.b1 L8.b2)) L8.nn sx hsp sx' hsa (by omega) (by omega) fun b9 h9 X9 hb9 => ?_
  have L9 := L8.ext X9 (by omega)
  have n9 := X9.n
  clear v1 v2 v3 v4 X9
  clear L8
  have v1 := L9.V.scr
  have v2 := L9.W.scr
  have v3 := L9.M.scr
  have v4 := L9.Z.scr
  obtain rfl : b9 = true := hb9.2 ⟨fun _ _ => rfl, rfl, rfl⟩
  repeat' (first | done | with_reducible (first | refine y1 ?_ (by omega) | refine y2 ?_ (by omega) | refine y3 (fun _ => ?_) (fun _ => ?_) | refine y4 ?_ (by omega) (by omega) | refine y5 ?_ (by omega) | refine y6 ?_ (by with_unfolding_all rfl) | refine y7 ?_ (by with_unfolding_all rfl) | refine y8 ?_ (by with_unfolding_all rfl) | refine y9 ?_ (by with_unfolding_all rfl) | refine ya ?_ (by with_unfolding_all rfl)) | ((with_reducible refine And.intro ?_ ?_); (· omega)) | (simp -dsimp only [↓getK_same, ↓getK_ne, ↓evK_tmp, ↓gdV_var, ↓planW_d, ↓planW_gd, ↓agK_nil, ↓opW_move, ↓ldN_some, ↓evs_nil, ↓evs_cons, ↓opW_un, ↓un_not, ↓callE, ↓ld_28, onV_some', brK_true, Nat.le_refl, true_and, ne_eq, Nat.reduceEqDiff, not_false_eq_true, v3, v4, Bool.not_true]))
  refine sameS_ret L9.rx (L9.rm.mono L9.b2) L9.rax (L9.ram.mono L9.b2) L9.nn (by omega) (by omega) fun b10 h10 X10 hb10 => ?_
  have L10 := L9.ext X10 (by omega)
  have n10 := X10.n
  clear v1 v2 v3 v4 X10
  clear L9
  have v1 := L10.V.scr
  have v2 := L10.W.scr
  have v3 := L10.M.scr
  have v4 := L10.Z.scr
  obtain rfl : b10 = true := hb10.2 ⟨fun _ _ => rfl, rfl, rfl⟩
  repeat' (first | done | with_reducible (first | refine y1 ?_ (by omega) | refine y2 ?_ (by omega) | refine y3 (fun _ => ?_) (fun _ => ?_) | refine y4 ?_ (by omega) (by omega) | refine y5 ?_ (by omega) | refine y6 ?_ (by with_unfolding_all rfl) | refine y7 ?_ (by with_unfolding_all rfl) | refine y8 ?_ (by with_unfolding_all rfl) | refine y9 ?_ (by with_unfolding_all rfl) | refine ya ?_ (by with_unfolding_all rfl)) | ((with_reducible refine And.intro ?_ ?_); (· omega)) | (simp -dsimp only [↓getK_same, ↓getK_ne, ↓evK_tmp, ↓condV_var, ↓gdV_var, ↓planW_d, ↓planW_gd, ↓agK_nil, ↓opW_move, ↓opW_pick, ↓ldN_some, ↓evs_nil, ↓evs_cons, ↓opW_un, ↓un_not, ↓callE, ↓ld_28, onV_some', brK_true, brK_false, Nat.le_refl, true_and, ne_eq, Nat.reduceEqDiff, not_false_eq_true, Bool.false_eq_true,  v1, v2, v3, Bool.not_true]))
  refine sameS_ret (L10.rm.mono L10.b2) (L10.s.mono (Nat.le_trans L10.b1 L10.b2)) (L10.ram.mono L10.b2) (L10.rd.mono (Nat.le_trans L10.b1 L10.b2)) L10.nn (by omega) (by omega) fun b11 h11 X11 hb11 => ?_
  have L11 := L10.ext X11 (by omega)
  have n11 := X11.n
  clear v1 v2 v3 v4 X11
  clear L10
  have v1 := L11.V.scr
  have v2 := L11.W.scr
  have v3 := L11.M.scr
  have v4 := L11.Z.scr
  repeat' (first | done | with_reducible (first | refine y1 ?_ (by omega) | refine y2 ?_ (by omega) | refine y3 (fun _ => ?_) (fun _ => ?_) | refine y4 ?_ (by omega) (by omega) | refine y5 ?_ (by omega) | refine y6 ?_ (by with_unfolding_all rfl) | refine y7 ?_ (by with_unfolding_all rfl) | refine y8 ?_ (by with_unfolding_all rfl) | refine y9 ?_ (by with_unfolding_all rfl) | refine ya ?_ (by with_unfolding_all rfl)) | ((with_reducible refine And.intro ?_ ?_); (· omega)) | (simp -dsimp only [↓getK_same, ↓getK_ne, ↓evK_tmp, ↓gdV_var, ↓planW_gd, ↓agK_nil, ↓ldN_some, ↓evs_nil, ↓evs_cons, ↓agK_loadG, ↓agV_same, ↓agV_ne, ↓callE, ↓agl_28, onV_some', brK_true, true_and, and_true, ne_eq, Nat.reduceEqDiff, not_false_eq_true, v1, v2, y1, y2, Bool.not_true]))
  refine refSame_ret L11.r L11.s L11.ra L11.rd (Nat.le_trans (Nat.le_trans L11.b1 L11.b2) L11.nn) hsp hsq hsa hsd (by omega) (by omega) fun b12 h12 X12 hb12 => ?_
  have L12 := L11.ext X12 (by omega)
  have n12 := X12.n
  clear v1 v2 v3 v4 X12
  clear L11
  have v1 := L12.V.scr
  have v2 := L12.W.scr
  have v3 := L12.M.scr
  have v4 := L12.Z.scr
  obtain rfl : b11 = b12 := Bool.eq_iff_iff.2 (hb11.trans hb12.symm)
  repeat' (first | done | with_reducible (first | refine y1 ?_ (by omega) | refine y2 ?_ (by omega) | refine y3 (fun _ => ?_) (fun _ => ?_) | refine y4 ?_ (by omega) (by omega) | refine y5 ?_ (by omega) | refine y6 ?_ (by with_unfolding_all rfl) | refine y7 ?_ (by with_unfolding_all rfl) | refine y8 ?_ (by with_unfolding_all rfl) | refine y9 ?_ (by with_unfolding_all rfl) | refine ya ?_ (by with_unfolding_all rfl)) | ((with_reducible refine And.intro ?_ ?_); (· omega)) | (simp -dsimp only [↓getK_same, ↓getK_ne, ↓evK_tmp, ↓condV_var, ↓gdV_var, ↓planW_d, ↓planW_gd, ↓agK_nil, ↓opW_move, ↓opW_pick, ↓opW_bin, ↓ldN_some, ↓evs_nil, ↓evs_cons, ↓callE, ↓ld_28, onV_some', brK_true, brK_false, Nat.le_refl, true_and, ne_eq, Nat.reduceEqDiff, not_false_eq_true, Bool.false_eq_true,  v1, v2, v3, Bool.not_true, bin_neqB isBool4, beq_self_eq_true]))
  refine sameS_ret (L12.s.mono (Nat.le_trans L12.b1 L12.b2)) (L12.rm.mono L12.b2) (L12.rd.mono (Nat.le_trans L12.b1 L12.b2)) (L12.ram.mono L12.b2) L12.nn (by omega) (by omega) fun b13 h13 X13 hb13 => ?_
  have L13 := L12.ext X13 (by omega)
  have n13 := X13.n
  clear v1 v2 v3 v4 X13
  clear L12
  have v1 := L13.V.scr
  have v2 := L13.W.scr
  have v3 := L13.M.scr
  have v4 := L13.Z.scr
  repeat' (first | done | with_reducible (first | refine y1 ?_ (by omega) | refine y2 ?_ (by omega) | refine y3 (fun _ => ?_) (fun _ => ?_) | refine y4 ?_ (by omega) (by omega) | refine y5 ?_ (by omega) | refine y6 ?_ (by with_unfolding_all rfl) | refine y7 ?_ (by with_unfolding_all rfl) | refine y8 ?_ (by with_unfolding_all rfl) | refine y9 ?_ (by with_unfolding_all rfl) | refine ya ?_ (by with_unfolding_all rfl)) | ((with_reducible refine And.intro ?_ ?_); (· omega)) | (simp -dsimp only [↓getK_same, ↓getK_ne, ↓evK_tmp, ↓gdV_var, ↓planW_gd, ↓agK_nil, ↓ldN_some, ↓evs_nil, ↓evs_cons, ↓agK_loadG, ↓agV_same, ↓agV_ne, ↓callE, ↓agl_28, onV_some', brK_true, true_and, and_true, ne_eq, Nat.reduceEqDiff, not_false_eq_true, v1, v2, y1, y2, Bool.not_true, beq_self_eq_true]))
  refine refSame_ret L13.r L13.s L13.ra L13.rd (Nat.le_trans (Nat.le_trans L13.b1 L13.b2) L13.nn) hsp hsq hsa hsd (by omega) (by omega) fun b14 h14 X14 hb14 => ?_
  have L14 := L13.ext X14 (by omega)
  have n14 := X14.n
  clear v1 v2 v3 v4 X14
  clear L13
  have v1 := L14.V.scr
  have v2 := L14.W.scr
  have v3 := L14.M.scr
  have v4 := L14.Z.scr
  obtain rfl : b13 = b14 := Bool.eq_iff_iff.2 (hb13.trans (Iff.trans ⟨fun ⟨e1, e2, e3⟩ => ⟨fun i hi => (e1 i hi).symm, e2.symm, e3.symm⟩, fun ⟨e1, e2, e3⟩ => ⟨fun i hi => (e1 i hi).symm, e2.symm, e3.symm⟩⟩ hb14.symm))
  repeat' (first | done | with_reducible (first | refine y1 ?_ (by omega) | refine y2 ?_ (by omega) | refine y3 (fun _ => ?_) (fun _ => ?_) | refine y4 ?_ (by omega) (by omega) | refine y5 ?_ (by omega) | refine y6 ?_ (by with_unfolding_all rfl) | refine y7 ?_ (by with_unfolding_all rfl) | refine y8 ?_ (by with_unfolding_all rfl) | refine y9 ?_ (by with_unfolding_all rfl) | refine ya ?_ (by with_unfolding_all rfl)) | ((with_reducible refine And.intro ?_ ?_); (· omega)) | (simp -dsimp only [↓cw_skip, ↓cw_ops, ↓cw_seq, ↓cw_block, ↓cw_cond, ↓seqK_normal, ↓getK_same, ↓getK_ne, ↓evK_tmp, ↓evK_int, ↓condV_var, ↓gdV_var, ↓opsW_nil, ↓opsW_d, ↓planW_nil, ↓planW_d, ↓planW_gd, ↓agK_nil, ↓opW_assign, ↓opW_pick, ↓opW_bin, ↓setAll_cons, ↓setAll_nil, ↓s3_36_w, ↓s3_37_w, ↓r3_38_w, ↓s3_39_w, ↓s3_40_w, ↓s3_43_w, brK_true, brK_false, Nat.le_refl, true_and, ne_eq, Nat.reduceEqDiff, Nat.reduceAdd, not_false_eq_true, Bool.false_eq_true,  Bool.not_true, bin_neqB isBool4, beq_self_eq_true]))
  have T14 : LT B h6.n h.n h5.n h7.n c (.slice pa P.length pc) (.slice aa A.length ac) (.slice ma P.length mc) (.slice na A.length nc) (.slice xa P.length xc) (.slice ya A.length yc) P A h14 :=
    ⟨L14.V, L14.M, L14.Z, L14.r, L14.ra, L14.rm, L14.ram, L14.mp, L14.mx, L14.b1, by omega, Nat.le_trans L14.b2 L14.nn, L14.t⟩
  clear v1 v2 v3 v4 y1 y2 y3 y4 hb13 hb14 hb11 hb12 hb9 hb10 sx sx'
  refine cw_loopI (fun m fr' h' => ∃ k : Nat, k ≤ A.length ∧ m = A.length - k ∧ fr'.get 7 = some (.int .i64 k) ∧ LT B h6.n h.n h5.n h7.n c (.slice pa P.length pc) (.slice aa A.length ac) (.slice ma P.length mc) (.slice na A.length nc) (.slice xa P.length xc) (.slice ya A.length yc) P A h') A.length ?_ (by omega) ?_
  · exact ⟨0, by omega, by omega, by simp [T.get_set], T14⟩
  rintro m fr2 h' ⟨k, hk, rfl, f7, L⟩ hag
  have e7 := getK_of f7
  have b2 := getK_eq (hag 2 rfl)
  have b5 := getK_eq (hag 5 rfl)
  have b6 := getK_eq (hag 6 rfl)
  have zv := L.Z.scr
  by_cases hlt : k < A.length
  · obtain ⟨i, z, ev, hc, _, hi, hst⟩ := mut_store L.mx (j := k * 4 + 1) (by omega)
    cases ev
    repeat' (first | done | with_reducible (first | refine y1 ?_ (by omega) | refine y2 ?_ (by omega) | refine y3 (fun _ => ?_) (fun _ => ?_) | refine y4 ?_ (by omega) (by omega) | refine y5 ?_ (by omega) | refine y6 ?_ (by with_unfolding_all rfl) | refine y7 ?_ (by with_unfolding_all rfl) | refine y8 ?_ (by with_unfolding_all rfl) | refine y9 ?_ (by with_unfolding_all rfl) | refine ya ?_ (by with_unfolding_all rfl)) | ((with_reducible refine And.intro ?_ ?_); (· omega)) | (simp -dsimp only [↓cw_skip, ↓cw_ops, ↓cw_seq, ↓cw_block, ↓cw_cond, ↓seqK_normal, ↓getK_same, ↓getK_ne, ↓evK_tmp, ↓evK_int, ↓condV_var, ↓opsW_nil, ↓opsW_d, ↓opsW_n, ↓opW_move, ↓opW_bin, ↓bin_add, ↓bin_lss, ↓ld1_some, ↓fldA_some, ↓idxS_some, ↓lenS_some, ↓fa_28_1, ↓ld_26, ↓len_26, ↓ia_26, ↓fa_35_1, ↓ld_3, ↓st_3, ↓r3_29_w, ↓s3_30_w, ↓s3_31_w, ↓s3_32_w, ↓r3_33_w, ↓s3_34_w, ↓s3_35_w, onV_some', brK_true, ne_eq, Nat.reduceEqDiff, not_false_eq_true, Addr.add_lit, Int.toNat_natCast, ↓e7, ↓b6, zv, Nat.zero_add, hc]))
    refine hst _ _ fun h2' X2' O2' pr => ?_
    repeat' (first | done | with_reducible (first | refine y1 ?_ (by omega) | refine y2 ?_ (by omega) | refine y3 (fun _ => ?_) (fun _ => ?_) | refine y4 ?_ (by omega) (by omega) | refine y5 ?_ (by omega) | refine y6 ?_ (by with_unfolding_all rfl) | refine y7 ?_ (by with_unfolding_all rfl) | refine y8 ?_ (by with_unfolding_all rfl) | refine y9 ?_ (by with_unfolding_all rfl) | refine ya ?_ (by with_unfolding_all rfl)) | ((with_reducible refine And.intro ?_ ?_); (· omega)) | (simp -dsimp only [↓cw_ops, ↓seqK_normal, ↓blockK_normal, ↓loopK_normal, ↓getK_same, ↓getK_ne, ↓evK_tmp, ↓evK_int, ↓opsW_nil, ↓opsW_d, ↓opW_move, ↓opW_assign, ↓opW_bin, ↓bin_add, ↓r3_27_w, ↓s3_28_w, ne_eq, Nat.reduceEqDiff, Nat.reduceAdd, not_false_eq_true, Addr.add_lit, Int.toNat_natCast, ↓e7]))
    exact ⟨A.length - (k + 1), by omega, k + 1, by omega, rfl, by simp [T.get_set, wrap_succ (show k ≤ 4611686018427387904 by omega)], L.mutA X2' O2' hi pr⟩
  have hkA : k = A.length := by omega
  subst hkA
  repeat' (first | done | with_reducible (first | refine y1 ?_ (by omega) | refine y2 ?_ (by omega) | refine y3 (fun _ => ?_) (fun _ => ?_) | refine y4 ?_ (by omega) (by omega) | refine y5 ?_ (by omega) | refine y6 ?_ (by with_unfolding_all rfl) | refine y7 ?_ (by with_unfolding_all rfl) | refine y8 ?_ (by with_unfolding_all rfl) | refine y9 ?_ (by with_unfolding_all rfl) | refine ya ?_ (by with_unfolding_all rfl)) | ((with_reducible refine And.intro ?_ ?_); (· omega)) | (simp -dsimp only [↓cw_ops, ↓cw_seq, ↓cw_block, ↓cw_exit, ↓cw_cond, ↓seqK_normal, ↓seqK_exit, ↓blockK_same, ↓loopK_exit, ↓getK_same, ↓getK_ne, ↓evK_tmp, ↓evK_int, ↓condV_var, ↓opsW_nil, ↓opsW_d, ↓opW_move, ↓opW_assign, ↓opW_bin, ↓bin_lss, ↓ld1_some, ↓fldA_some, ↓lenS_some, ↓fa_28_1, ↓ld_26, ↓len_26, ↓s3_22_w, ↓s3_23_w, ↓r3_24_w, ↓s3_25_w, ↓s3_26_w, ↓s3_32_w, ↓r3_33_w, ↓s3_34_w, ↓s3_35_w, onV_some', brK_false, ne_eq, Nat.reduceEqDiff, Nat.reduceAdd, not_false_eq_true, Addr.add_lit, Bool.false_eq_true,  ↓e7, ↓b6, zv]))
  clear e7 f7 zv hlt T14
  refine cw_loopI (fun m fr' h' => ∃ k : Nat, k ≤ P.length ∧ m = P.length - k ∧ fr'.get 8 = some (.int .i64 k) ∧ LT B h6.n h.n h5.n h7.n c (.slice pa P.length pc) (.slice aa A.length ac) (.slice ma P.length mc) (.slice na A.length nc) (.slice xa P.length xc) (.slice ya A.length yc) P A h') P.length ?_ (by omega) ?_
  · exact ⟨0, by omega, by omega, by simp [T.get_set], L⟩
  clear L
  rintro m fr3 h'' ⟨k, hk, rfl, f8, L⟩ hag3
  have e8 := getK_of f8
  have c2 := getK_eq (hag3 2 rfl)
  have c5 := getK_eq (hag3 5 rfl)
  have c6 := getK_eq (hag3 6 rfl)
  have zv := L.Z.scr
  by_cases hlt : k < P.length
  · have hlk := hb1.1.2 P[k] (List.getElem_mem _)
    repeat' (first | done | with_reducible (first | refine y1 ?_ (by omega) | refine y2 ?_ (by omega) | refine y3 (fun _ => ?_) (fun _ => ?_) | refine y4 ?_ (by omega) (by omega) | refine y5 ?_ (by omega) | refine y6 ?_ (by with_unfolding_all rfl) | refine y7 ?_ (by with_unfolding_all rfl) | refine y8 ?_ (by with_unfolding_all rfl) | refine y9 ?_ (by with_unfolding_all rfl) | refine ya ?_ (by with_unfolding_all rfl)) | ((with_reducible refine And.intro ?_ ?_); (· omega)) | (simp -dsimp only [↓cw_skip, ↓cw_ops, ↓cw_seq, ↓cw_block, ↓cw_cond, ↓seqK_normal, ↓getK_same, ↓getK_ne, ↓evK_tmp, ↓evK_int, ↓condV_var, ↓opsW_nil, ↓opsW_d, ↓opW_move, ↓opW_assign, ↓opW_bin, ↓bin_lss, ↓ld1_some, ↓fldA_some, ↓lenS_some, ↓fa_28_0, ↓fa_25_14, ↓ld_23, ↓len_23, ↓s3_13_w, ↓s3_14_w, ↓r3_15_w, ↓s3_16_w, ↓s3_17_w, ↓s3_18_w, ↓r3_19_w, ↓s3_20_w, ↓s3_21_w, onV_some', brK_true, ne_eq, Nat.reduceEqDiff, Nat.reduceAdd, not_false_eq_true, Nat.add_zero, Addr.add_lit, ↓e8, ↓c6, ↓b6, zv]))
    refine cw_loopI (fun m fr' h' => ∃ j : Nat, j ≤ P[k].length ∧ m = P[k].length - j ∧ fr'.get 9 = some (.int .i64 j) ∧ LT B h6.n h.n h5.n h7.n c (.slice pa P.length pc) (.slice aa A.length ac) (.slice ma P.length mc) (.slice na A.length nc) (.slice xa P.length xc) (.slice ya A.length yc) P A h') P[k].length ?_ (by omega) ?_
    · exact ⟨0, by omega, by omega, by simp [T.get_set], L⟩
    clear L zv
    rintro m fr4 h3' ⟨j, hj, rfl, f9, L⟩ hag4
    have e9 := getK_of f9
    have d6 := getK_eq (hag4 6 rfl)
    have d8 := getK_eq (hag4 8 rfl)
    have zv := L.Z.scr
    have hkm : k < (P.map List.length).length := by simpa using hlt
    obtain ⟨i, ua, uc, hxa, hc, hm⟩ := mutP_at L.mp hkm
    rw [List.getElem_map] at hc hm
    generalize hLn : P[k].length = Ln at *
    by_cases hjl : j < Ln
    · obtain ⟨i2, z, ev, hc2, _, hi2, hst⟩ := mut_store hm hjl
      cases ev
      subst hxa
      repeat' (first | done | with_reducible (first | refine y1 ?_ (by omega) | refine y2 ?_ (by omega) | refine y3 (fun _ => ?_) (fun _ => ?_) | refine y4 ?_ (by omega) (by omega) | refine y5 ?_ (by omega) | refine y6 ?_ (by with_unfolding_all rfl) | refine y7 ?_ (by with_unfolding_all rfl) | refine y8 ?_ (by with_unfolding_all rfl) | refine y9 ?_ (by with_unfolding_all rfl) | refine ya ?_ (by with_unfolding_all rfl)) | ((with_reducible refine And.intro ?_ ?_); (· omega)) | (simp -dsimp only [↓cw_skip, ↓cw_ops, ↓cw_seq, ↓cw_block, ↓cw_cond, ↓seqK_normal, ↓getK_same, ↓getK_ne, ↓evK_tmp, ↓evK_int, ↓condV_var, ↓opsW_nil, ↓opsW_d, ↓opsW_n, ↓opW_move, ↓opW_bin, ↓bin_add, ↓bin_lss, ↓ld1_some, ↓fldA_some, ↓idxS_some, ↓lenS_some, ↓fa_28_0, ↓fa_25_14, ↓ld_23, ↓ia_23, ↓ld_36, ↓len_36, ↓ia_36, ↓ld_5, ↓st_5, ↓r3_6_w, ↓s3_7_w, ↓s3_8_w, ↓s3_9_w, ↓r3_10_w, ↓s3_11_w, ↓s3_12_w, onV_some', brK_true, ne_eq, Nat.reduceEqDiff, not_false_eq_true, Nat.add_zero, Addr.add_lit, Int.toNat_natCast, ↓e9, ↓d6, ↓d8, ↓e8, ↓c6, ↓b6, zv, Nat.zero_add, Nat.mul_one, hc, hc2]))
      refine hst _ _ fun h4' X4' O4' pr => ?_
      repeat' (first | done | with_reducible (first | refine y1 ?_ (by omega) | refine y2 ?_ (by omega) | refine y3 (fun _ => ?_) (fun _ => ?_) | refine y4 ?_ (by omega) (by omega) | refine y5 ?_ (by omega) | refine y6 ?_ (by with_unfolding_all rfl) | refine y7 ?_ (by with_unfolding_all rfl) | refine y8 ?_ (by with_unfolding_all rfl) | refine y9 ?_ (by with_unfolding_all rfl) | refine ya ?_ (by with_unfolding_all rfl)) | ((with_reducible refine And.intro ?_ ?_); (· omega)) | (simp -dsimp only [↓cw_ops, ↓seqK_normal, ↓blockK_normal, ↓loopK_normal, ↓getK_same, ↓getK_ne, ↓evK_tmp, ↓evK_int, ↓opsW_nil, ↓opsW_d, ↓opW_move, ↓opW_assign, ↓opW_bin, ↓bin_add, ↓r3_4_w, ↓s3_5_w, ne_eq, Nat.reduceEqDiff, Nat.reduceAdd, not_false_eq_true, Nat.add_zero, Addr.add_lit, Int.toNat_natCast, ↓e9]))
      exact ⟨Ln - (j + 1), by omega, j + 1, by omega, rfl, by simp [T.get_set, wrap_succ (show j ≤ 4611686018427387904 by omega)], L.mutB X4' O4' hi2 pr⟩
    · subst hxa
      repeat' (first | done | with_reducible (first | refine y1 ?_ (by omega) | refine y2 ?_ (by omega) | refine y3 (fun _ => ?_) (fun _ => ?_) | refine y4 ?_ (by omega) (by omega) | refine y5 ?_ (by omega) | refine y6 ?_ (by with_unfolding_all rfl) | refine y7 ?_ (by with_unfolding_all rfl) | refine y8 ?_ (by with_unfolding_all rfl) | refine y9 ?_ (by with_unfolding_all rfl) | refine ya ?_ (by with_unfolding_all rfl)) | ((with_reducible refine And.intro ?_ ?_); (· omega)) | (simp -dsimp only [↓cw_ops, ↓cw_seq, ↓cw_exit, ↓cw_cond, ↓seqK_normal, ↓seqK_exit, ↓blockK_normal, ↓blockK_same, ↓loopK_normal, ↓loopK_exit, ↓getK_same, ↓getK_ne, ↓evK_tmp, ↓evK_int, ↓condV_var, ↓opsW_nil, ↓opsW_d, ↓opW_move, ↓opW_assign, ↓opW_bin, ↓bin_add, ↓bin_lss, ↓ld1_some, ↓fldA_some, ↓idxS_some, ↓lenS_some, ↓fa_28_0, ↓fa_25_14, ↓ld_23, ↓ia_23, ↓ld_36, ↓len_36, ↓r3_2_w, ↓s3_3_w, ↓s3_9_w, ↓r3_10_w, ↓s3_11_w, ↓s3_12_w, onV_some', brK_false, ne_eq, Nat.reduceEqDiff, not_false_eq_true, Nat.add_zero, Addr.add_lit, Int.toNat_natCast, Bool.false_eq_true,  ↓e9, ↓d6, ↓d8, ↓e8, ↓c6, ↓b6, zv, Nat.zero_add, Nat.mul_one, hc]))
      exact ⟨P.length - (k + 1), by omega, k + 1, by omega, rfl, by simp [T.get_set, wrap_succ (show k ≤ 4611686018427387904 by omega)], L⟩
  · repeat' (first | done | with_reducible (first | refine y1 ?_ (by omega) | refine y2 ?_ (by omega) | refine y3 (fun _ => ?_) (fun _ => ?_) | refine y4 ?_ (by omega) (by omega) | refine y5 ?_ (by omega) | refine y6 ?_ (by with_unfolding_all rfl) | refine y7 ?_ (by with_unfolding_all rfl) | refine y8 ?_ (by with_unfolding_all rfl) | refine y9 ?_ (by with_unfolding_all rfl) | refine ya ?_ (by with_unfolding_all rfl)) | ((with_reducible refine And.intro ?_ ?_); (· omega)) | (simp -dsimp only [↓cw_ops, ↓cw_seq, ↓cw_exit, ↓cw_cond, ↓seqK_normal, ↓seqK_exit, ↓blockK_same, ↓loopK_exit, ↓getK_same, ↓getK_ne, ↓evK_tmp, ↓condV_var, ↓opsW_nil, ↓opsW_d, ↓opW_move, ↓opW_bin, ↓bin_lss, ↓ld1_some, ↓ldN_some, ↓fldA_some, ↓lenS_some, ↓ld_28, ↓fa_28_0, ↓fa_25_14, ↓ld_23, ↓len_23, ↓r3_0_w, ↓s3_1_w, ↓s3_18_w, ↓r3_19_w, ↓s3_20_w, ↓s3_21_w, onV_some', brK_false, ne_eq, Nat.reduceEqDiff, Nat.reduceAdd, not_false_eq_true, Nat.add_zero, Addr.add_lit, Bool.false_eq_true,  ↓e8, ↓c5, ↓c6, ↓b5, ↓b6, zv]))
    have vm := L.M.scr
    have vv := L.V.scr
    repeat' (first | done | with_reducible (first | refine y1 ?_ (by omega) | refine y2 ?_ (by omega) | refine y3 (fun _ => ?_) (fun _ => ?_) | refine y4 ?_ (by omega) (by omega) | refine y5 ?_ (by omega) | refine y6 ?_ (by with_unfolding_all rfl) | refine y7 ?_ (by with_unfolding_all rfl) | refine y8 ?_ (by with_unfolding_all rfl) | refine y9 ?_ (by with_unfolding_all rfl) | refine ya ?_ (by with_unfolding_all rfl)) | ((with_reducible refine And.intro ?_ ?_); (· omega)) | (simp -dsimp only [↓getK_same, ↓getK_ne, ↓evK_tmp, ↓opsW_d, ↓ldN_some, ↓evs_nil, ↓evs_cons, ↓callE, ↓ld_28, onV_some', ne_eq, Nat.reduceEqDiff, not_false_eq_true, ↓c2, ↓b2, vm, vv]))
    refine refSame_ret L.rm (L.r.mono L.b1) L.ram (L.ra.mono L.b1) L.nn sm hsp sm' hsa (by omega) (by omega) fun b h9' X9' hb9' => ?_
    obtain rfl : b = true := hb9'.2 ⟨fun _ _ => rfl, rfl, rfl⟩
    repeat' (first | done | with_reducible (first | refine y1 ?_ (by omega) | refine y2 ?_ (by omega) | refine y3 (fun _ => ?_) (fun _ => ?_) | refine y4 ?_ (by omega) (by omega) | refine y5 ?_ (by omega) | refine y6 ?_ (by with_unfolding_all rfl) | refine y7 ?_ (by with_unfolding_all rfl) | refine y8 ?_ (by with_unfolding_all rfl) | refine y9 ?_ (by with_unfolding_all rfl) | refine ya ?_ (by with_unfolding_all rfl)) | ((with_reducible refine And.intro ?_ ?_); (· omega)) | (simp -dsimp only [↓getK_same, ↓evK_tmp, ↓gdV_var, ↓opsW_d, ↓opsW_gd, ↓opW_move, ↓evs_nil, ↓callE, brK_true]))
    refine known_ret (tabs_ext (Nat.lt_of_lt_of_le L.b2 L.nn) X9' L.t) ?_
    repeat' (first | done | with_reducible (first | refine y1 ?_ (by omega) | refine y2 ?_ (by omega) | refine y3 (fun _ => ?_) (fun _ => ?_) | refine y4 ?_ (by omega) (by omega) | refine y5 ?_ (by omega) | refine y6 ?_ (by with_unfolding_all rfl) | refine y7 ?_ (by with_unfolding_all rfl) | refine y8 ?_ (by with_unfolding_all rfl) | refine y9 ?_ (by with_unfolding_all rfl) | refine ya ?_ (by with_unfolding_all rfl)) | ((with_reducible refine And.intro ?_ ?_); (· omega)) | (simp -dsimp only [↓cw_ret, ↓seqK_normal, ↓getK_same, ↓getK_ne, ↓evK_tmp, ↓condV_var, ↓opsW_nil, ↓opsW_d, ↓opW_assign, ↓opW_pick, ↓resK_one, brK_true, ne_eq, Nat.reduceEqDiff, not_false_eq_true]))
end Go.Proofs.YtohjaacnlmkhbaaGreatDoor

