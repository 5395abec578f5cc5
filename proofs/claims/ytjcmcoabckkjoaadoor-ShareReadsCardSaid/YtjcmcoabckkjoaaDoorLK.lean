/- The library's functions by their contracts; known() reckoned. -/
import Derived.Test.YtjcmcoabckkjoaaDoorSA
import Derived.Test.YtjcmcoabckkjoaaDoorSH
import Derived.Test.YtjcmcoabckkjoaaDoorLA
import Derived.Test.YtjcmcoabckkjoaaDoorZFb
import Derived.Lib.TrailingZeros
set_option linter.unusedSimpArgs false
set_option linter.unusedVariables false
namespace Go.Proofs.YtjcmcoabckkjoaaDoor.Li
open Go.Ev Go.RowKit
set_option maxRecDepth 100000
noncomputable def env0 : Env := envOf Tryd.prog 6 ext0
def isTrue : Option (Go.Value × Go.Ev.Heap) → Bool
  | some (.bool true, _) => true
  | _ => false
theorem of_isTrue {r : Option (Go.Value × Go.Ev.Heap)} (h : isTrue r = true) : ∃ h', r = some (.bool true, h') := by
  unfold isTrue at h
  split at h
  · exact ⟨_, rfl⟩
  · cases h
theorem reckoned : isTrue (callF env0 60 (.func 8) [] (heap0 tabs 6)) = true := by kernel_rfl
theorem tab_const : ∀ p ∈ tabs, p.2.all constOk0 = true := by
  have : tabs.all (fun p => p.2.all constOk0) = true := by decide
  exact fun p hp => List.all_eq_true.1 this p hp
theorem known_calls (w : World) (ht : TabW tabs 6 w) : Calls Tryd.prog 8 #[] w fun e w' => e = .returned (.bool true) ∧ Below w.heap.size w w' := by
  obtain ⟨h', e⟩ := of_isTrue reckoned
  exact tab_calls (E := env0) (envOK Tryd.prog 6 _ Na.mixed) (Na.nanText_ok 6) (namesOK Na.names_ok) tab_const rfl e w ht
theorem body8 : Tryd.f8.body.isSome = true := by kernel_rfl
theorem body86 : Tryd.f86.body.isSome = true := by kernel_rfl
theorem body84 : Tryd.f84.body.isSome = true := by kernel_rfl
theorem body103 : Tryd.f103.body.isSome = true := by kernel_rfl
theorem body55 : Tryd.f55.body.isSome = true := by kernel_rfl
theorem body51 : Tryd.f51.body.isSome = true := by kernel_rfl
theorem ok1 : ExtOK Tryd.prog (envOf Tryd.prog 6 ext1) := by
  obtain ⟨c, hc⟩ := Option.isSome_iff_exists.1 body86
  exact extFmt_ok (Na.nanText_ok 6) Tryd.func86 hc (namesOK Na.names_ok) fun blk off cap u d w hH h1 h2 h3 => Tryd.internal_strconv_formatBase10 blk off cap u d w hH h1 h2 h3
theorem one_int {ρ : Ren} {k : IntKind} {n : Int} {args' : Array Value} (ra : VRL ρ [.int k n] args'.toList) : args' = #[.int k n] := by
  obtain ⟨l⟩ := args'
  simp only at ra
  cases ra with
  | cons r1 t => cases r1; cases t; rfl
theorem ok2 : ExtOK Tryd.prog (envOf Tryd.prog 6 ext2) := by
  obtain ⟨c, hc⟩ := Option.isSome_iff_exists.1 body84
  refine extLib_ok ok1 Tryd.func84 hc (namesOK Na.names_ok) fun args h v e ρ w args' hr hg ra => ?_
  unfold smallG at e
  split at e
  · rename_i x
    rw [one_int ra]
    by_cases hx : 0 ≤ x ∧ x < 100
    · obtain ⟨i, rfl⟩ := Int.eq_ofNat_of_zero_le hx.1
      simp only [hx.1, hx.2, decide_true, Bool.and_self, cond_true, Option.some.injEq, Int.toNat_natCast] at e
      subst e
      exact (Tryd.internal_strconv_small i (by omega) w).mono fun e w' ⟨h1, h2⟩ => ⟨_, h1, .string _, by rw [h2]; exact Below.refl _ _⟩
    · have : (decide (0 ≤ x) && decide (x < 100)) = false := by
        simp only [Bool.and_eq_false_iff, decide_eq_false_iff_not]; omega
      rw [this] at e; cases e
  · cases e
theorem ok3 : ExtOK Tryd.prog (envOf Tryd.prog 6 ext3) := by
  obtain ⟨c, hc⟩ := Option.isSome_iff_exists.1 body103
  refine extLib_ok ok2 Tryd.func103 hc (namesOK Na.names_ok) fun args h v e ρ w args' hr hg ra => ?_
  unfold lenG at e
  split at e
  · rename_i x
    rw [one_int ra]
    by_cases hx : 0 ≤ x ∧ x ≤ 18446744073709551615
    · simp only [hx.1, hx.2, decide_true, Bool.and_self, cond_true, Option.some.injEq] at e
      subst e
      exact (Tryd.bits_Len64 x w hx.1 hx.2).mono fun e w' ⟨h1, h2⟩ => ⟨_, h1, .int _ _, by rw [h2]; exact Below.refl _ _⟩
    · have : (decide (0 ≤ x) && decide (x ≤ 18446744073709551615)) = false := by
        simp only [Bool.and_eq_false_iff, decide_eq_false_iff_not]; omega
      rw [this] at e; cases e
  · cases e
theorem tab_db : ∀ j, j < Lib.deBruijn64tab.length → dbs[j]? = some (.int .u8 (Lib.deBruijn64tab.getD j 0)) := by
  have : (List.range Lib.deBruijn64tab.length).all (fun j => match dbs[j]? with | some (.int .u8 n) => decide (n = (Lib.deBruijn64tab.getD j 0 : Nat)) | _ => false) = true := by decide
  intro j hj
  have := List.all_eq_true.1 this j (List.mem_range.2 hj)
  split at this
  · rename_i n e
    rw [e, of_decide_eq_true this]
  · cases this
theorem ok4 : ExtOK Tryd.prog (envOf Tryd.prog 6 ext4) := by
  obtain ⟨c, hc⟩ := Option.isSome_iff_exists.1 body55
  refine extLib_ok ok3 Tryd.func55 hc (namesOK Na.names_ok) fun args h v e ρ w args' hr hg ra => ?_
  unfold tzG at e
  split at e
  · rename_i x
    rw [one_int ra]
    by_cases hx : (0 ≤ x ∧ x < 18446744073709551616) ∧ tabsOk tabs h = true
    · obtain ⟨i, rfl⟩ := Int.eq_ofNat_of_zero_le hx.1.1
      simp only [hx.1.1, hx.1.2, hx.2, decide_true, Bool.and_self, cond_true, Option.some.injEq, Int.toNat_natCast] at e
      subst e
      exact (Any7.bits_TrailingZeros64 Tryd.lays29 i (by omega) w fun _ j hj => tabsOk_cell (ng := 6) hr hg hx.2 tab_const (p := (1, dbs)) (by simp [tabs]) (by decide) (tab_db j hj)).mono fun e w' ⟨h1, h2⟩ => ⟨_, h1, .int _ _, by rw [h2]; exact Below.refl _ _⟩
    · have : (decide (0 ≤ x) && decide (x < 18446744073709551616) && tabsOk tabs h) = false := by
        cases hb : tabsOk tabs h with
        | false => simp
        | true => simp only [hb, and_true] at hx; simp only [Bool.and_true, Bool.and_eq_false_iff, decide_eq_false_iff_not]; omega
      rw [this] at e; cases e
  · cases e
theorem ok5 : ExtOK Tryd.prog (envOf Tryd.prog 6 ext5) := by
  obtain ⟨c, hc⟩ := Option.isSome_iff_exists.1 body51
  refine extLib_ok ok4 Tryd.func51 hc (namesOK Na.names_ok) fun args h v e ρ w args' hr hg ra => ?_
  unfold joinG at e
  split at e
  · rename_i i o n c sep
    split at e
    · rename_i xs hxs
      cases hck : (Nat.blt i h.n && Nat.ble n c && Nat.blt c UNK && Nat.ble (Lib.join (xs.map (·.data.toList)) sep.data.toList).length 1000000 && Nat.ble 1 n && Nat.ble n 1000000) with
      | false => rw [hck] at e; cases e
      | true =>
        rw [hck] at e
        simp only [cond_true, Option.some.injEq] at e
        subst e
        simp only [Bool.and_eq_true, blt_eq, ble_eq, decide_eq_true_eq] at hck
        obtain ⟨⟨⟨⟨⟨hi, hnc⟩, hcu⟩, hlen⟩, h1n⟩, hn6⟩ := hck
        obtain ⟨l, hl, hsx⟩ := Option.bind_eq_some_iff.1 hxs
        obtain ⟨la⟩ := args'
        simp only at ra
        cases ra with
        | cons r1 t =>
          cases t with
          | cons r2 t =>
            cases t
            cases r2
            have hne : c ≠ UNK := by omega
            have hne2 : c ≠ UNK2 := by unfold UNK2; unfold UNK at hcu; omega
            cases r1 with
            | sliceU _ _ _ _ _ _ _ => exact absurd rfl hne
            | sliceE _ _ _ => exact absurd rfl hne2
            | @slice _ b c' _ _ _ hρ _ =>
              obtain ⟨l', hvl, hll, hcell⟩ := cellsAt_sim hr hρ hl
              have hlx := strs_get hsx
              have hxl : xs.length = n := by rw [← hll, hlx, List.length_map]
              have hlt := (hr.dom _ _ _ hρ).2
              subst hxl
              have := Tryd.strings_Join b o c xs sep w (fun j x hj => by
                have : l[j]? = some (.string x) := by rw [hlx, List.getElem?_map, hj]; rfl
                obtain ⟨v', ev, r⟩ := hvl.get j _ this
                cases r
                have := hcell j _ ev
                rw [Addr.add_lit] at this
                exact this) hlt (by omega) hnc (by omega)
              exact this.mono fun e w' ⟨h1, h2⟩ => ⟨_, h1, .string _, h2⟩
    · cases e
  · cases e
theorem body56 : Tryd.f56.body.isSome = true := by kernel_rfl
theorem body57 : Tryd.f57.body.isSome = true := by kernel_rfl
theorem body58 : Tryd.f58.body.isSome = true := by kernel_rfl
theorem two_str {ρ : Ren} {s p : ByteArray} {args' : Array Value} (ra : VRL ρ [.string s, .string p] args'.toList) : args' = #[.string s, .string p] := by
  obtain ⟨l⟩ := args'
  simp only at ra
  cases ra with
  | cons r1 t => cases r1; cases t with | cons r2 t => cases r2; cases t; rfl
theorem one_str {ρ : Ren} {s : ByteArray} {args' : Array Value} (ra : VRL ρ [.string s] args'.toList) : args' = #[.string s] := by
  obtain ⟨l⟩ := args'
  simp only at ra
  cases ra with
  | cons r1 t => cases r1; cases t; rfl
theorem ok6 : ExtOK Tryd.prog (envOf Tryd.prog 6 ext6) := by
  obtain ⟨c, hc⟩ := Option.isSome_iff_exists.1 body56
  refine extLib_ok ok5 Tryd.func56 hc (namesOK Na.names_ok) fun args h v e ρ w args' hr hg ra => ?_
  unfold cutPG at e
  split at e
  · rename_i s p
    rw [two_str ra]
    simp only [Option.some.injEq] at e
    subst e
    exact (Tryd.strings_CutPrefix s p w).mono fun e w' ⟨h1, h2⟩ => ⟨_, h1, .tuple _ _ (.cons (.string _) (.cons (.bool _) .nil)), by rw [h2]; exact Below.refl _ _⟩
  · cases e
theorem isI_of {o : Option Value} (h : isI o = true) : ∃ m, o = some (.int .i64 m) := by
  unfold isI at h
  split at h
  · exact ⟨_, rfl⟩
  · cases h
theorem ok7 : ExtOK Tryd.prog (envOf Tryd.prog 6 ext7) := by
  obtain ⟨c, hc⟩ := Option.isSome_iff_exists.1 body57
  refine extLib_ok ok6 Tryd.func57 hc (namesOK Na.names_ok) fun args h v e ρ w args' hr hg ra => ?_
  unfold cutG at e
  split at e
  · rename_i s p
    rw [two_str ra]
    cases hck : (Nat.blt s.size 4294967281 && isI (cellAt h ⟨3, 0, none⟩)) with
    | false => rw [hck] at e; cases e
    | true =>
      rw [hck] at e
      simp only [cond_true, Option.some.injEq] at e
      subst e
      simp only [Bool.and_eq_true, blt_eq, decide_eq_true_eq] at hck
      obtain ⟨m, hm⟩ := isI_of hck.2
      have hm : w.cell? ⟨3, 0, none⟩ = some (.int .i64 m) := by
        obtain ⟨c3, hc3⟩ := hg 3 (by decide)
        have hl : cellsAt h ⟨3, 0, none⟩ 1 = some [.int .i64 m] := by
          unfold cellAt at hm
          split at hm
          · rename_i v hv; rw [hv]; cases hm; rfl
          · cases hm
        obtain ⟨l', hvl, hll, hcell⟩ := cellsAt_sim hr hc3 hl
        obtain ⟨v', ev, r⟩ := hvl.get 0 _ rfl
        cases r
        have := hcell 0 _ ev
        rw [Addr.add_lit] at this
        exact this
      exact (Tryd.strings_Cut s p m w hck.1 hm).mono fun e w' ⟨h1, n, h2⟩ => ⟨_, h1, .tuple _ _ (.cons (.string _) (.cons (.string _) (.cons (.bool _) .nil))), by rw [h2]; exact ⟨rfl, rfl, rfl, Nat.le_refl _, fun _ _ => rfl⟩⟩
  · cases e
theorem cell_of {ρ : Ren} {h : Heap} {w : World} {g : Nat} {v : Value} (hr : HR Tryd.prog ρ h w) (hg : ∀ i, i < 6 → ∃ c, ρ i = some (i, c)) (h6 : g < 6) (hv : cellAt h ⟨g, 0, none⟩ = some v) : ∃ v', w.cell? ⟨g, 0, none⟩ = some v' ∧ VR ρ v v' := by
  obtain ⟨c, hc⟩ := hg g h6
  have hl : cellsAt h ⟨g, 0, none⟩ 1 = some [v] := by
    unfold cellAt at hv
    split at hv
    · rename_i v e; cases hv; exact e
    · cases hv
  obtain ⟨l', hvl, hll, hcell⟩ := cellsAt_sim hr hc hl
  obtain ⟨v', ev, r⟩ := hvl.get 0 _ rfl
  have := hcell 0 _ ev
  rw [Addr.add_lit] at this
  exact ⟨v', this, r⟩
theorem isIf_of {ρ : Ren} {h : Heap} {w : World} {g : Nat} (hr : HR Tryd.prog ρ h w) (hg : ∀ i, i < 6 → ∃ c, ρ i = some (i, c)) (h6 : g < 6) (hv : isIf (cellAt h ⟨g, 0, none⟩) = true) : ∃ ev, w.cell? ⟨g, 0, none⟩ = some ev ∧ ∃ te pe, ev = .iface te pe := by
  unfold isIf at hv
  split at hv
  · rename_i t v e
    obtain ⟨v', e1, r⟩ := cell_of hr hg h6 e
    cases r
    exact ⟨_, e1, _, _, rfl⟩
  · cases hv
theorem upd_h {ρ : Ren} {i : Nat} {x : Nat × Nat} : (ρ.upd i x) i = some x := Ren.upd_same _ _ _
theorem errV_r {ρ : Ren} {h : Heap} {N : Nat} : VR (ρ.upd h.n (N, 0)) (errV h) (.iface 110 (.pointer (some ⟨N, 0, none⟩))) := .iface _ _ _ (.ptr (c := 0) _ (Ren.upd_same _ _ _))
theorem ok8 : ExtOK Tryd.prog (envOf Tryd.prog 6 ext8) := by
  obtain ⟨c, hc⟩ := Option.isSome_iff_exists.1 body58
  refine extDead_ok ok7 Tryd.func58 hc (namesOK Na.names_ok) fun args h v b e ρ w args' hr hg ra => ?_
  unfold atoiG at e
  split at e
  · rename_i s
    rw [one_str ra]
    cases hck : (Nat.ble s.size 1000 && errsOk h) with
    | false => rw [hck] at e; cases e
    | true =>
      rw [hck] at e
      unfold errsOk at hck
      simp only [Bool.and_eq_true, ble_eq, decide_eq_true_eq] at hck
      obtain ⟨hs, h4, h5⟩ := hck
      obtain ⟨e4, c4, i4⟩ := isIf_of hr hg (by decide) h4
      obtain ⟨e5, c5, i5⟩ := isIf_of hr hg (by decide) h5
      cases ha : Lib.atoiAll s.data.toList with
      | ok n =>
        rw [ha] at e
        simp only [cond_true, Option.some.injEq, Prod.mk.injEq] at e
        obtain ⟨rfl, rfl⟩ := e
        refine (Any.strconv_Atoi_ok Tryd.laysC172 s (by omega) n ha w).mono fun e w' ⟨h1, h2⟩ => ⟨_, h1, ?_, (fun hb => by cases hb), fun _ => .tuple _ _ (.cons (.int _ _) (.cons .nilIface .nil))⟩
        rcases h2 with rfl | ⟨t, rfl⟩
        · exact Below.refl _ _
        · exact Go.Lib.bytesWorld_below _ _ _
      | range =>
        rw [ha] at e
        simp only [cond_true, Option.some.injEq, Prod.mk.injEq] at e
        obtain ⟨rfl, rfl⟩ := e
        exact (Any.strconv_Atoi_range Tryd.laysC172 s (by omega) ha e5 w c5 (.inr i5)).mono fun e w' ⟨N, h1, h2, h3, h4⟩ =>
          ⟨_, h1, h4, fun _ => ⟨N, _, h2, h3, .tuple _ _ (.cons (.int _ _) (.cons errV_r .nil))⟩, fun hb => by cases hb⟩
      | _ =>
        rw [ha] at e
        simp only [cond_true, Option.some.injEq, Prod.mk.injEq] at e
        obtain ⟨rfl, rfl⟩ := e
        exact (Any.strconv_Atoi_syntax Tryd.laysC172 s (by omega) ha e4 w c4 (.inr i4)).mono fun e w' ⟨N, h1, h2, h3, h4⟩ =>
          ⟨_, h1, h4, fun _ => ⟨N, _, h2, h3, .tuple _ _ (.cons (.int _ _) (.cons errV_r .nil))⟩, fun hb => by cases hb⟩
  · cases e
theorem body76 : Tryd.f76.body.isSome = true := by kernel_rfl
theorem ok9 : ExtOK Tryd.prog (envOf Tryd.prog 6 ext9) := by
  obtain ⟨c, hc⟩ := Option.isSome_iff_exists.1 body76
  refine extDead_ok ok8 Tryd.func76 hc (namesOK Na.names_ok) fun args h v b e ρ w args' hr hg ra => ?_
  unfold toErrG at e
  split at e
  · rename_i fn s k1 k2 n
    have hargs : args' = #[.string fn, .string s, .int .i64 k1, .int .i64 k2, .iface 107 (.int .i64 n)] := by
      obtain ⟨l⟩ := args'
      simp only at ra
      cases ra with
      | cons r1 t =>
        cases r1
        cases t with
        | cons r2 t =>
          cases r2
          cases t with
          | cons r3 t =>
            cases r3
            cases t with
            | cons r4 t =>
              cases r4
              cases t with
              | cons r5 t =>
                cases t
                cases r5 with
                | iface _ _ _ r => cases r; rfl
    subst hargs
    cases hck : (Nat.ble s.size 1000 && errsOk h && (decide (n = 1) || decide (n = 2))) with
    | false => rw [hck] at e; cases e
    | true =>
      rw [hck] at e
      unfold errsOk at hck
      simp only [Bool.and_eq_true, Bool.or_eq_true, ble_eq, decide_eq_true_eq] at hck
      obtain ⟨⟨hs, h4, h5⟩, hn⟩ := hck
      obtain ⟨e4, c4, i4⟩ := isIf_of hr hg (by decide) h4
      obtain ⟨e5, c5, i5⟩ := isIf_of hr hg (by decide) h5
      simp only [cond_true, Option.some.injEq, Prod.mk.injEq] at e
      obtain ⟨rfl, rfl⟩ := e
      rcases hn with rfl | rfl
      · exact (Any.strconv_toError_range Tryd.laysC245 fn s k1 k2 e5 w (by omega) c5 (.inr i5)).mono fun e w' ⟨N, h1, h2, h3, h4⟩ =>
          ⟨_, h1, h4, fun _ => ⟨N, _, h2, h3, errV_r⟩, fun hb => by cases hb⟩
      · exact (Any.strconv_toError_syntax Tryd.laysC245 fn s k1 k2 e4 w (by omega) c4 (.inr i4)).mono fun e w' ⟨N, h1, h2, h3, h4⟩ =>
          ⟨_, h1, h4, fun _ => ⟨N, _, h2, h3, errV_r⟩, fun hb => by cases hb⟩
  · cases e
theorem ext_ok : ExtOK Tryd.prog env := by
  obtain ⟨c, hc⟩ := Option.isSome_iff_exists.1 body8
  exact extTab_ok ok9 rfl tab_const Tryd.func8 hc (namesOK Na.names_ok) known_calls
end Go.Proofs.YtjcmcoabckkjoaaDoor.Li

/-! plain: how numbers stand to 0 and to the greatest one; odd parts -/
namespace Go.Ev
def rungN (n : Nat) : Nat := n % 9223372036854775808
def negN (n : Nat) : Bool := decide (9223372036854775808 ≤ n)
theorem lp : Ieee.double.leastPlace = -1074 := by decide +kernel
theorem bn : Ieee.double.binade = 4503599627370496 := by decide +kernel
theorem read_eq {n : Nat} (hn : n < 18446744073709551616) : Ieee.double.read n =
    if rungN n < 4503599627370496 then .number (negN n) (rungN n) (-1074)
    else if rungN n < 9218868437227405312 then .number (negN n) (4503599627370496 + rungN n % 4503599627370496) (-1074 + (rungN n / 4503599627370496 - 1 : Nat))
    else if rungN n = 9218868437227405312 then .infinity (negN n) else .nan (negN n) (rungN n - 9218868437227405312) := by
  have hs : (n / 9223372036854775808 % 2 == 1) = negN n := by
    unfold negN
    by_cases h : 9223372036854775808 ≤ n
    · have : n / 9223372036854775808 = 1 := by omega
      simp [this, h]
    · have : n / 9223372036854775808 = 0 := by omega
      simp [this, h]
  unfold Ieee.Format.read
  rw [sw, ir, lp, bn]
  simp only [hs]
  rfl
theorem isNan_iff (n : Nat) : isNan n = decide (9218868437227405312 < rungN n) := blt_eq _ _
theorem signed0 (s : Bool) (k : Nat) : Ieee.signed s 0 k = 0 := by cases s <;> simp [Ieee.signed]
theorem signed_up (s : Bool) (m : Nat) : Ieee.signed s m 0 = if s then -(m : Int) else (m : Int) := by cases s <;> simp [Ieee.signed]
theorem cmp_self (x : Int) : compare x x = .eq := by simp [compare, compareOfLessAndEq]
theorem cmp_lt {x y : Int} (h : x < y) : compare x y = .lt := by simp [compare, compareOfLessAndEq, h]
theorem cmp_gt {x y : Int} (h : y < x) : compare x y = .gt := by
  have h1 : ¬ x < y := by omega
  have h2 : x ≠ y := by omega
  simp [compare, compareOfLessAndEq, h1, h2]
/-- a number stands to itself -/
theorem ord_self {n : Nat} (hn : n < 18446744073709551616) : Ieee.double.order n n = if isNan n then none else some .eq := by
  unfold Ieee.Format.order
  rw [read_eq hn, isNan_iff]
  by_cases h1 : rungN n < 4503599627370496
  · rw [if_pos h1, if_neg (by simp; omega)]
    simp [Ieee.Datum.order, cmp_self]
  · rw [if_neg h1]
    by_cases h2 : rungN n < 9218868437227405312
    · rw [if_pos h2, if_neg (by simp; omega)]
      simp [Ieee.Datum.order, cmp_self]
    · rw [if_neg h2]
      by_cases h3 : rungN n = 9218868437227405312
      · rw [if_pos h3, if_neg (by simp; omega)]
        cases negN n <;> simp [Ieee.Datum.order] <;> rfl
      · rw [if_neg h3, if_pos (by simp; omega)]
        simp [Ieee.Datum.order]
theorem read_0 : Ieee.double.read 0 = .number false 0 (-1074) := by rw [read_eq (by decide)]; rfl
theorem ord_zero {n : Nat} (hn : n < 18446744073709551616) : Ieee.double.order n 0 = if isNan n then none else some (if rungN n = 0 then .eq else if negN n then .lt else .gt) := by
  unfold Ieee.Format.order
  rw [read_0, read_eq hn, isNan_iff]
  by_cases h1 : rungN n < 4503599627370496
  · rw [if_pos h1, if_neg (by simp; omega)]
    simp only [Ieee.Datum.order, Int.min_self, Int.sub_self, Int.toNat_zero, signed0, signed_up]
    by_cases h0 : rungN n = 0
    · rw [if_pos h0, h0]; cases negN n <;> simp [cmp_self]
    · rw [if_neg h0]
      cases negN n
      · simp only [Bool.false_eq_true, if_false]; rw [cmp_gt (by omega)]
      · simp only [if_true]; rw [cmp_lt (by omega)]
  · rw [if_neg h1]
    by_cases h2 : rungN n < 9218868437227405312
    · rw [if_pos h2, if_neg (by simp; omega), if_neg (by omega)]
      have hb : min (-1074 + ((rungN n / 4503599627370496 - 1 : Nat) : Int)) (-1074) = -1074 := by omega
      simp only [Ieee.Datum.order, hb, signed0]
      generalize hz : (4503599627370496 + rungN n % 4503599627370496) <<< (-1074 + ((rungN n / 4503599627370496 - 1 : Nat) : Int) - -1074).toNat = z
      have hp : 0 < z := by rw [← hz, Nat.shiftLeft_eq]; exact Nat.mul_pos (by omega) (Nat.two_pow_pos _)
      unfold Ieee.signed
      rw [hz]
      cases negN n
      · simp only [Bool.false_eq_true, if_false]; rw [cmp_gt (by omega)]
      · simp only [if_true]; rw [cmp_lt (by omega)]
    · rw [if_neg h2]
      by_cases h3 : rungN n = 9218868437227405312
      · rw [if_pos h3, if_neg (by simp; omega), if_neg (by omega)]
        simp [Ieee.Datum.order]
      · rw [if_neg h3, if_pos (by simp; omega)]
        simp [Ieee.Datum.order]
theorem read_max : Ieee.double.read 9218868437227405311 = .number false 9007199254740991 971 := by rw [read_eq (by decide)]; rfl
theorem ord_max {n : Nat} (hn : n < 18446744073709551616) : (Ieee.double.order n 9218868437227405311 == some .gt) = decide (n = 9218868437227405312) := by
  unfold Ieee.Format.order
  rw [read_max, read_eq hn]
  have key : ∀ (s : Bool) (m : Nat) (i : Int), m ≤ 9007199254740991 → i ≤ 971 → (Ieee.Datum.order (.number s m i) (.number false 9007199254740991 971) == some .gt) = false := by
    intro s m i hm hi
    have hb : min i 971 = i := by omega
    simp only [Ieee.Datum.order, hb, Int.sub_self, Int.toNat_zero, signed_up]
    have hup : (9007199254740991 : Int) ≤ Ieee.signed false 9007199254740991 (971 - i).toNat := by
      unfold Ieee.signed
      simp only [Bool.false_eq_true, if_false, Nat.shiftLeft_eq]
      have : 9007199254740991 ≤ 9007199254740991 * 2 ^ (971 - i).toNat := Nat.le_mul_of_pos_right _ (Nat.two_pow_pos _)
      omega
    generalize Ieee.signed false 9007199254740991 (971 - i).toNat = z at hup
    cases s
    · simp only [Bool.false_eq_true, if_false]
      by_cases h : (m : Int) = z
      · rw [h, cmp_self]; rfl
      · rw [cmp_lt (by omega)]; rfl
    · simp only [if_true]; rw [cmp_lt (by omega)]; rfl
  by_cases h1 : rungN n < 4503599627370496
  · rw [if_pos h1, key _ _ _ (by omega) (by omega)]
    unfold rungN at h1
    exact (decide_eq_false (by omega)).symm
  · rw [if_neg h1]
    by_cases h2 : rungN n < 9218868437227405312
    · rw [if_pos h2, key _ _ _ (by omega) (by omega)]
      unfold rungN at h2
      exact (decide_eq_false (by omega)).symm
    · rw [if_neg h2]
      by_cases h3 : rungN n = 9218868437227405312
      · rw [if_pos h3]
        unfold rungN at h3
        cases hg : negN n
        · have : n = 9218868437227405312 := by unfold negN at hg; simp at hg; omega
          rw [decide_eq_true this]; rfl
        · have : n ≠ 9218868437227405312 := by unfold negN at hg; simp at hg; omega
          rw [decide_eq_false this]; rfl
      · rw [if_neg h3]
        unfold rungN at h3
        have : n ≠ 9218868437227405312 := by omega
        rw [decide_eq_false this]; rfl
theorem neg_bits {n : Nat} (hn : n < 18446744073709551616) : n ^^^ 9223372036854775808 = if 9223372036854775808 ≤ n then n - 9223372036854775808 else n + 9223372036854775808 := by
  have h2 : (9223372036854775808 : Nat) = 2 ^ 63 := rfl
  rw [h2] at *
  apply Nat.eq_of_testBit_eq
  intro i
  rw [Nat.testBit_xor, Nat.testBit_two_pow]
  by_cases hc : 2 ^ 63 ≤ n
  · rw [if_pos hc]
    obtain ⟨r, rfl⟩ : ∃ r, n = 2 ^ 63 + r := ⟨n - 2 ^ 63, by omega⟩
    have hr : r < 2 ^ 63 := by omega
    rw [Nat.add_sub_cancel_left]
    by_cases hi : 63 = i
    · subst hi
      rw [Nat.testBit_two_pow_add_eq, Nat.testBit_lt_two_pow hr]; simp
    · simp only [hi, decide_false, Bool.xor_false]
      by_cases hlt : i < 63
      · rw [Nat.testBit_two_pow_add_gt hlt]
      · rw [Nat.testBit_lt_two_pow (show 2 ^ 63 + r < 2 ^ i from Nat.lt_of_lt_of_le (by omega : 2 ^ 63 + r < 2 ^ 64) (Nat.pow_le_pow_right (by decide) (by omega))),
          Nat.testBit_lt_two_pow (show r < 2 ^ i from Nat.lt_of_lt_of_le (by omega : r < 2 ^ 64) (Nat.pow_le_pow_right (by decide) (by omega)))]
  · rw [if_neg hc, Nat.add_comm]
    have hr : n < 2 ^ 63 := by omega
    by_cases hi : 63 = i
    · subst hi
      rw [Nat.testBit_two_pow_add_eq, Nat.testBit_lt_two_pow hr]; simp
    · simp only [hi, decide_false, Bool.xor_false]
      by_cases hlt : i < 63
      · rw [Nat.testBit_two_pow_add_gt hlt]
      · rw [Nat.testBit_lt_two_pow (show 2 ^ 63 + n < 2 ^ i from Nat.lt_of_lt_of_le (by omega : 2 ^ 63 + n < 2 ^ 64) (Nat.pow_le_pow_right (by decide) (by omega))),
          Nat.testBit_lt_two_pow (show n < 2 ^ i from Nat.lt_of_lt_of_le (by omega : n < 2 ^ 64) (Nat.pow_le_pow_right (by decide) (by omega)))]
/-! odd parts -/
theorem ctz_pos {x : Nat} (h0 : x ≠ 0) : Lib.ctz 64 x = Lib.ctzFrom 64 x := by unfold Lib.ctz; rw [if_neg h0]
theorem ctz_odd {x : Nat} (h0 : x ≠ 0) (hx : x < 18446744073709551616) : ∃ m, x = 2 ^ Lib.ctz 64 x * (2 * m + 1) ∧ Lib.ctz 64 x < 64 := by
  rw [ctz_pos h0]; exact Lib.ctzFrom_spec 64 x (by omega) hx
theorem ctz_even {x j : Nat} (h0 : x ≠ 0) (hx : x < 18446744073709551616) (hj : j < Lib.ctz 64 x) : x / 2 ^ j % 2 = 0 := by
  obtain ⟨m, hm, _⟩ := ctz_odd h0 hx
  generalize Lib.ctz 64 x = t at hm hj
  subst hm
  obtain ⟨d, rfl⟩ : ∃ d, t = j + (d + 1) := ⟨t - j - 1, by omega⟩
  rw [Nat.pow_add, Nat.mul_assoc, Nat.mul_div_cancel_left _ (Nat.two_pow_pos _), Nat.pow_succ, Nat.mul_comm (2 ^ d) 2, Nat.mul_assoc]
  omega
theorem ctz_end {x : Nat} (h0 : x ≠ 0) (hx : x < 18446744073709551616) : x / 2 ^ Lib.ctz 64 x % 2 = 1 := by
  obtain ⟨m, hm, _⟩ := ctz_odd h0 hx
  have : x / 2 ^ Lib.ctz 64 x = 2 * m + 1 := by
    generalize Lib.ctz 64 x = t at hm
    rw [hm, Nat.mul_div_cancel_left _ (Nat.two_pow_pos _)]
  omega
end Go.Ev

namespace Go.Proofs.YtjcmcoabckkjoaaDoor.Li
open Go.Ev
set_option maxRecDepth 100000
set_option maxHeartbeats 400000
def decV (u : Nat) : Value := .string ⟨(Lib.decDigits u).toArray⟩
def itoaV (n : Int) : Value := .string ⟨(Lib.itoa n).toArray⟩
/-! by contract -/
theorem len_ret {u : Nat} {h : Heap} {K : Value → Heap → Prop} (hu : u < 18446744073709551616) (hK : K (.int .i64 (Lib.bitLen u)) h) : Ret env (.func 103) [.int .u64 u] h K := by
  refine extLib_ret (g := lenG) (base := ext2) rfl ?_ hK
  have a0 : (0 : Int) ≤ (u : Int) := by omega
  have a1 : (u : Int) ≤ 18446744073709551615 := by omega
  simp only [lenG, a0, a1, decide_true, Bool.and_self, cond_true, Int.toNat_natCast]
theorem small_ret {u : Nat} {h : Heap} {K : Value → Heap → Prop} (hu : u < 100) (hK : K (decV u) h) : Ret env (.func 84) [.int .i64 u] h K := by
  refine extLib_ret (g := smallG) (base := ext1) rfl ?_ hK
  have a0 : (0 : Int) ≤ (u : Int) := by omega
  have a1 : (u : Int) < 100 := by omega
  simp only [smallG, a0, a1, decide_true, Bool.and_self, cond_true, Int.toNat_natCast, decV]
theorem e55 (args : List Value) (h : Heap) : env.ext 55 args h = extLib 55 tzG ext3 55 args h := by
  show extTab tabs ext9 8 55 args h = _
  unfold extTab
  rw [show Nat.beq 55 8 = false from rfl, cond_false]
  unfold ext9
  rw [extDead, show Nat.beq 55 76 = false from rfl, cond_false, ext8, extDead, show Nat.beq 55 58 = false from rfl, cond_false, ext7, extLib, show Nat.beq 55 57 = false from rfl, cond_false, ext6, extLib, show Nat.beq 55 56 = false from rfl, cond_false, ext5, extLib, show Nat.beq 55 51 = false from rfl, cond_false, ext4]
theorem tz_ret {u : Nat} {h : Heap} {K : Value → Heap → Prop} (ht : tabsOk tabs h = true) (hu : u < 18446744073709551616) (hK : K (.int .i64 (Lib.ctz 64 u)) h) : Ret env (.func 55) [.int .u64 u] h K := by
  refine extLib_ret (g := tzG) (base := ext3) (e55 _ _) ?_ hK
  have a0 : (0 : Int) ≤ (u : Int) := by omega
  have a1 : (u : Int) < 18446744073709551616 := by omega
  simp only [tzG, a0, a1, ht, decide_true, Bool.and_self, cond_true, Int.toNat_natCast]
theorem fmt_ret {i off n cap u : Nat} {cs : List Value} {e : TypeId} {h : Heap} {K : Value → Heap → Prop} (hb : h.b.get i = some (.cells cs e true)) (hi : i < h.n)
    (hc : cap < UNK) (h1 : off + n ≤ cs.length) (h2 : ((cs.drop off).take n).all isByte = true) (h3 : u < 10 ^ n) (h4 : u < 18446744073709551616) (h5 : n < 100)
    (q : K (.tuple #[]) { h with b := h.b.set i (.cells (cs.take off ++ digs u n ++ cs.drop (off + n)) e true) }) : Ret env (.func 86) [.slice (some ⟨i, off, none⟩) n cap, .int .u64 u] h K :=
  extFmt_ret (base := ext0) (fun _ => rfl) hb hi hc h1 h2 h3 h4 h5 q
theorem tabs_ext {B : Nat} {h h' : Heap} (hB : 2 < B) (e : ExtB B h h') (ht : tabsOk tabs h = true) : tabsOk tabs h' = true := by
  simp only [tabsOk, tabs, List.all_cons, List.all_nil, Bool.and_true, Bool.and_eq_true] at ht ⊢
  rw [e.get 1 (by omega), e.get 2 hB]; exact ht
/-- a table's cell -/
theorem p10_cell {h : Heap} (ht : tabsOk tabs h = true) (hn : 2 < h.n) {q : Nat} (hq : q < 20) : cellAt h ⟨2, q, none⟩ = some (.int .u64 ((10 ^ q : Nat) : Int)) := by
  simp only [tabsOk, tabs, List.all_cons, List.all_nil, Bool.and_true, Bool.and_eq_true] at ht
  have h2 := ht.2
  split at h2
  · rename_i g hg
    have hrow : p10[q]? = some (.int .u64 ((10 ^ q : Nat) : Int)) := by
      have : (List.range 20).all (fun q => match p10[q]? with | some (.int .u64 n) => decide (n = ((10 ^ q : Nat) : Int)) | _ => false) = true := by decide +kernel
      have := List.all_eq_true.1 this q (List.mem_range.2 hq)
      split at this
      · rename_i n e
        rw [e, of_decide_eq_true this]
      · cases this
    have := rowOk_get (i := 0) h2 q _ hrow
    rw [Nat.zero_add] at this
    have hlt : Nat.blt 2 h.n = true := by rw [blt_eq]; exact decide_eq_true hn
    have hb10 : Nat.beq 1 0 = false := rfl
    simp only [cellAt, cellsAt, hb10, cond_false, hlt, cond_true, hg, roCells, this]
  · cases h2
/-! decimal digits -/
theorem log_ret {x : Nat} {h : Heap} {K : Value → Heap → Prop} (hx : x ≤ 64) (hK : K (.int .i64 (Lib.l10 x)) h) : Ret env (.func 102) [.int .i64 x] h K := by
  refine F102 rfl ?_
  have w1 : IntKind.wrap .i64 ((x : Int) * 78913) = ((x * 78913 : Nat) : Int) := by rw [wrap_i64 (by omega) (by omega)]; omega
  have w2 : (((x * 78913 : Nat) : Int)).fdiv (2 ^ min (18 : Int).toNat IntKind.i64.bits) = (Lib.l10 x : Int) := by
    have : (2 : Int) ^ min (18 : Int).toNat IntKind.i64.bits = 262144 := by decide
    rw [this, Int.fdiv_eq_ediv_of_nonneg _ (by omega)]
    unfold Lib.l10
    omega
  repeat' (first | done | with_reducible (first | refine y1 ?_ (by omega) | refine y2 ?_ (by omega) | refine y3 (fun _ => ?_) (fun _ => ?_) | refine y4 ?_ (by omega) (by omega) | refine y5 ?_ (by omega) | refine y6 ?_ (by with_unfolding_all rfl) | refine y7 ?_ (by with_unfolding_all rfl) | refine y8 ?_ (by with_unfolding_all rfl) | refine y9 ?_ (by with_unfolding_all rfl) | refine ya ?_ (by with_unfolding_all rfl)) | (simp -dsimp only [↓cw_ops, ↓cw_seq, ↓cw_ret, ↓seqK_normal, ↓getK_same, ↓getK_ne, ↓evK_tmp, ↓evK_int, ↓opsW_nil, ↓opsW_d, ↓opW_move, ↓opW_assign, ↓opW_bin, ↓bin_mul, ↓bin_shr, ↓resK_one, ↓setAll_cons, ↓setAll_nil, ↓r102_0_w, ↓s102_1_w, ↓r102_2_w, ↓s102_3_w, ne_eq, Nat.reduceEqDiff, not_false_eq_true, w1, w2]))
  exact hK
theorem bool2_ret {b : Bool} {h : Heap} {K : Value → Heap → Prop} (hK : K (.int .i64 (cond b 1 0)) h) : Ret env (.func 104) [.bool b] h K := by
  refine F104 rfl ?_
  cases b with
  | true => repeat' (first | done | with_reducible (first | refine y1 ?_ (by omega) | refine y2 ?_ (by omega) | refine y3 (fun _ => ?_) (fun _ => ?_) | refine y4 ?_ (by omega) (by omega) | refine y5 ?_ (by omega) | refine y6 ?_ (by with_unfolding_all rfl) | refine y7 ?_ (by with_unfolding_all rfl) | refine y8 ?_ (by with_unfolding_all rfl) | refine y9 ?_ (by with_unfolding_all rfl) | refine ya ?_ (by with_unfolding_all rfl)) | (simp -dsimp only [↓cw_ops, ↓cw_seq, ↓cw_ret, ↓cw_cond, ↓seqK_normal, ↓seqK_ret, ↓getK_same, ↓getK_ne, ↓evK_tmp, ↓evK_int, ↓condV_var, ↓opsW_nil, ↓opsW_d, ↓opW_move, ↓opW_assign, ↓resK_one, ↓setAll_cons, ↓setAll_nil, ↓r104_2_w, ↓s104_3_w, ↓s104_4_w, ↓r104_5_w, ↓s104_6_w, ↓s104_7_w, ↓r104_8_w, ↓s104_9_w, brK_true, ne_eq, Nat.reduceEqDiff, not_false_eq_true])); exact hK
  | false => repeat' (first | done | with_reducible (first | refine y1 ?_ (by omega) | refine y2 ?_ (by omega) | refine y3 (fun _ => ?_) (fun _ => ?_) | refine y4 ?_ (by omega) (by omega) | refine y5 ?_ (by omega) | refine y6 ?_ (by with_unfolding_all rfl) | refine y7 ?_ (by with_unfolding_all rfl) | refine y8 ?_ (by with_unfolding_all rfl) | refine y9 ?_ (by with_unfolding_all rfl) | refine ya ?_ (by with_unfolding_all rfl)) | (simp -dsimp only [↓cw_skip, ↓cw_ops, ↓cw_seq, ↓cw_ret, ↓cw_cond, ↓seqK_normal, ↓getK_same, ↓getK_ne, ↓evK_tmp, ↓evK_int, ↓condV_var, ↓opsW_nil, ↓opsW_d, ↓opW_move, ↓opW_assign, ↓resK_one, ↓setAll_cons, ↓setAll_nil, ↓r104_0_w, ↓s104_1_w, ↓s104_4_w, ↓r104_5_w, ↓s104_6_w, ↓s104_7_w, ↓r104_8_w, ↓s104_9_w, brK_false, ne_eq, Nat.reduceEqDiff, not_false_eq_true, Bool.false_eq_true])); exact hK
theorem numDigits_ret {u : Nat} {h : Heap} {K : Value → Heap → Prop} (ht : tabsOk tabs h = true) (hn : 2 < h.n) (h1 : 1 ≤ u) (h2 : u < 18446744073709551616) (hK : K (.int .i64 (Lib.nDigits u)) h) : Ret env (.func 85) [.int .u64 u] h K := by
  refine F85 rfl ?_
  obtain ⟨hnd, h19⟩ := Lib.numDigits_eq u h1 h2
  have hL : Lib.bitLen u ≤ 64 := Lib.bitLen_le u 64 (Nat.le_refl _) h2
  have d := p10_cell ht hn (q := Lib.l10 (Lib.bitLen u)) (by omega)
  generalize hq : Lib.l10 (Lib.bitLen u) = q at hnd h19 d
  generalize hT : 10 ^ q = T at hnd d
  repeat' (first | done | with_reducible (first | refine y1 ?_ (by omega) | refine y2 ?_ (by omega) | refine y3 (fun _ => ?_) (fun _ => ?_) | refine y4 ?_ (by omega) (by omega) | refine y5 ?_ (by omega) | refine y6 ?_ (by with_unfolding_all rfl) | refine y7 ?_ (by with_unfolding_all rfl) | refine y8 ?_ (by with_unfolding_all rfl) | refine y9 ?_ (by with_unfolding_all rfl) | refine ya ?_ (by with_unfolding_all rfl)) | (simp -dsimp only [↓cw_ops, ↓cw_seq, ↓seqK_normal, ↓getK_same, ↓getK_ne, ↓evK_tmp, ↓evK_int, ↓opsW_nil, ↓opsW_d, ↓opW_move, ↓opW_assign, ↓evs_nil, ↓evs_cons, ↓opW_call, ↓setAll_cons, ↓setAll_nil, ↓r85_2_w, ↓s85_3_w, ↓r85_4_w, ↓s85_5_w, ne_eq, Nat.reduceEqDiff, not_false_eq_true]))
  refine len_ret h2 ?_
  repeat' (first | done | with_reducible (first | refine y1 ?_ (by omega) | refine y2 ?_ (by omega) | refine y3 (fun _ => ?_) (fun _ => ?_) | refine y4 ?_ (by omega) (by omega) | refine y5 ?_ (by omega) | refine y6 ?_ (by with_unfolding_all rfl) | refine y7 ?_ (by with_unfolding_all rfl) | refine y8 ?_ (by with_unfolding_all rfl) | refine y9 ?_ (by with_unfolding_all rfl) | refine ya ?_ (by with_unfolding_all rfl)) | (simp -dsimp only [↓getK_same, ↓evK_tmp, ↓opsW_d, ↓evs_nil, ↓evs_cons, ↓opW_call]))
  refine log_ret hL ?_
  rw [hq]
  repeat' (first | done | with_reducible (first | refine y1 ?_ (by omega) | refine y2 ?_ (by omega) | refine y3 (fun _ => ?_) (fun _ => ?_) | refine y4 ?_ (by omega) (by omega) | refine y5 ?_ (by omega) | refine y6 ?_ (by with_unfolding_all rfl) | refine y7 ?_ (by with_unfolding_all rfl) | refine y8 ?_ (by with_unfolding_all rfl) | refine y9 ?_ (by with_unfolding_all rfl) | refine ya ?_ (by with_unfolding_all rfl)) | (simp -dsimp only [↓cw_ops, ↓cw_seq, ↓seqK_normal, ↓getK_same, ↓getK_ne, ↓evK_tmp, ↓opsW_nil, ↓opsW_d, ↓opW_move, ↓opW_assign, ↓opW_bin, ↓bin_geq, ↓ld1_some, ↓evs_nil, ↓evs_cons, ↓opW_call, ↓setAll_cons, ↓setAll_nil, ↓idxA_some, ↓gl_2, ↓ia_117, ↓ld_23, ↓r85_0_w, ↓s85_1_w, onV_some', ne_eq, Nat.reduceEqDiff, not_false_eq_true, Addr.add_lit, Int.toNat_natCast, d, Nat.mul_one, Nat.zero_add]))
  · refine bool2_ret ?_
    rw [if_pos (by omega)] at hnd
    have : IntKind.wrap .i64 ((q : Int) + 1) = (Lib.nDigits u : Int) := by rw [wrap_i64 (by omega) (by omega)]; omega
    repeat' (first | done | with_reducible (first | refine y1 ?_ (by omega) | refine y2 ?_ (by omega) | refine y3 (fun _ => ?_) (fun _ => ?_) | refine y4 ?_ (by omega) (by omega) | refine y5 ?_ (by omega) | refine y6 ?_ (by with_unfolding_all rfl) | refine y7 ?_ (by with_unfolding_all rfl) | refine y8 ?_ (by with_unfolding_all rfl) | refine y9 ?_ (by with_unfolding_all rfl) | refine ya ?_ (by with_unfolding_all rfl)) | (simp -dsimp only [↓cw_ret, ↓seqK_normal, ↓getK_same, ↓getK_ne, ↓evK_tmp, ↓opsW_nil, ↓opsW_d, ↓opW_assign, ↓opW_bin, ↓bin_add, ↓resK_one, ne_eq, Nat.reduceEqDiff, not_false_eq_true, cond_true, this]))
    exact hK
  · refine bool2_ret ?_
    rw [if_neg (by omega)] at hnd
    have : IntKind.wrap .i64 ((q : Int) + 0) = (Lib.nDigits u : Int) := by rw [wrap_i64 (by omega) (by omega)]; omega
    repeat' (first | done | with_reducible (first | refine y1 ?_ (by omega) | refine y2 ?_ (by omega) | refine y3 (fun _ => ?_) (fun _ => ?_) | refine y4 ?_ (by omega) (by omega) | refine y5 ?_ (by omega) | refine y6 ?_ (by with_unfolding_all rfl) | refine y7 ?_ (by with_unfolding_all rfl) | refine y8 ?_ (by with_unfolding_all rfl) | refine y9 ?_ (by with_unfolding_all rfl) | refine ya ?_ (by with_unfolding_all rfl)) | (simp -dsimp only [↓cw_ret, ↓seqK_normal, ↓getK_same, ↓getK_ne, ↓evK_tmp, ↓opsW_nil, ↓opsW_d, ↓opW_assign, ↓opW_bin, ↓bin_add, ↓resK_one, ne_eq, Nat.reduceEqDiff, not_false_eq_true, cond_false, this]))
    exact hK
theorem arr99 : arrSz env 99 = some (24, 1) := by kernel_rfl
theorem nd_le {u : Nat} (h1 : 1 ≤ u) (h2 : u < 18446744073709551616) : Lib.nDigits u ≤ 20 := by
  have := Lib.numDigits_eq u h1 h2; split at this <;> omega
def zeros24 : List Value := List.replicate 24 (.int .u8 0)
theorem zeros24_byte (off n : Nat) : ((zeros24.drop off).take n).all isByte = true := by
  rw [List.all_eq_true]
  intro v hv
  have := List.mem_of_mem_drop (List.mem_of_mem_take hv)
  rw [List.eq_of_mem_replicate this]; rfl
theorem over_hd {c x : Value} {l : List Value} : over (c :: l) 0 [x] = some (x :: l) := by
  rw [over, cond_beq, if_pos rfl]
  cases l <;> rfl
theorem cells_set {h : Heap} {i : Nat} {cs l : List Value} {e : TypeId} {x : Bool} {off n : Nat} (hi : i < h.n) (hl : (cs.drop off).take n = l) (hn : l.length = n) : cellsAt { h with b := h.b.set i (.cells cs e x) } ⟨i, off, none⟩ n = some l :=
  cellsAt_blk (h := { h with b := h.b.set i (.cells cs e x) }) hi (T.get_set_same _ _ _) hl hn
theorem iFormatUint_ret {u : Nat} {h : Heap} {K : Value → Heap → Prop} (ht : tabsOk tabs h = true) (hn : 2 < h.n) (h2 : u < 18446744073709551616) (hK : ∀ h', ExtB h.n h h' → K (decV u) h') : Ret env (.func 67) [.int .u64 u, .int .i64 10] h K := by
  refine F67 rfl ?_
  by_cases hs : u < 100
  · repeat' (first | done | with_reducible (first | refine y1 ?_ (by omega) | refine y2 ?_ (by omega) | refine y3 (fun _ => ?_) (fun _ => ?_) | refine y4 ?_ (by omega) (by omega) | refine y5 ?_ (by omega) | refine y6 ?_ (by with_unfolding_all rfl) | refine y7 ?_ (by with_unfolding_all rfl) | refine y8 ?_ (by with_unfolding_all rfl) | refine y9 ?_ (by with_unfolding_all rfl) | refine ya ?_ (by with_unfolding_all rfl)) | (simp -dsimp only [↓cw_ops, ↓cw_seq, ↓cw_cond, ↓seqK_normal, ↓getK_same, ↓getK_ne, ↓evK_tmp, ↓evK_int, ↓evK_string, ↓condV_var, ↓opsW_nil, ↓opsW_d, ↓opW_move, ↓opW_assign, ↓opW_bin, ↓bin_eql, ↓bin_lss, ↓evs_nil, ↓evs_cons, ↓opW_call, ↓setAll_cons, ↓setAll_nil, ↓cint_int, ↓cv_23_3, ↓r67_12_w, ↓s67_13_w, ↓s67_14_w, ↓r67_15_w, ↓s67_16_w, ↓s67_17_w, ↓s67_18_w, ↓r67_19_w, ↓s67_20_w, ↓s67_21_w, ↓r67_22_w, ↓s67_23_w, brK_true, ne_eq, Nat.reduceEqDiff, Nat.reduceAdd, not_false_eq_true, Nat.one_ne_zero]))
    have w : IntKind.wrap .i64 (u : Int) = (u : Int) := wrap_i64 (by omega) (by omega)
    rw [w]
    refine small_ret hs ?_
    repeat' (first | done | with_reducible (first | refine y1 ?_ (by omega) | refine y2 ?_ (by omega) | refine y3 (fun _ => ?_) (fun _ => ?_) | refine y4 ?_ (by omega) (by omega) | refine y5 ?_ (by omega) | refine y6 ?_ (by with_unfolding_all rfl) | refine y7 ?_ (by with_unfolding_all rfl) | refine y8 ?_ (by with_unfolding_all rfl) | refine y9 ?_ (by with_unfolding_all rfl) | refine ya ?_ (by with_unfolding_all rfl)) | (simp -dsimp only [↓cw_ret, ↓seqK_normal, ↓seqK_ret, ↓getK_same, ↓evK_tmp, ↓opsW_nil, ↓opsW_d, ↓opW_assign, ↓resK_one]))
    exact hK h (ExtB.refl _ _)
  · have h1 : 1 ≤ u := by omega
    have h20 := nd_le h1 h2
    repeat' (first | done | with_reducible (first | refine y1 ?_ (by omega) | refine y2 ?_ (by omega) | refine y3 (fun _ => ?_) (fun _ => ?_) | refine y4 ?_ (by omega) (by omega) | refine y5 ?_ (by omega) | refine y6 ?_ (by with_unfolding_all rfl) | refine y7 ?_ (by with_unfolding_all rfl) | refine y8 ?_ (by with_unfolding_all rfl) | refine y9 ?_ (by with_unfolding_all rfl) | refine ya ?_ (by with_unfolding_all rfl)) | (simp -dsimp only [↓cw_skip, ↓cw_ops, ↓cw_seq, ↓cw_cond, ↓seqK_normal, ↓getK_same, ↓getK_ne, ↓evK_tmp, ↓evK_int, ↓evK_string, ↓condV_var, ↓opsW_nil, ↓opsW_d, ↓opW_move, ↓opW_assign, ↓opW_bin, ↓bin_eql, ↓bin_lss, ↓evs_nil, ↓evs_cons, ↓opW_call, ↓setAll_cons, ↓setAll_nil, ↓al_99, ↓r67_8_w, ↓s67_9_w, ↓r67_10_w, ↓s67_11_w, ↓s67_14_w, ↓r67_15_w, ↓s67_16_w, ↓s67_17_w, ↓s67_18_w, ↓r67_19_w, ↓s67_20_w, ↓s67_21_w, ↓r67_22_w, ↓s67_23_w, brK_true, brK_false, ne_eq, Nat.reduceEqDiff, Nat.reduceAdd, not_false_eq_true, Nat.one_ne_zero, Bool.false_eq_true]))
    have X1 : ExtB h.n h (newBlk h (.cells zeros24 99 true)) := ExtB.new _ (Nat.le_refl _)
    have hb1 : (newBlk h (.cells zeros24 99 true)).b.get h.n = some (.cells zeros24 99 true) := newBlk_same _ _
    have hn1 : (newBlk h (.cells zeros24 99 true)).n = h.n + 1 := rfl
    show Ret env (.func 85) [.int .u64 u] (newBlk h (.cells zeros24 99 true)) _
    generalize newBlk h (.cells zeros24 99 true) = h1' at X1 hb1 hn1 ⊢
    refine numDigits_ret (tabs_ext hn X1 ht) (by omega) h1 h2 ?_
    repeat' (first | done | with_reducible (first | refine y1 ?_ (by omega) | refine y2 ?_ (by omega) | refine y3 (fun _ => ?_) (fun _ => ?_) | refine y4 ?_ (by omega) (by omega) | refine y5 ?_ (by omega) | refine y6 ?_ (by with_unfolding_all rfl) | refine y7 ?_ (by with_unfolding_all rfl) | refine y8 ?_ (by with_unfolding_all rfl) | refine y9 ?_ (by with_unfolding_all rfl) | refine ya ?_ (by with_unfolding_all rfl)) | (simp -dsimp only [↓cw_ops, ↓cw_seq, ↓seqK_normal, ↓getK_same, ↓getK_ne, ↓evK_tmp, ↓opsW_nil, ↓opsW_d, ↓opW_move, ↓opW_assign, ↓opW_slice, ↓evo_none, ↓evo_some, ↓r67_6_w, ↓s67_7_w, ne_eq, Nat.reduceEqDiff, not_false_eq_true]))
    refine slice_arr0 arr99 (by omega) (by decide) (by decide) ?_
    repeat' (first | done | with_reducible (first | refine y1 ?_ (by omega) | refine y2 ?_ (by omega) | refine y3 (fun _ => ?_) (fun _ => ?_) | refine y4 ?_ (by omega) (by omega) | refine y5 ?_ (by omega) | refine y6 ?_ (by with_unfolding_all rfl) | refine y7 ?_ (by with_unfolding_all rfl) | refine y8 ?_ (by with_unfolding_all rfl) | refine y9 ?_ (by with_unfolding_all rfl) | refine ya ?_ (by with_unfolding_all rfl)) | (simp -dsimp only [↓getK_same, ↓getK_ne, ↓evK_tmp, ↓opsW_d, ↓opW_move, ↓evs_nil, ↓evs_cons, ↓opW_call, ↓setAll_cons, ↓setAll_nil, ne_eq, Nat.reduceEqDiff, Nat.reduceAdd, not_false_eq_true, Nat.one_ne_zero]))
    refine fmt_ret hb1 (by omega) (by decide) (by rw [Nat.zero_add]; show _ ≤ 24; omega) (zeros24_byte _ _) (fmt_pow u) h2 (by omega) ?_
    repeat' (first | done | with_reducible (first | refine y1 ?_ (by omega) | refine y2 ?_ (by omega) | refine y3 (fun _ => ?_) (fun _ => ?_) | refine y4 ?_ (by omega) (by omega) | refine y5 ?_ (by omega) | refine y6 ?_ (by with_unfolding_all rfl) | refine y7 ?_ (by with_unfolding_all rfl) | refine y8 ?_ (by with_unfolding_all rfl) | refine y9 ?_ (by with_unfolding_all rfl) | refine ya ?_ (by with_unfolding_all rfl)) | (simp -dsimp only [↓cw_ops, ↓cw_seq, ↓seqK_normal, ↓getK_same, ↓getK_ne, ↓evK_tmp, ↓opsW_nil, ↓opsW_d, ↓opW_move, ↓opW_slice, ↓evo_none, ↓evo_some, ↓r67_4_w, ↓s67_5_w, ne_eq, Nat.reduceEqDiff, not_false_eq_true]))
    refine slice_arr0 arr99 (by omega) (by decide) (by decide) ?_
    repeat' (first | done | with_reducible (first | refine y1 ?_ (by omega) | refine y2 ?_ (by omega) | refine y3 (fun _ => ?_) (fun _ => ?_) | refine y4 ?_ (by omega) (by omega) | refine y5 ?_ (by omega) | refine y6 ?_ (by with_unfolding_all rfl) | refine y7 ?_ (by with_unfolding_all rfl) | refine y8 ?_ (by with_unfolding_all rfl) | refine y9 ?_ (by with_unfolding_all rfl) | refine ya ?_ (by with_unfolding_all rfl)) | (simp -dsimp only [↓getK_same, ↓evK_tmp, ↓opsW_d, ↓cv_87_9]))
    refine bstr_of (l := Lib.decDigits u) ?_ ?_
    · refine cells_set (by omega) ?_ ?_
      · rw [List.take_zero, List.nil_append, List.drop_zero, List.take_left' (digs_len _ _), digs_bytes]
      · rw [List.length_map, Lib.decDigits_length]
    · repeat' (first | done | with_reducible (first | refine y1 ?_ (by omega) | refine y2 ?_ (by omega) | refine y3 (fun _ => ?_) (fun _ => ?_) | refine y4 ?_ (by omega) (by omega) | refine y5 ?_ (by omega) | refine y6 ?_ (by with_unfolding_all rfl) | refine y7 ?_ (by with_unfolding_all rfl) | refine y8 ?_ (by with_unfolding_all rfl) | refine y9 ?_ (by with_unfolding_all rfl) | refine ya ?_ (by with_unfolding_all rfl)) | (simp -dsimp only [↓cw_ret, ↓seqK_normal, ↓seqK_ret, ↓getK_same, ↓evK_tmp, ↓opsW_nil, ↓opsW_d, ↓opW_assign, ↓resK_one]))
      exact hK _ (X1.trans (ExtB.set _ (Nat.le_refl _)))
theorem FormatUint_ret {u : Nat} {h : Heap} {K : Value → Heap → Prop} (ht : tabsOk tabs h = true) (hn : 2 < h.n) (h2 : u < 18446744073709551616) (hK : ∀ h', ExtB h.n h h' → K (decV u) h') : Ret env (.func 50) [.int .u64 u, .int .i64 10] h K := by
  refine F50 rfl ?_
  repeat' (first | done | with_reducible (first | refine y1 ?_ (by omega) | refine y2 ?_ (by omega) | refine y3 (fun _ => ?_) (fun _ => ?_) | refine y4 ?_ (by omega) (by omega) | refine y5 ?_ (by omega) | refine y6 ?_ (by with_unfolding_all rfl) | refine y7 ?_ (by with_unfolding_all rfl) | refine y8 ?_ (by with_unfolding_all rfl) | refine y9 ?_ (by with_unfolding_all rfl) | refine ya ?_ (by with_unfolding_all rfl)) | (simp -dsimp only [↓cw_ops, ↓cw_seq, ↓seqK_normal, ↓getK_same, ↓getK_ne, ↓evK_tmp, ↓evK_string, ↓opsW_nil, ↓opsW_d, ↓opW_move, ↓opW_assign, ↓evs_nil, ↓evs_cons, ↓opW_call, ↓setAll_cons, ↓setAll_nil, ↓r50_0_w, ↓s50_1_w, ↓r50_2_w, ↓s50_3_w, ne_eq, Nat.reduceEqDiff, Nat.reduceAdd, not_false_eq_true, Nat.one_ne_zero]))
  refine iFormatUint_ret ht hn h2 fun h' X => ?_
  unfold decV
  repeat' (first | done | with_reducible (first | refine y1 ?_ (by omega) | refine y2 ?_ (by omega) | refine y3 (fun _ => ?_) (fun _ => ?_) | refine y4 ?_ (by omega) (by omega) | refine y5 ?_ (by omega) | refine y6 ?_ (by with_unfolding_all rfl) | refine y7 ?_ (by with_unfolding_all rfl) | refine y8 ?_ (by with_unfolding_all rfl) | refine y9 ?_ (by with_unfolding_all rfl) | refine ya ?_ (by with_unfolding_all rfl)) | (simp -dsimp only [↓cw_ret, ↓seqK_normal, ↓getK_same, ↓evK_tmp, ↓opsW_nil, ↓opsW_d, ↓opW_assign, ↓resK_one]))
  exact hK h' X
theorem iFormatInt_ret {n : Int} {h : Heap} {K : Value → Heap → Prop} (ht : tabsOk tabs h = true) (hn : 2 < h.n) (b0 : -9223372036854775808 ≤ n) (b1 : n ≤ 9223372036854775807) (hK : ∀ h', ExtB h.n h h' → K (itoaV n) h') : Ret env (.func 83) [.int .i64 n, .int .i64 10] h K := by
  refine F83 rfl ?_
  by_cases hs : 0 ≤ n ∧ n < 100
  · obtain ⟨u, rfl⟩ := Int.eq_ofNat_of_zero_le hs.1
    repeat' (first | done | with_reducible (first | refine y1 ?_ (by omega) | refine y2 ?_ (by omega) | refine y3 (fun _ => ?_) (fun _ => ?_) | refine y4 ?_ (by omega) (by omega) | refine y5 ?_ (by omega) | refine y6 ?_ (by with_unfolding_all rfl) | refine y7 ?_ (by with_unfolding_all rfl) | refine y8 ?_ (by with_unfolding_all rfl) | refine y9 ?_ (by with_unfolding_all rfl) | refine ya ?_ (by with_unfolding_all rfl)) | (simp -dsimp only [↓cw_ops, ↓cw_seq, ↓cw_cond, ↓seqK_normal, ↓getK_same, ↓getK_ne, ↓evK_tmp, ↓evK_int, ↓evK_string, ↓condV_var, ↓gdV_var, ↓opsW_nil, ↓opsW_d, ↓opsW_gd, ↓opW_move, ↓opW_assign, ↓opW_pick, ↓opW_bin, ↓bin_eql, ↓bin_lss, ↓bin_leq, ↓evs_nil, ↓evs_cons, ↓opW_call, ↓setAll_cons, ↓setAll_nil, ↓r83_28_w, ↓s83_29_w, ↓s83_30_w, ↓r83_31_w, ↓s83_32_w, ↓s83_33_w, ↓s83_34_w, ↓r83_35_w, ↓s83_36_w, ↓s83_37_w, ↓r83_38_w, ↓s83_39_w, brK_true, ne_eq, Nat.reduceEqDiff, Nat.reduceAdd, not_false_eq_true, Nat.one_ne_zero]))
    refine small_ret (by omega) ?_
    unfold decV
    repeat' (first | done | with_reducible (first | refine y1 ?_ (by omega) | refine y2 ?_ (by omega) | refine y3 (fun _ => ?_) (fun _ => ?_) | refine y4 ?_ (by omega) (by omega) | refine y5 ?_ (by omega) | refine y6 ?_ (by with_unfolding_all rfl) | refine y7 ?_ (by with_unfolding_all rfl) | refine y8 ?_ (by with_unfolding_all rfl) | refine y9 ?_ (by with_unfolding_all rfl) | refine ya ?_ (by with_unfolding_all rfl)) | (simp -dsimp only [↓cw_ret, ↓seqK_normal, ↓seqK_ret, ↓getK_same, ↓evK_tmp, ↓opsW_nil, ↓opsW_d, ↓opW_assign, ↓resK_one]))
    have := hK h (ExtB.refl _ _)
    unfold itoaV at this
    rw [Lib.itoa_nonneg] at this
    exact this
  by_cases hneg : n < 0
  · obtain ⟨u, rfl⟩ : ∃ u : Nat, n = -(u : Int) := ⟨n.natAbs, by omega⟩
    have h1 : 1 ≤ u := by omega
    have h2 : u < 18446744073709551616 := by omega
    have h20 := nd_le h1 h2
    have wr : IntKind.wrap .u64 (0 - IntKind.wrap .u64 (-(u : Int))) = (u : Int) := by rw [IntKind.wrap_u64, IntKind.wrap_u64]; omega
    have w1 : IntKind.wrap .i64 (1 + (Lib.nDigits u : Int)) = ((1 + Lib.nDigits u : Nat) : Int) := by rw [wrap_i64 (by omega) (by omega)]; omega
    repeat' (first | done | with_reducible (first | refine y1 ?_ (by omega) | refine y2 ?_ (by omega) | refine y3 (fun _ => ?_) (fun _ => ?_) | refine y4 ?_ (by omega) (by omega) | refine y5 ?_ (by omega) | refine y6 ?_ (by with_unfolding_all rfl) | refine y7 ?_ (by with_unfolding_all rfl) | refine y8 ?_ (by with_unfolding_all rfl) | refine y9 ?_ (by with_unfolding_all rfl) | refine ya ?_ (by with_unfolding_all rfl)) | (simp -dsimp only [↓cw_skip, ↓cw_ops, ↓cw_seq, ↓cw_cond, ↓seqK_normal, ↓getK_same, ↓getK_ne, ↓evK_tmp, ↓evK_int, ↓evK_bool, ↓evK_string, ↓condV_var, ↓gdV_var, ↓opsW_nil, ↓opsW_d, ↓opsW_gd, ↓opW_move, ↓opW_assign, ↓opW_pick, ↓opW_bin, ↓bin_eql, ↓bin_lss, ↓bin_leq, ↓evs_nil, ↓evs_cons, ↓opW_call, ↓setAll_cons, ↓setAll_nil, ↓opW_un, ↓un_neg, ↓cint_int, ↓al_99, ↓cv_2_23, ↓r83_16_w, ↓s83_17_w, ↓r83_18_w, ↓s83_19_w, ↓s83_20_w, ↓r83_21_w, ↓s83_22_w, ↓s83_23_w, ↓r83_24_w, ↓s83_25_w, ↓r83_26_w, ↓s83_27_w, ↓s83_30_w, ↓r83_31_w, ↓s83_32_w, ↓s83_33_w, ↓s83_34_w, ↓r83_35_w, ↓s83_36_w, ↓s83_37_w, ↓r83_38_w, ↓s83_39_w, brK_true, brK_false, ne_eq, Nat.reduceEqDiff, Nat.reduceAdd, not_false_eq_true, Nat.one_ne_zero, Bool.false_eq_true,  wr]))
    have X1 : ExtB h.n h (newBlk h (.cells zeros24 99 true)) := ExtB.new _ (Nat.le_refl _)
    have hb1 : (newBlk h (.cells zeros24 99 true)).b.get h.n = some (.cells zeros24 99 true) := newBlk_same _ _
    have hn1 : (newBlk h (.cells zeros24 99 true)).n = h.n + 1 := rfl
    show Ret env (.func 85) [.int .u64 u] (newBlk h (.cells zeros24 99 true)) _
    generalize newBlk h (.cells zeros24 99 true) = h1' at X1 hb1 hn1 ⊢
    refine numDigits_ret (tabs_ext hn X1 ht) (by omega) h1 h2 ?_
    repeat' (first | done | with_reducible (first | refine y1 ?_ (by omega) | refine y2 ?_ (by omega) | refine y3 (fun _ => ?_) (fun _ => ?_) | refine y4 ?_ (by omega) (by omega) | refine y5 ?_ (by omega) | refine y6 ?_ (by with_unfolding_all rfl) | refine y7 ?_ (by with_unfolding_all rfl) | refine y8 ?_ (by with_unfolding_all rfl) | refine y9 ?_ (by with_unfolding_all rfl) | refine ya ?_ (by with_unfolding_all rfl)) | (simp -dsimp only [↓cw_ops, ↓cw_seq, ↓seqK_normal, ↓getK_same, ↓getK_ne, ↓evK_tmp, ↓evK_int, ↓opsW_nil, ↓opsW_d, ↓opW_move, ↓opW_assign, ↓opW_bin, ↓bin_add, ↓opW_slice, ↓evo_none, ↓evo_some, ↓r83_14_w, ↓s83_15_w, ne_eq, Nat.reduceEqDiff, not_false_eq_true, w1]))
    refine slice_arr1 (lo := 1) arr99 (by omega) (by omega) (by decide) (by decide) ?_
    rw [Nat.add_sub_cancel_left]
    repeat' (first | done | with_reducible (first | refine y1 ?_ (by omega) | refine y2 ?_ (by omega) | refine y3 (fun _ => ?_) (fun _ => ?_) | refine y4 ?_ (by omega) (by omega) | refine y5 ?_ (by omega) | refine y6 ?_ (by with_unfolding_all rfl) | refine y7 ?_ (by with_unfolding_all rfl) | refine y8 ?_ (by with_unfolding_all rfl) | refine y9 ?_ (by with_unfolding_all rfl) | refine ya ?_ (by with_unfolding_all rfl)) | (simp -dsimp only [↓getK_same, ↓getK_ne, ↓evK_tmp, ↓opsW_d, ↓opW_move, ↓evs_nil, ↓evs_cons, ↓opW_call, ne_eq, Nat.reduceEqDiff, not_false_eq_true, wr]))
    refine fmt_ret (off := 0 + 1 * 1) hb1 (by omega) (by decide) (by show _ ≤ 24; omega) (zeros24_byte _ _) (fmt_pow u) h2 (by omega) ?_
    generalize hcs : zeros24.take (0 + 1 * 1) ++ digs u (Lib.nDigits u) ++ zeros24.drop (0 + 1 * 1 + Lib.nDigits u) = cs
    have hc0 : cs = .int .u8 0 :: (digs u (Lib.nDigits u) ++ zeros24.drop (0 + 1 * 1 + Lib.nDigits u)) := by rw [← hcs]; rfl
    repeat' (first | done | with_reducible (first | refine y1 ?_ (by omega) | refine y2 ?_ (by omega) | refine y3 (fun _ => ?_) (fun _ => ?_) | refine y4 ?_ (by omega) (by omega) | refine y5 ?_ (by omega) | refine y6 ?_ (by with_unfolding_all rfl) | refine y7 ?_ (by with_unfolding_all rfl) | refine y8 ?_ (by with_unfolding_all rfl) | refine y9 ?_ (by with_unfolding_all rfl) | refine ya ?_ (by with_unfolding_all rfl)) | (simp -dsimp only [↓cw_ops, ↓cw_seq, ↓cw_cond, ↓seqK_normal, ↓getK_same, ↓getK_ne, ↓evK_tmp, ↓evK_int, ↓condV_var, ↓opsW_nil, ↓opsW_d, ↓opsW_n, ↓opW_move, ↓opW_bin, ↓bin_lss, ↓setAll_cons, ↓setAll_nil, ↓idxA_some, ↓ia_99, ↓st_5, ↓r83_8_w, ↓s83_9_w, ↓s83_10_w, ↓r83_11_w, ↓s83_12_w, ↓s83_13_w, brK_true, ne_eq, Nat.reduceEqDiff, Nat.reduceAdd, not_false_eq_true, Nat.one_ne_zero, Nat.add_zero, Addr.add_lit, Int.toNat_zero, Nat.zero_mul]))
    refine st_at (off := 0) (cs' := .int .u8 45 :: (digs u (Lib.nDigits u) ++ zeros24.drop (0 + 1 * 1 + Lib.nDigits u))) (T.get_set_same _ _ _) rfl rfl (by rw [hc0]; exact over_hd) rfl (by decide) ?_
    repeat' (first | done | with_reducible (first | refine y1 ?_ (by omega) | refine y2 ?_ (by omega) | refine y3 (fun _ => ?_) (fun _ => ?_) | refine y4 ?_ (by omega) (by omega) | refine y5 ?_ (by omega) | refine y6 ?_ (by with_unfolding_all rfl) | refine y7 ?_ (by with_unfolding_all rfl) | refine y8 ?_ (by with_unfolding_all rfl) | refine y9 ?_ (by with_unfolding_all rfl) | refine ya ?_ (by with_unfolding_all rfl)) | (simp -dsimp only [↓cw_ops, ↓cw_seq, ↓seqK_normal, ↓getK_same, ↓getK_ne, ↓evK_tmp, ↓evK_int, ↓opsW_nil, ↓opsW_d, ↓opW_move, ↓opW_bin, ↓bin_add, ↓opW_slice, ↓evo_none, ↓evo_some, ↓r83_6_w, ↓s83_7_w, ne_eq, Nat.reduceEqDiff, not_false_eq_true, w1]))
    refine slice_arr0 arr99 (by omega) (by decide) (by decide) ?_
    repeat' (first | done | with_reducible (first | refine y1 ?_ (by omega) | refine y2 ?_ (by omega) | refine y3 (fun _ => ?_) (fun _ => ?_) | refine y4 ?_ (by omega) (by omega) | refine y5 ?_ (by omega) | refine y6 ?_ (by with_unfolding_all rfl) | refine y7 ?_ (by with_unfolding_all rfl) | refine y8 ?_ (by with_unfolding_all rfl) | refine y9 ?_ (by with_unfolding_all rfl) | refine ya ?_ (by with_unfolding_all rfl)) | (simp -dsimp only [↓getK_same, ↓evK_tmp, ↓opsW_d, ↓cv_87_9]))
    refine bstr_of (l := 45 :: Lib.decDigits u) ?_ ?_
    · rw [T.set_set]
      refine cells_set (by omega) ?_ ?_
      · rw [List.drop_zero, Nat.add_comm, List.take_succ_cons, List.take_left' (digs_len _ _), digs_bytes]
        rfl
      · rw [List.length_map, List.length_cons, Lib.decDigits_length, Nat.add_comm]
    · repeat' (first | done | with_reducible (first | refine y1 ?_ (by omega) | refine y2 ?_ (by omega) | refine y3 (fun _ => ?_) (fun _ => ?_) | refine y4 ?_ (by omega) (by omega) | refine y5 ?_ (by omega) | refine y6 ?_ (by with_unfolding_all rfl) | refine y7 ?_ (by with_unfolding_all rfl) | refine y8 ?_ (by with_unfolding_all rfl) | refine y9 ?_ (by with_unfolding_all rfl) | refine ya ?_ (by with_unfolding_all rfl)) | (simp -dsimp only [↓cw_ret, ↓seqK_normal, ↓seqK_ret, ↓getK_same, ↓evK_tmp, ↓opsW_nil, ↓opsW_d, ↓opW_assign, ↓resK_one]))
      have := hK { h1' with b := h1'.b.set h.n (.cells (.int .u8 45 :: (digs u (Lib.nDigits u) ++ zeros24.drop (0 + 1 * 1 + Lib.nDigits u))) 99 true) } (X1.trans (ExtB.set _ (Nat.le_refl _)))
      unfold itoaV at this
      rw [Lib.itoa_neg u h1] at this
      rw [T.set_set]
      exact this
  · obtain ⟨u, rfl⟩ : ∃ u : Nat, n = u := ⟨n.toNat, by omega⟩
    have h1 : 1 ≤ u := by omega
    have h2 : u < 18446744073709551616 := by omega
    have h20 := nd_le h1 h2
    have wr : IntKind.wrap .u64 (u : Int) = (u : Int) := by rw [IntKind.wrap_u64]; omega
    have w1 : IntKind.wrap .i64 (1 + (Lib.nDigits u : Int)) = ((1 + Lib.nDigits u : Nat) : Int) := by rw [wrap_i64 (by omega) (by omega)]; omega
    repeat' (first | done | with_reducible (first | refine y1 ?_ (by omega) | refine y2 ?_ (by omega) | refine y3 (fun _ => ?_) (fun _ => ?_) | refine y4 ?_ (by omega) (by omega) | refine y5 ?_ (by omega) | refine y6 ?_ (by with_unfolding_all rfl) | refine y7 ?_ (by with_unfolding_all rfl) | refine y8 ?_ (by with_unfolding_all rfl) | refine y9 ?_ (by with_unfolding_all rfl) | refine ya ?_ (by with_unfolding_all rfl)) | (simp -dsimp only [↓cw_skip, ↓cw_ops, ↓cw_seq, ↓cw_cond, ↓seqK_normal, ↓getK_same, ↓getK_ne, ↓evK_tmp, ↓evK_int, ↓evK_string, ↓condV_var, ↓gdV_var, ↓opsW_nil, ↓opsW_d, ↓opsW_gd, ↓opW_move, ↓opW_assign, ↓opW_pick, ↓opW_bin, ↓bin_eql, ↓bin_lss, ↓bin_leq, ↓evs_nil, ↓evs_cons, ↓opW_call, ↓setAll_cons, ↓setAll_nil, ↓cint_int, ↓al_99, ↓cv_2_23, ↓r83_16_w, ↓s83_17_w, ↓s83_20_w, ↓r83_21_w, ↓s83_22_w, ↓s83_23_w, ↓r83_24_w, ↓s83_25_w, ↓r83_26_w, ↓s83_27_w, ↓s83_30_w, ↓r83_31_w, ↓s83_32_w, ↓s83_33_w, ↓s83_34_w, ↓r83_35_w, ↓s83_36_w, ↓s83_37_w, ↓r83_38_w, ↓s83_39_w, brK_true, brK_false, ne_eq, Nat.reduceEqDiff, Nat.reduceAdd, not_false_eq_true, Nat.one_ne_zero, Bool.false_eq_true,  wr]))
    have X1 : ExtB h.n h (newBlk h (.cells zeros24 99 true)) := ExtB.new _ (Nat.le_refl _)
    have hb1 : (newBlk h (.cells zeros24 99 true)).b.get h.n = some (.cells zeros24 99 true) := newBlk_same _ _
    have hn1 : (newBlk h (.cells zeros24 99 true)).n = h.n + 1 := rfl
    show Ret env (.func 85) [.int .u64 u] (newBlk h (.cells zeros24 99 true)) _
    generalize newBlk h (.cells zeros24 99 true) = h1' at X1 hb1 hn1 ⊢
    refine numDigits_ret (tabs_ext hn X1 ht) (by omega) h1 h2 ?_
    repeat' (first | done | with_reducible (first | refine y1 ?_ (by omega) | refine y2 ?_ (by omega) | refine y3 (fun _ => ?_) (fun _ => ?_) | refine y4 ?_ (by omega) (by omega) | refine y5 ?_ (by omega) | refine y6 ?_ (by with_unfolding_all rfl) | refine y7 ?_ (by with_unfolding_all rfl) | refine y8 ?_ (by with_unfolding_all rfl) | refine y9 ?_ (by with_unfolding_all rfl) | refine ya ?_ (by with_unfolding_all rfl)) | (simp -dsimp only [↓cw_ops, ↓cw_seq, ↓seqK_normal, ↓getK_same, ↓getK_ne, ↓evK_tmp, ↓evK_int, ↓opsW_nil, ↓opsW_d, ↓opW_move, ↓opW_assign, ↓opW_bin, ↓bin_add, ↓opW_slice, ↓evo_none, ↓evo_some, ↓r83_14_w, ↓s83_15_w, ne_eq, Nat.reduceEqDiff, not_false_eq_true, w1]))
    refine slice_arr1 (lo := 1) arr99 (by omega) (by omega) (by decide) (by decide) ?_
    rw [Nat.add_sub_cancel_left]
    repeat' (first | done | with_reducible (first | refine y1 ?_ (by omega) | refine y2 ?_ (by omega) | refine y3 (fun _ => ?_) (fun _ => ?_) | refine y4 ?_ (by omega) (by omega) | refine y5 ?_ (by omega) | refine y6 ?_ (by with_unfolding_all rfl) | refine y7 ?_ (by with_unfolding_all rfl) | refine y8 ?_ (by with_unfolding_all rfl) | refine y9 ?_ (by with_unfolding_all rfl) | refine ya ?_ (by with_unfolding_all rfl)) | (simp -dsimp only [↓getK_same, ↓getK_ne, ↓evK_tmp, ↓opsW_d, ↓opW_move, ↓evs_nil, ↓evs_cons, ↓opW_call, ne_eq, Nat.reduceEqDiff, not_false_eq_true, wr]))
    refine fmt_ret (off := 0 + 1 * 1) hb1 (by omega) (by decide) (by show _ ≤ 24; omega) (zeros24_byte _ _) (fmt_pow u) h2 (by omega) ?_
    repeat' (first | done | with_reducible (first | refine y1 ?_ (by omega) | refine y2 ?_ (by omega) | refine y3 (fun _ => ?_) (fun _ => ?_) | refine y4 ?_ (by omega) (by omega) | refine y5 ?_ (by omega) | refine y6 ?_ (by with_unfolding_all rfl) | refine y7 ?_ (by with_unfolding_all rfl) | refine y8 ?_ (by with_unfolding_all rfl) | refine y9 ?_ (by with_unfolding_all rfl) | refine ya ?_ (by with_unfolding_all rfl)) | (simp -dsimp only [↓cw_skip, ↓cw_ops, ↓cw_seq, ↓cw_cond, ↓seqK_normal, ↓getK_same, ↓getK_ne, ↓evK_tmp, ↓evK_int, ↓condV_var, ↓opsW_nil, ↓opsW_d, ↓opW_move, ↓opW_bin, ↓bin_add, ↓bin_lss, ↓setAll_cons, ↓setAll_nil, ↓opW_slice, ↓evo_none, ↓evo_some, ↓r83_4_w, ↓s83_5_w, ↓s83_10_w, ↓r83_11_w, ↓s83_12_w, ↓s83_13_w, brK_false, ne_eq, Nat.reduceEqDiff, Nat.reduceAdd, not_false_eq_true, Nat.one_ne_zero, Bool.false_eq_true,  w1]))
    refine slice_arr1 (lo := 1) arr99 (by omega) (by omega) (by decide) (by decide) ?_
    rw [Nat.add_sub_cancel_left]
    repeat' (first | done | with_reducible (first | refine y1 ?_ (by omega) | refine y2 ?_ (by omega) | refine y3 (fun _ => ?_) (fun _ => ?_) | refine y4 ?_ (by omega) (by omega) | refine y5 ?_ (by omega) | refine y6 ?_ (by with_unfolding_all rfl) | refine y7 ?_ (by with_unfolding_all rfl) | refine y8 ?_ (by with_unfolding_all rfl) | refine y9 ?_ (by with_unfolding_all rfl) | refine ya ?_ (by with_unfolding_all rfl)) | (simp -dsimp only [↓getK_same, ↓evK_tmp, ↓opsW_d, ↓cv_87_9]))
    refine bstr_of (l := Lib.decDigits u) ?_ ?_
    · refine cells_set (by omega) ?_ ?_
      · show ((Value.int .u8 0 :: (digs u (Lib.nDigits u) ++ zeros24.drop (0 + 1 * 1 + Lib.nDigits u))).drop 1).take _ = _
        rw [List.drop_succ_cons, List.drop_zero, List.take_left' (digs_len _ _), digs_bytes]
      · rw [List.length_map, Lib.decDigits_length]
    · repeat' (first | done | with_reducible (first | refine y1 ?_ (by omega) | refine y2 ?_ (by omega) | refine y3 (fun _ => ?_) (fun _ => ?_) | refine y4 ?_ (by omega) (by omega) | refine y5 ?_ (by omega) | refine y6 ?_ (by with_unfolding_all rfl) | refine y7 ?_ (by with_unfolding_all rfl) | refine y8 ?_ (by with_unfolding_all rfl) | refine y9 ?_ (by with_unfolding_all rfl) | refine ya ?_ (by with_unfolding_all rfl)) | (simp -dsimp only [↓cw_ret, ↓seqK_normal, ↓seqK_ret, ↓getK_same, ↓evK_tmp, ↓opsW_nil, ↓opsW_d, ↓opW_assign, ↓resK_one]))
      have := hK { h1' with b := h1'.b.set h.n (.cells (zeros24.take (0 + 1 * 1) ++ digs u (Lib.nDigits u) ++ zeros24.drop (0 + 1 * 1 + Lib.nDigits u)) 99 true) } (X1.trans (ExtB.set _ (Nat.le_refl _)))
      unfold itoaV at this
      rw [Lib.itoa_nonneg] at this
      exact this
theorem Itoa_ret {n : Int} {h : Heap} {K : Value → Heap → Prop} (ht : tabsOk tabs h = true) (hn : 2 < h.n) (b0 : -9223372036854775808 ≤ n) (b1 : n ≤ 9223372036854775807) (hK : ∀ h', ExtB h.n h h' → K (itoaV n) h') : Ret env (.func 49) [.int .i64 n] h K := by
  refine F49 rfl ?_
  repeat' (first | done | with_reducible (first | refine y1 ?_ (by omega) | refine y2 ?_ (by omega) | refine y3 (fun _ => ?_) (fun _ => ?_) | refine y4 ?_ (by omega) (by omega) | refine y5 ?_ (by omega) | refine y6 ?_ (by with_unfolding_all rfl) | refine y7 ?_ (by with_unfolding_all rfl) | refine y8 ?_ (by with_unfolding_all rfl) | refine y9 ?_ (by with_unfolding_all rfl) | refine ya ?_ (by with_unfolding_all rfl)) | (simp -dsimp only [↓cw_ops, ↓cw_seq, ↓seqK_normal, ↓getK_same, ↓getK_ne, ↓evK_tmp, ↓evK_string, ↓opsW_nil, ↓opsW_d, ↓opW_move, ↓opW_assign, ↓evs_nil, ↓evs_cons, ↓opW_call, ↓setAll_cons, ↓setAll_nil, ↓r49_0_w, ↓s49_1_w, ↓r49_2_w, ↓s49_3_w, ne_eq, Nat.reduceEqDiff, not_false_eq_true]))
  refine F66 rfl ?_
  repeat' (first | done | with_reducible (first | refine y1 ?_ (by omega) | refine y2 ?_ (by omega) | refine y3 (fun _ => ?_) (fun _ => ?_) | refine y4 ?_ (by omega) (by omega) | refine y5 ?_ (by omega) | refine y6 ?_ (by with_unfolding_all rfl) | refine y7 ?_ (by with_unfolding_all rfl) | refine y8 ?_ (by with_unfolding_all rfl) | refine y9 ?_ (by with_unfolding_all rfl) | refine ya ?_ (by with_unfolding_all rfl)) | (simp -dsimp only [↓cw_ops, ↓cw_seq, ↓seqK_normal, ↓getK_same, ↓getK_ne, ↓evK_tmp, ↓evK_int, ↓evK_string, ↓opsW_nil, ↓opsW_d, ↓opW_move, ↓opW_assign, ↓evs_nil, ↓evs_cons, ↓opW_call, ↓setAll_cons, ↓setAll_nil, ↓r66_0_w, ↓s66_1_w, ↓r66_2_w, ↓s66_3_w, ne_eq, Nat.reduceEqDiff, not_false_eq_true]))
  refine iFormatInt_ret ht hn b0 b1 fun h' X => ?_
  unfold itoaV
  repeat' (first | done | with_reducible (first | refine y1 ?_ (by omega) | refine y2 ?_ (by omega) | refine y3 (fun _ => ?_) (fun _ => ?_) | refine y4 ?_ (by omega) (by omega) | refine y5 ?_ (by omega) | refine y6 ?_ (by with_unfolding_all rfl) | refine y7 ?_ (by with_unfolding_all rfl) | refine y8 ?_ (by with_unfolding_all rfl) | refine y9 ?_ (by with_unfolding_all rfl) | refine ya ?_ (by with_unfolding_all rfl)) | (simp -dsimp only [↓cw_ret, ↓seqK_normal, ↓getK_same, ↓evK_tmp, ↓opsW_nil, ↓opsW_d, ↓opW_assign, ↓resK_one]))
  exact hK h' X
end Go.Proofs.YtjcmcoabckkjoaaDoor.Li

