/- known() reckoned; the library's contracts as they are taken. Conditions: each theorem's own. -/
import Derived.Test.YtjcmcoabckkjoaaDoorSB
import Derived.Test.YtjcmcoabckkjoaaDoorSH
import Derived.Test.YtjcmcoabckkjoaaDoorLA
set_option linter.unusedSimpArgs false
set_option linter.unusedVariables false
namespace Go.Proofs.YtjcmcoabckkjoaaDoor.Li
open Go.Ev Go.RowKit
set_option maxRecDepth 100000
noncomputable def env0 : Env := envOf Tryd.prog 4 ext0
def isTrue : Option (Go.Value × Go.Ev.Heap) → Bool
  | some (.bool true, _) => true
  | _ => false
theorem of_isTrue {r : Option (Go.Value × Go.Ev.Heap)} (h : isTrue r = true) : ∃ h', r = some (.bool true, h') := by
  unfold isTrue at h
  split at h
  · exact ⟨_, rfl⟩
  · cases h
theorem reckoned : isTrue (callF env0 60 (.func 8) [] (heap0 tabs 4)) = true := by kernel_rfl
theorem tab_const : ∀ p ∈ tabs, p.2.all constOk0 = true := by
  have : tabs.all (fun p => p.2.all constOk0) = true := by decide
  exact fun p hp => List.all_eq_true.1 this p hp
theorem known_calls (w : World) (ht : TabW tabs 4 w) : Calls Tryd.prog 8 #[] w fun e w' => e = .returned (.bool true) ∧ Below w.heap.size w w' := by
  obtain ⟨h', e⟩ := of_isTrue reckoned
  exact tab_calls (E := env0) (envOK Tryd.prog 4 _ Na.mixed) (Na.nanText_ok 4) (namesOK Na.names_ok) tab_const rfl e w ht
theorem body8 : Tryd.f8.body.isSome = true := by kernel_rfl
theorem body86 : Tryd.f86.body.isSome = true := by kernel_rfl
theorem body84 : Tryd.f84.body.isSome = true := by kernel_rfl
theorem body103 : Tryd.f103.body.isSome = true := by kernel_rfl
theorem body55 : Tryd.f55.body.isSome = true := by kernel_rfl
theorem body51 : Tryd.f51.body.isSome = true := by kernel_rfl
theorem ok1 : ExtOK Tryd.prog (envOf Tryd.prog 4 ext1) := by
  obtain ⟨c, hc⟩ := Option.isSome_iff_exists.1 body86
  exact extFmt_ok (Na.nanText_ok 4) Tryd.func86 hc (namesOK Na.names_ok) fun blk off cap u d w hH h1 h2 h3 => Tryd.internal_strconv_formatBase10 blk off cap u d w hH h1 h2 h3
theorem one_int {ρ : Ren} {k : IntKind} {n : Int} {args' : Array Value} (ra : VRL ρ [.int k n] args'.toList) : args' = #[.int k n] := by
  obtain ⟨l⟩ := args'
  simp only at ra
  cases ra with
  | cons r1 t => cases r1; cases t; rfl
theorem ok2 : ExtOK Tryd.prog (envOf Tryd.prog 4 ext2) := by
  obtain ⟨c, hc⟩ := Option.isSome_iff_exists.1 body84
  refine extLib_ok ok1 Tryd.func84 hc (namesOK Na.names_ok) fun args h v e ρ w args' hr hg ra => ?_
  unfold smallG at e
  split at e
  · rename_i x
    rw [one_int ra]
    by_cases hx : 0 ≤ x ∧ x < 100
    · obtain ⟨i, rfl⟩ := Int.eq_ofNat_of_zero_le hx.1
      simp only [hx.1, hx.2, decide_true, Bool.and_self, cond_true, Option.some.injEq, Int.toNat_natCast] at e
      subst e
      exact (Tryd.internal_strconv_small i (by omega) w).mono fun e w' ⟨h1, h2⟩ => ⟨_, h1, .string _, by rw [h2]; exact Below.refl _ _⟩
    · have : (decide (0 ≤ x) && decide (x < 100)) = false := by
        simp only [Bool.and_eq_false_iff, decide_eq_false_iff_not]; omega
      rw [this] at e; cases e
  · cases e
theorem ok3 : ExtOK Tryd.prog (envOf Tryd.prog 4 ext3) := by
  obtain ⟨c, hc⟩ := Option.isSome_iff_exists.1 body103
  refine extLib_ok ok2 Tryd.func103 hc (namesOK Na.names_ok) fun args h v e ρ w args' hr hg ra => ?_
  unfold lenG at e
  split at e
  · rename_i x
    rw [one_int ra]
    by_cases hx : 0 ≤ x ∧ x ≤ 18446744073709551615
    · simp only [hx.1, hx.2, decide_true, Bool.and_self, cond_true, Option.some.injEq] at e
      subst e
      exact (Tryd.bits_Len64 x w hx.1 hx.2).mono fun e w' ⟨h1, h2⟩ => ⟨_, h1, .int _ _, by rw [h2]; exact Below.refl _ _⟩
    · have : (decide (0 ≤ x) && decide (x ≤ 18446744073709551615)) = false := by
        simp only [Bool.and_eq_false_iff, decide_eq_false_iff_not]; omega
      rw [this] at e; cases e
  · cases e
theorem tab_db : ∀ j, j < Lib.deBruijn64tab.length → dbs[j]? = some (.int .u8 (Lib.deBruijn64tab.getD j 0)) := by
  have : (List.range Lib.deBruijn64tab.length).all (fun j => match dbs[j]? with | some (.int .u8 n) => decide (n = (Lib.deBruijn64tab.getD j 0 : Nat)) | _ => false) = true := by decide
  intro j hj
  have := List.all_eq_true.1 this j (List.mem_range.2 hj)
  split at this
  · rename_i n e
    rw [e, of_decide_eq_true this]
  · cases this
theorem ok4 : ExtOK Tryd.prog (envOf Tryd.prog 4 ext4) := by
  obtain ⟨c, hc⟩ := Option.isSome_iff_exists.1 body55
  refine extLib_ok ok3 Tryd.func55 hc (namesOK Na.names_ok) fun args h v e ρ w args' hr hg ra => ?_
  unfold tzG at e
  split at e
  · rename_i x
    rw [one_int ra]
    by_cases hx : (0 ≤ x ∧ x < 18446744073709551616) ∧ tabsOk tabs h = true
    · obtain ⟨i, rfl⟩ := Int.eq_ofNat_of_zero_le hx.1.1
      simp only [hx.1.1, hx.1.2, hx.2, decide_true, Bool.and_self, cond_true, Option.some.injEq, Int.toNat_natCast] at e
      subst e
      exact (Any7.bits_TrailingZeros64 Tryd.lays29 i (by omega) w fun _ j hj => tabsOk_cell (ng := 4) hr hg hx.2 tab_const (p := (1, dbs)) (by simp [tabs]) (by decide) (tab_db j hj)).mono fun e w' ⟨h1, h2⟩ => ⟨_, h1, .int _ _, by rw [h2]; exact Below.refl _ _⟩
    · have : (decide (0 ≤ x) && decide (x < 18446744073709551616) && tabsOk tabs h) = false := by
        cases hb : tabsOk tabs h with
        | false => simp
        | true => simp only [hb, and_true] at hx; simp only [Bool.and_true, Bool.and_eq_false_iff, decide_eq_false_iff_not]; omega
      rw [this] at e; cases e
  · cases e
theorem ok5 : ExtOK Tryd.prog (envOf Tryd.prog 4 ext5) := by
  obtain ⟨c, hc⟩ := Option.isSome_iff_exists.1 body51
  refine extLib_ok ok4 Tryd.func51 hc (namesOK Na.names_ok) fun args h v e ρ w args' hr hg ra => ?_
  unfold joinG at e
  split at e
  · rename_i i o n c sep
    split at e
    · rename_i xs hxs
      cases hck : (Nat.blt i h.n && Nat.ble n c && Nat.blt c UNK && Nat.ble (Lib.join (xs.map (·.data.toList)) sep.data.toList).length 1000000 && Nat.ble 1 n && Nat.ble n 1000000) with
      | false => rw [hck] at e; cases e
      | true =>
        rw [hck] at e
        simp only [cond_true, Option.some.injEq] at e
        subst e
        simp only [Bool.and_eq_true, blt_eq, ble_eq, decide_eq_true_eq] at hck
        obtain ⟨⟨⟨⟨⟨hi, hnc⟩, hcu⟩, hlen⟩, h1n⟩, hn6⟩ := hck
        obtain ⟨l, hl, hsx⟩ := Option.bind_eq_some_iff.1 hxs
        obtain ⟨la⟩ := args'
        simp only at ra
        cases ra with
        | cons r1 t =>
          cases t with
          | cons r2 t =>
            cases t
            cases r2
            have hne : c ≠ UNK := by omega
            have hne2 : c ≠ UNK2 := by unfold UNK2; unfold UNK at hcu; omega
            cases r1 with
            | sliceU _ _ _ _ _ _ _ => exact absurd rfl hne
            | sliceE _ _ _ => exact absurd rfl hne2
            | @slice _ b c' _ _ _ hρ _ =>
              obtain ⟨l', hvl, hll, hcell⟩ := cellsAt_sim hr hρ hl
              have hlx := strs_get hsx
              have hxl : xs.length = n := by rw [← hll, hlx, List.length_map]
              have hlt := (hr.dom _ _ _ hρ).2
              subst hxl
              have := Tryd.strings_Join b o c xs sep w (fun j x hj => by
                have : l[j]? = some (.string x) := by rw [hlx, List.getElem?_map, hj]; rfl
                obtain ⟨v', ev, r⟩ := hvl.get j _ this
                cases r
                have := hcell j _ ev
                rw [Addr.add_lit] at this
                exact this) hlt (by omega) hnc (by omega)
              exact this.mono fun e w' ⟨h1, h2⟩ => ⟨_, h1, .string _, h2⟩
    · cases e
  · cases e
theorem body56 : Tryd.f56.body.isSome = true := by kernel_rfl
theorem body57 : Tryd.f57.body.isSome = true := by kernel_rfl
theorem body58 : Tryd.f58.body.isSome = true := by kernel_rfl
theorem two_str {ρ : Ren} {s p : ByteArray} {args' : Array Value} (ra : VRL ρ [.string s, .string p] args'.toList) : args' = #[.string s, .string p] := by
  obtain ⟨l⟩ := args'
  simp only at ra
  cases ra with
  | cons r1 t => cases r1; cases t with | cons r2 t => cases r2; cases t; rfl
theorem one_str {ρ : Ren} {s : ByteArray} {args' : Array Value} (ra : VRL ρ [.string s] args'.toList) : args' = #[.string s] := by
  obtain ⟨l⟩ := args'
  simp only at ra
  cases ra with
  | cons r1 t => cases r1; cases t; rfl
theorem ok6 : ExtOK Tryd.prog (envOf Tryd.prog 4 ext6) := by
  obtain ⟨c, hc⟩ := Option.isSome_iff_exists.1 body56
  refine extLib_ok ok5 Tryd.func56 hc (namesOK Na.names_ok) fun args h v e ρ w args' hr hg ra => ?_
  unfold cutPG at e
  split at e
  · rename_i s p
    rw [two_str ra]
    simp only [Option.some.injEq] at e
    subst e
    exact (Tryd.strings_CutPrefix s p w).mono fun e w' ⟨h1, h2⟩ => ⟨_, h1, .tuple _ _ (.cons (.string _) (.cons (.bool _) .nil)), by rw [h2]; exact Below.refl _ _⟩
  · cases e
theorem isI_of {o : Option Value} (h : isI o = true) : ∃ m, o = some (.int .i64 m) := by
  unfold isI at h
  split at h
  · exact ⟨_, rfl⟩
  · cases h
theorem ok7 : ExtOK Tryd.prog (envOf Tryd.prog 4 ext7) := by
  obtain ⟨c, hc⟩ := Option.isSome_iff_exists.1 body57
  refine extLib_ok ok6 Tryd.func57 hc (namesOK Na.names_ok) fun args h v e ρ w args' hr hg ra => ?_
  unfold cutG at e
  split at e
  · rename_i s p
    rw [two_str ra]
    cases hck : (Nat.blt s.size 4294967281 && isI (cellAt h ⟨3, 0, none⟩)) with
    | false => rw [hck] at e; cases e
    | true =>
      rw [hck] at e
      simp only [cond_true, Option.some.injEq] at e
      subst e
      simp only [Bool.and_eq_true, blt_eq, decide_eq_true_eq] at hck
      obtain ⟨m, hm⟩ := isI_of hck.2
      have hm : w.cell? ⟨3, 0, none⟩ = some (.int .i64 m) := by
        obtain ⟨c3, hc3⟩ := hg 3 (by decide)
        have hl : cellsAt h ⟨3, 0, none⟩ 1 = some [.int .i64 m] := by
          unfold cellAt at hm
          split at hm
          · rename_i v hv; rw [hv]; cases hm; rfl
          · cases hm
        obtain ⟨l', hvl, hll, hcell⟩ := cellsAt_sim hr hc3 hl
        obtain ⟨v', ev, r⟩ := hvl.get 0 _ rfl
        cases r
        have := hcell 0 _ ev
        rw [Addr.add_lit] at this
        exact this
      exact (Tryd.strings_Cut s p m w hck.1 hm).mono fun e w' ⟨h1, n, h2⟩ => ⟨_, h1, .tuple _ _ (.cons (.string _) (.cons (.string _) (.cons (.bool _) .nil))), by rw [h2]; exact ⟨rfl, rfl, rfl, Nat.le_refl _, fun _ _ => rfl⟩⟩
  · cases e
theorem ok8 : ExtOK Tryd.prog (envOf Tryd.prog 4 ext8) := by
  obtain ⟨c, hc⟩ := Option.isSome_iff_exists.1 body58
  refine extLib_ok ok7 Tryd.func58 hc (namesOK Na.names_ok) fun args h v e ρ w args' hr hg ra => ?_
  unfold atoiG at e
  split at e
  · rename_i s
    rw [one_str ra]
    split at e
    · rename_i n hn
      cases hck : Nat.ble s.size 18 with
      | false => rw [hck] at e; cases e
      | true =>
        rw [hck] at e
        simp only [cond_true, Option.some.injEq] at e
        subst e
        rw [ble_eq, decide_eq_true_eq] at hck
        exact (Tryd.strconv_Atoi s n hck hn w).mono fun e w' ⟨h1, t, h2⟩ => ⟨_, h1, .tuple _ _ (.cons (.int _ _) (.cons .nilIface .nil)), by rw [h2]; exact Go.Lib.bytesWorld_below _ _ _⟩
    · cases e
  · cases e
theorem ext_ok : ExtOK Tryd.prog env := by
  obtain ⟨c, hc⟩ := Option.isSome_iff_exists.1 body8
  exact extTab_ok ok8 rfl tab_const Tryd.func8 hc (namesOK Na.names_ok) known_calls
end Go.Proofs.YtjcmcoabckkjoaaDoor.Li

