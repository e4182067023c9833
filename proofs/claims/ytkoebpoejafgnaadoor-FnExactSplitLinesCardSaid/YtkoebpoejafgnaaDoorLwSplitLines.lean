import Derived.Test.YtkoebpoejafgnaaDoorArgs
import Derived.Test.YtkoebpoejafgnaaDoorKnow
import Derived.Deep.DeepCutAuto
import Derived.Deep.RegionHeld3
import Derived.Deep.DrawnRows
import Derived.Test.YtkoebpoejafgnaaDoorBoxes
import Derived.Test.YtkoebpoejafgnaaDoorLawStrs
import Derived.Test.YtkoebpoejafgnaaDoorSplitLn
/-
  The law FnExactSplitLines: the program's function and the reference's return the same, the arguments are left as they were, and the result is memory of its own.
-/
namespace Go.Proofs.YtkoebpoejafgnaaDoor
set_option linter.unusedVariables false
open Go.ChangeShapes Go.WideShapes Go.ChangeAt Go.RowKit
open Go.ChangeMaps (open_string shut_string)
attribute [local go_sem ↓] Go.wp_at_zero Go.wp_at_succ
set_option maxRecDepth 100000 in
set_option maxHeartbeats 8000000 in
theorem walkSplitLines (s0_0 : ByteArray) (w : World) (b0_0 : s0_0.size ≤ maxLen) :
    Calls Tryd.prog 6 #[.string s0_0] w fun e w' => e = .returned (.bool true) ∧ Old w w' := by
  by_cases hn0_0 : s0_0.size ≤ 1048576
  · skip
    have L_0_0 : (rSplitLines s0_0).length ≤ 1048577 := by have := rSplitLines_len s0_0; omega
    have O := Old.refl w
    go_enter Tryd.func6, Tryd.ntmps6
    go_wp2_with fail
    refine (spec_SplitLines s0_0 _ hn0_0).mono ?_
    rintro e w1 ⟨⟨A_w0_0, c_w0_0, rfl, R_w0_0⟩, o1⟩
    replace O := Old.trans O o1
    have z1 := o1.size
    clear o1
    have lim_w0_0 := R_w0_0.lim
    have low_w0_0 := Low.mono (lo' := w.heap.size + 0) R_w0_0.low (by first | exact Nat.le_refl _ | (simp <;> omega))
    go_wp2_with fail
    refine (impl_SplitLines s0_0 _ hn0_0).mono ?_
    rintro e w2 ⟨⟨A_g0_0, c_g0_0, rfl, R_g0_0⟩, o2⟩
    replace R_w0_0 := SRow.below R_w0_0 o2 (Nat.le_refl _)
    replace O := Old.trans O o2
    have z2 := o2.size
    clear o2
    have lim_g0_0 := R_g0_0.lim
    have low_g0_0 := Low.mono (lo' := w1.heap.size + 0) R_g0_0.low (by first | exact Nat.le_refl _ | (simp <;> omega))
    go_wp2_with fail
    refine (eqStringS_yes _ _ _ _ _ _ _ _ _ _ R_g0_0 R_w0_0 (fun _ _ => rfl) L_0_0).mono ?_
    rintro e w3 ⟨rfl, o3⟩
    replace R_w0_0 := SRow.below R_w0_0 o3 (Nat.le_refl _)
    replace R_g0_0 := SRow.below R_g0_0 o3 (Nat.le_refl _)
    replace O := Old.trans O o3
    have z3 := o3.size
    clear o3
    go_wp2_with fail
    refine (markStringS_any _ _ _ _ _ _ _ R_g0_0 L_0_0 (by omega) (by omega)).mono ?_
    rintro e w4 ⟨rfl, S_0, G_0⟩
    clear R_g0_0
    have R_g0_0 := S_0
    clear S_0
    replace R_w0_0 := SRow.apart R_w0_0 G_0 lim_w0_0 low_w0_0 lim_g0_0 low_g0_0 (by omega)
    replace O := Below.grown O G_0 O.size (low_g0_0.own (by omega))
    have z4 := G_0.size
    clear G_0
    go_wp2_with fail
    refine (heldStringS_yes _ _ _ _ _ _ _ R_g0_0 (fun _ _ => rfl) L_0_0 (by omega) (by omega)).mono ?_
    rintro e w5 ⟨rfl, o5⟩
    replace R_w0_0 := SRow.below R_w0_0 o5 (Nat.le_refl _)
    replace R_g0_0 := SRow.below R_g0_0 o5 (Nat.le_refl _)
    replace O := Old.trans O o5
    have z5 := o5.size
    clear o5
    go_wp2_with fail
    refine (impl_SplitLines s0_0 _ hn0_0).mono ?_
    rintro e w6 ⟨⟨A_h0_0, c_h0_0, rfl, R_h0_0⟩, o6⟩
    replace R_w0_0 := SRow.below R_w0_0 o6 (Nat.le_refl _)
    replace R_g0_0 := SRow.below R_g0_0 o6 (Nat.le_refl _)
    replace O := Old.trans O o6
    have z6 := o6.size
    clear o6
    have lim_h0_0 := R_h0_0.lim
    have low_h0_0 := Low.mono (lo' := w5.heap.size + 0) R_h0_0.low (by first | exact Nat.le_refl _ | (simp <;> omega))
    go_wp2_with fail
    refine (eqStringS_yes _ _ _ _ _ _ _ _ _ _ R_h0_0 R_w0_0 (fun _ _ => rfl) L_0_0).mono ?_
    rintro e w7 ⟨rfl, o7⟩
    replace R_w0_0 := SRow.below R_w0_0 o7 (Nat.le_refl _)
    replace R_g0_0 := SRow.below R_g0_0 o7 (Nat.le_refl _)
    replace R_h0_0 := SRow.below R_h0_0 o7 (Nat.le_refl _)
    replace O := Old.trans O o7
    have z7 := o7.size
    clear o7
    go_wp2_with fail
    refine (heldStringS_yes _ _ _ _ _ _ _ R_g0_0 (fun _ _ => rfl) L_0_0 (by omega) (by omega)).mono ?_
    rintro e w8 ⟨rfl, o8⟩
    replace R_w0_0 := SRow.below R_w0_0 o8 (Nat.le_refl _)
    replace R_g0_0 := SRow.below R_g0_0 o8 (Nat.le_refl _)
    replace R_h0_0 := SRow.below R_h0_0 o8 (Nat.le_refl _)
    replace O := Old.trans O o8
    have z8 := o8.size
    clear o8
    go_wp2
    go_ret
    exact ⟨rfl, O⟩
  · go_enter Tryd.func6, Tryd.ntmps6
    go_wp2
    go_ret
    exact ⟨rfl, oldA⟩

set_option maxRecDepth 100000 in
theorem liftedSplitLines (os : Os) (started : os.Started) (H : Type) (enc : TypeId × Value → H) :
    ReturnsInHanded {} Tryd.checked os 6 .any (fun w args => (Rows.fnExactSplitLinesSpec.pre enc Tryd.prog Tryd.f6 Rows.fnExactSplitLinesRow.domain false w args ∧ laidMetH Tryd.prog Rows.fnExactSplitLinesRow.laid w) ∧ sizedMet enc Tryd.prog Tryd.f6 (OpenSpec.ofChange Rows.fnExactSplitLinesSpec) false w args)
      (Rows.fnExactSplitLinesSpec.post enc Tryd.prog Tryd.f6 false true false false) := by
  refine returnsInHanded_of_change_and (C := Tryd.checked) (X := (fun w _ => laidMetH Tryd.prog Rows.fnExactSplitLinesRow.laid w)) (fun _ _ _ hh h => h.of_heap hh) ownKnob_none started (by kernel_rfl) Tryd.func6
    (ChangeSpec.witness_shaped (enc := enc) (C := Tryd.checked) (X := (fun w _ => laidMetH Tryd.prog Rows.fnExactSplitLinesRow.laid w)) false (World.laidAll Tryd.prog os Rows.fnExactSplitLinesRow.laid) #[.string ByteArray.empty] 8 (World.laidAll_os _ _ _) (World.shaped_of_ZipB (by kernel_rfl) (by kernel_rfl)) (by kernel_rfl) (by kernel_rfl) (by kernel_rfl)
      (by show laidMetH Tryd.prog Rows.fnExactSplitLinesRow.laid _; rw [MakeChecks.laidMetH_plain _ _ _ (by kernel_rfl)]; exact laidMet_laidAll _ (by kernel_rfl) (by kernel_rfl))) ?_
  intro W base args ds gs before hval0 hW hcnd _ hL _
  have hval : ∀ (j : Nat) t v, Tryd.f6.params[j]? = some t → args[j]? = some v → Value.okWide Tryd.prog W .any base t v := hval0
  have hW' := hW
  obtain ⟨p, q, hA0, hV, rfl, hfz, hnd⟩ := hW
  have hA : DataW.TrodAll enc Tryd.prog W 0 (fun _ => true) true Tryd.f6.params.toList args.toList ds p := hA0
  rw [Tryd.params6] at hA hval
  obtain ⟨v0, vs0, d0, ds0, p0, q0, hargs, rfl, rfl, h0, r0⟩ := trodAll_cons hA
  obtain ⟨rfl, rfl, rfl⟩ := trodAll_nil r0
  obtain rfl : args = #[v0] := by cases args; simp_all
  obtain ⟨rfl, rfl⟩ := trodVars_none hV
  obtain ⟨s0, rfl, rfl, rfl, g0⟩ := open_string Tryd.underlying9 (hval 0 9 v0 rfl rfl) h0
  clear hA0 hval0
  refine (walkSplitLines s0 W g0).mono fun e W' ⟨he, bel⟩ => ?_
  subst he
  exact ⟨_, rfl, _, _, _, [], _, [], hW', trodAll_mk1 (shut_bool Tryd.underlying4 _), (trodAll_cons_mk (shut_string Tryd.underlying9 g0) trodAll_mk0), rfl, bel.frame _, fun h => by cases h⟩

theorem inPlaceSplitLines : (Rows.fnExactSplitLinesRow.inPlace == Tryd.prog.inPlace 6) = true := by kernel_rfl
theorem unfollowedSplitLines : (Rows.fnExactSplitLinesRow.unfollowed == Tryd.prog.unfollowed 6) = true := by kernel_rfl
theorem recursesSplitLines : (Rows.fnExactSplitLinesRow.recurses == Tryd.prog.recurses 6) = true := by kernel_rfl
theorem namedSplitLines : (Rows.fnExactSplitLinesRow.named == Tryd.prog.varsNamed 6) = true := by kernel_rfl
theorem closedSplitLines : joinedFacts Tryd.prog 6 Tryd.f6 Rows.fnExactSplitLinesSpec Rows.fnExactSplitLinesRow = true :=
  joined_of (by kernel_rfl) laidOut mapsRowed_yes (by kernel_rfl) (by kernel_rfl) (by kernel_rfl) stops_none (by kernel_rfl) knobs_none inPlaceSplitLines unfollowedSplitLines recursesSplitLines namedSplitLines
    (by kernel_rfl) (by kernel_rfl) (by kernel_rfl) (by kernel_rfl) (by kernel_rfl) (by kernel_rfl) (by kernel_rfl) (by kernel_rfl) (by kernel_rfl) plainKeys_yes (by kernel_rfl) (by kernel_rfl) stopsHeard_yes mayEnter_yes liftsFinal_no (by kernel_rfl) make_cut (by kernel_rfl)
    (by kernel_rfl) (by kernel_rfl) (by kernel_rfl) (by kernel_rfl) (by kernel_rfl)

/-- The statement. -/
theorem fnExactSplitLines_holds : Rows.FnExactSplitLinesSaid :=
  OpenClaim.holds_of_wide 6 Tryd.f6 rfl rfl rfl rfl rfl rfl rfl ⟨rfl, rfl, rfl, rfl, rfl⟩ rfl rfl rfl rfl rfl (by kernel_rfl) Tryd.func6 closedSplitLines
    (of_decide_eq_true (by kernel_rfl)) (by unfold Func.isWrapper; first | (rw [if_pos (by decide +kernel)]; kernel_rfl) | (rw [if_neg (by decide +kernel)]; exact ⟨rfl, rfl⟩))
    (fun os started H enc _ => liftedSplitLines os started H enc)
/-- The tied card. -/
theorem fnExactSplitLinesCard_holds : Rows.FnExactSplitLinesCardSaid :=
  Claim7.holds_tied_plain_at .later [] [.data, .pinned] true (true, "2ed6f013edc0a1dd32c40f312f03f1229820e2024ef8c38a3167b442211cc521") true
    fnExactSplitLines_holds (fun _ h => by cases h) (by kernel_rfl) (fun _ h => by cases h) fnExactSplitLines_row_tie rfl ⟨rfl, rfl⟩ (by kernel_rfl) rfl
    (fun f fn hf hfn => by
      obtain rfl : f = 6 := Option.some.inj ((show Tryd.prog.funcNamed "loop.example/g00811/laws.FnExactSplitLines" = some 6 by kernel_rfl).symm.trans hf) |>.symm
      obtain rfl : fn = Tryd.f6 := (Option.some.inj (Tryd.func6.symm.trans hfn)).symm
      exact ⟨by kernel_rfl, fun j t ht => by
        have hm : t ∈ Tryd.f6.params.toList := by rw [Array.getElem?_eq_some_iff] at ht; obtain ⟨h1, h2⟩ := ht; rw [← h2]; simp
        rw [Tryd.params6] at hm
        have hall : ([9] : List TypeId).all (fun t => Tryd.prog.wantsStandIn t == false) = true := by kernel_rfl
        exact eq_of_beq (List.all_eq_true.1 hall t hm)⟩)
    (by kernel_rfl)
end Go.Proofs.YtkoebpoejafgnaaDoor
