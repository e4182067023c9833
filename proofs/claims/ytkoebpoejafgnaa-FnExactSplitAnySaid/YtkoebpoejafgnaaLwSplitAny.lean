import Derived.Test.YtkoebpoejafgnaaArgs
import Derived.Deep.DeepCutAuto
import Derived.Deep.RegionHeld3
import Derived.Deep.DrawnRows
import Derived.Test.YtkoebpoejafgnaaBoxes
import Derived.Test.YtkoebpoejafgnaaLawStrs
import Derived.Test.YtkoebpoejafgnaaSplit
/-
  The law FnExactSplitAny: the program's function and the reference's return the same, the arguments are left as they were, and the result is memory of its own.
-/
namespace Go.Proofs.Ytkoebpoejafgnaa
set_option linter.unusedVariables false
open Go.ChangeShapes Go.WideShapes Go.ChangeAt Go.RowKit
open Go.ChangeMaps (open_string shut_string)
attribute [local go_sem ↓] Go.wp_at_zero Go.wp_at_succ
set_option maxRecDepth 100000 in
set_option maxHeartbeats 1000000 in
theorem walkSplitAny (s0_0 : ByteArray) (s1_0 : ByteArray) (w : World) (b0_0 : s0_0.size ≤ maxLen) (b1_0 : s1_0.size ≤ maxLen) :
    Calls Try.prog 3 #[.string s0_0, .string s1_0] w fun e w' => e = .returned (.bool true) ∧ Old w w' := by
  by_cases hn0_0 : s0_0.size ≤ 1048576
  · skip
    by_cases hn1_0 : s1_0.size ≤ 1048576
    · skip
      have L_0_0 : (rSplitAny s0_0 s1_0).length ≤ 1048577 := by have := rSplitAny_len s0_0 s1_0; omega
      have O := Old.refl w
      go_enter Try.func3, Try.ntmps3
      go_wp2_with fail
      refine (spec_SplitAny s0_0 s1_0 _ hn0_0 hn1_0).mono ?_
      rintro e w1 ⟨⟨A_w0_0, c_w0_0, rfl, R_w0_0⟩, o1⟩
      replace O := Old.trans O o1
      have z1 := o1.size
      clear o1
      have lim_w0_0 := R_w0_0.lim
      have low_w0_0 := Low.mono (lo' := w.heap.size + 0) R_w0_0.low (by first | exact Nat.le_refl _ | (simp <;> omega))
      go_wp2_with fail
      refine (impl_SplitAny s0_0 s1_0 _ hn0_0 hn1_0).mono ?_
      rintro e w2 ⟨⟨A_g0_0, c_g0_0, rfl, R_g0_0⟩, o2⟩
      replace R_w0_0 := SRow.below R_w0_0 o2 (Nat.le_refl _)
      replace O := Old.trans O o2
      have z2 := o2.size
      clear o2
      have lim_g0_0 := R_g0_0.lim
      have low_g0_0 := Low.mono (lo' := w1.heap.size + 0) R_g0_0.low (by first | exact Nat.le_refl _ | (simp <;> omega))
      go_wp2_with fail
      refine (eqStringS_yes _ _ _ _ _ _ _ _ _ _ R_g0_0 R_w0_0 (fun _ _ => rfl) L_0_0).mono ?_
      rintro e w3 ⟨rfl, o3⟩
      replace R_w0_0 := SRow.below R_w0_0 o3 (Nat.le_refl _)
      replace R_g0_0 := SRow.below R_g0_0 o3 (Nat.le_refl _)
      replace O := Old.trans O o3
      have z3 := o3.size
      clear o3
      go_wp2_with fail
      refine (markStringS_any _ _ _ _ _ _ _ R_g0_0 L_0_0 (by omega) (by omega)).mono ?_
      rintro e w4 ⟨rfl, S_0, G_0⟩
      clear R_g0_0
      have R_g0_0 := S_0
      clear S_0
      replace R_w0_0 := SRow.apart R_w0_0 G_0 lim_w0_0 low_w0_0 lim_g0_0 low_g0_0 (by omega)
      replace O := Below.grown O G_0 O.size (low_g0_0.own (by omega))
      have z4 := G_0.size
      clear G_0
      go_wp2_with fail
      refine (heldStringS_yes _ _ _ _ _ _ _ R_g0_0 (fun _ _ => rfl) L_0_0 (by omega) (by omega)).mono ?_
      rintro e w5 ⟨rfl, o5⟩
      replace R_w0_0 := SRow.below R_w0_0 o5 (Nat.le_refl _)
      replace R_g0_0 := SRow.below R_g0_0 o5 (Nat.le_refl _)
      replace O := Old.trans O o5
      have z5 := o5.size
      clear o5
      go_wp2_with fail
      refine (impl_SplitAny s0_0 s1_0 _ hn0_0 hn1_0).mono ?_
      rintro e w6 ⟨⟨A_h0_0, c_h0_0, rfl, R_h0_0⟩, o6⟩
      replace R_w0_0 := SRow.below R_w0_0 o6 (Nat.le_refl _)
      replace R_g0_0 := SRow.below R_g0_0 o6 (Nat.le_refl _)
      replace O := Old.trans O o6
      have z6 := o6.size
      clear o6
      have lim_h0_0 := R_h0_0.lim
      have low_h0_0 := Low.mono (lo' := w5.heap.size + 0) R_h0_0.low (by first | exact Nat.le_refl _ | (simp <;> omega))
      go_wp2_with fail
      refine (eqStringS_yes _ _ _ _ _ _ _ _ _ _ R_h0_0 R_w0_0 (fun _ _ => rfl) L_0_0).mono ?_
      rintro e w7 ⟨rfl, o7⟩
      replace R_w0_0 := SRow.below R_w0_0 o7 (Nat.le_refl _)
      replace R_g0_0 := SRow.below R_g0_0 o7 (Nat.le_refl _)
      replace R_h0_0 := SRow.below R_h0_0 o7 (Nat.le_refl _)
      replace O := Old.trans O o7
      have z7 := o7.size
      clear o7
      go_wp2_with fail
      refine (heldStringS_yes _ _ _ _ _ _ _ R_g0_0 (fun _ _ => rfl) L_0_0 (by omega) (by omega)).mono ?_
      rintro e w8 ⟨rfl, o8⟩
      replace R_w0_0 := SRow.below R_w0_0 o8 (Nat.le_refl _)
      replace R_g0_0 := SRow.below R_g0_0 o8 (Nat.le_refl _)
      replace R_h0_0 := SRow.below R_h0_0 o8 (Nat.le_refl _)
      replace O := Old.trans O o8
      have z8 := o8.size
      clear o8
      go_wp2
      go_ret
      exact ⟨rfl, O⟩
    · go_enter Try.func3, Try.ntmps3
      go_wp2
      go_ret
      exact ⟨rfl, oldA⟩
  · go_enter Try.func3, Try.ntmps3
    go_wp2
    go_ret
    exact ⟨rfl, oldA⟩

set_option maxRecDepth 100000 in
theorem liftedSplitAny (os : Os) (started : os.Started) (H : Type) (enc : TypeId × Value → H) :
    ReturnsInHanded {} Try.checked os 3 .any (Rows.fnExactSplitAnySpec.pre6 enc Try.prog Try.f3 Rows.fnExactSplitAnyRow.domain false) (Rows.fnExactSplitAnySpec.post enc Try.prog Try.f3 false true false false) := by
  refine returnsInHanded_of_change (C := Try.checked) ownKnob_none started (by kernel_rfl) Try.func3
    (ChangeSpec.witness6 (enc := enc) (C := Try.checked) false ⟨#[], #[.string ByteArray.empty, .string ByteArray.empty], []⟩ 8 (by kernel_rfl) (by kernel_rfl) (by kernel_rfl) (by kernel_rfl)) ?_
  intro W base args ds gs before hval0 hW hcnd _
  have hval : ∀ (j : Nat) t v, Try.f3.params[j]? = some t → args[j]? = some v → Value.okWide Try.prog W .any base t v := hval0
  have hW' := hW
  obtain ⟨p, q, hA0, hV, rfl, hfz, hnd⟩ := hW
  have hA : DataW.TrodAll enc Try.prog W 0 (fun _ => true) true Try.f3.params.toList args.toList ds p := hA0
  rw [Try.params3] at hA hval
  obtain ⟨v0, vs0, d0, ds0, p0, q0, hargs, rfl, rfl, h0, r0⟩ := trodAll_cons hA
  obtain ⟨v1, vs1, d1, ds1, p1, q1, rfl, rfl, rfl, h1, r1⟩ := trodAll_cons r0
  obtain ⟨rfl, rfl, rfl⟩ := trodAll_nil r1
  obtain rfl : args = #[v0, v1] := by cases args; simp_all
  obtain ⟨rfl, rfl⟩ := trodVars_none hV
  obtain ⟨s0, rfl, rfl, rfl, g0⟩ := open_string Try.underlying9 (hval 0 9 v0 rfl rfl) h0
  obtain ⟨s1, rfl, rfl, rfl, g1⟩ := open_string Try.underlying9 (hval 1 9 v1 rfl rfl) h1
  clear hA0 hval0
  refine (walkSplitAny s0 s1 W g0 g1).mono fun e W' ⟨he, bel⟩ => ?_
  subst he
  exact ⟨_, rfl, _, _, _, [], _, [], hW', trodAll_mk1 (shut_bool Try.underlying4 _), (trodAll_cons_mk (shut_string Try.underlying9 g0) (trodAll_cons_mk (shut_string Try.underlying9 g1) trodAll_mk0)), rfl, bel.frame _, fun h => by cases h⟩

theorem inPlaceSplitAny : (Rows.fnExactSplitAnyRow.inPlace == Try.prog.inPlace 3) = true := by kernel_rfl
theorem unfollowedSplitAny : (Rows.fnExactSplitAnyRow.unfollowed == Try.prog.unfollowed 3) = true := by kernel_rfl
theorem recursesSplitAny : (Rows.fnExactSplitAnyRow.recurses == Try.prog.recurses 3) = true := by kernel_rfl
theorem namedSplitAny : (Rows.fnExactSplitAnyRow.named == Try.prog.varsNamed 3) = true := by kernel_rfl
theorem closedSplitAny : joinedFacts Try.prog 3 Try.f3 Rows.fnExactSplitAnySpec Rows.fnExactSplitAnyRow = true :=
  joined_of (by kernel_rfl) laidOut mapsRowed_yes (by kernel_rfl) (by kernel_rfl) (by kernel_rfl) stops_none (by kernel_rfl) knobs_none inPlaceSplitAny unfollowedSplitAny recursesSplitAny namedSplitAny
    (by kernel_rfl) (by kernel_rfl) (by kernel_rfl) (by kernel_rfl) (by kernel_rfl) (by kernel_rfl) (by kernel_rfl) (by kernel_rfl) (by kernel_rfl) plainKeys_yes (by kernel_rfl) (by kernel_rfl) stopsHeard_yes mayEnter_yes liftsFinal_no (by kernel_rfl) make_cut (by kernel_rfl)
    (by kernel_rfl) (by kernel_rfl) (by kernel_rfl) (by kernel_rfl) (by kernel_rfl)

/-- The statement. -/
theorem fnExactSplitAny_holds : Rows.FnExactSplitAnySaid :=
  OpenClaim.holds_of_wide 3 Try.f3 rfl rfl rfl rfl rfl rfl rfl ⟨rfl, rfl, rfl, rfl, rfl⟩ rfl rfl rfl rfl rfl (by kernel_rfl) Try.func3 closedSplitAny
    (of_decide_eq_true (by kernel_rfl)) (by unfold Func.isWrapper; first | (rw [if_pos (by decide +kernel)]; kernel_rfl) | (rw [if_neg (by decide +kernel)]; exact ⟨rfl, rfl⟩))
    (fun os started H enc _ => liftedSplitAny os started H enc)
end Go.Proofs.Ytkoebpoejafgnaa
