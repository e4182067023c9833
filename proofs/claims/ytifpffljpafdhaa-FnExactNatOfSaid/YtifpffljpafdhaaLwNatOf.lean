/-
  The law FnExactNatOf: the program's function and the reference's return the same, the arguments are left as they were, and the result is memory of its own.
-/
import Derived.Test.YtifpffljpafdhaaArgs
import Derived.Test.YtifpffljpafdhaaNatInt
namespace Go.Proofs.Ytifpffljpafdhaa
set_option linter.unusedVariables false
open Go.ChangeShapes Go.WideShapes Go.ChangeAt Go.RowKit
open Go.ChangeMaps (open_string shut_string)
set_option maxRecDepth 100000 in
set_option maxHeartbeats 1000000 in
theorem walkNatOf (a0 : Int) (w : World) (b0 : -9223372036854775808 ≤ a0 ∧ a0 ≤ 9223372036854775807) :
    Calls Try.prog 7 #[.int .i64 a0] w fun e w' => e = .returned (.bool true) ∧ Old w w' := by
  have L_0 : Num.len (rNatOf a0) ≤ 1048576 := by have := rNatOf_len a0; omega
  have O := Old.refl w
  go_enter Try.func7, Try.ntmps7
  go_wp2_with fail
  refine (spec_NatOf a0 _ b0 ).mono ?_
  rintro e w1 ⟨⟨A_w0, c_w0, rfl, R_w0⟩, o1⟩
  replace O := Old.trans O o1
  have z1 := o1.size
  clear o1
  have lim_w0 := R_w0.lim
  have low_w0 := R_w0.low
  go_wp2_with fail
  refine (impl_NatOf a0 _ b0 ).mono ?_
  rintro e w2 ⟨⟨A_g0, c_g0, rfl, R_g0⟩, o2⟩
  replace R_w0 := Row.below R_w0 o2 (Nat.le_refl _)
  replace O := Old.trans O o2
  have z2 := o2.size
  clear o2
  have lim_g0 := R_g0.lim
  have low_g0 := R_g0.low
  go_wp2_with fail
  refine (eqIntS_yes _ _ _ _ _ _ _ _ _ _ R_g0 R_w0 (fun _ _ => rfl) L_0).mono ?_
  rintro e w3 ⟨rfl, o3⟩
  replace R_w0 := Row.below R_w0 o3 (Nat.le_refl _)
  replace R_g0 := Row.below R_g0 o3 (Nat.le_refl _)
  replace O := Old.trans O o3
  have z3 := o3.size
  clear o3
  go_wp2_with fail
  refine (markIntS_any _ _ _ _ _ _ _ R_g0 L_0 (by omega) (by omega)).mono ?_
  rintro e w4 ⟨rfl, R', G⟩
  clear R_g0
  have R_g0 := R'
  clear R'
  replace R_w0 := (by first | exact Row.older R_w0 G lim_w0 low_g0 (by omega) | exact Row.younger R_w0 G low_w0 lim_g0 (by omega) | exact Row.kept R_w0 G ap_g0 | exact Row.kept R_w0 G (fun a a' h h' e e' => (ap_g0 a' a h' h e' e).symm) : Row w4 _ _ _ _ _)
  replace O := Below.grown O G O.size (low_g0.own (by omega))
  have z4 := G.size
  clear G
  go_wp2_with fail
  refine (heldIntS_yes _ _ _ _ _ _ _ R_g0 (fun _ _ => by first | rfl | omega) L_0 (by omega) (by omega)).mono ?_
  rintro e w' ⟨rfl, rfl⟩
  go_wp2_with fail
  refine (impl_NatOf a0 _ b0 ).mono ?_
  rintro e w5 ⟨⟨A_h0, c_h0, rfl, R_h0⟩, o5⟩
  replace R_w0 := Row.below R_w0 o5 (Nat.le_refl _)
  replace R_g0 := Row.below R_g0 o5 (Nat.le_refl _)
  replace O := Old.trans O o5
  have z5 := o5.size
  clear o5
  have lim_h0 := R_h0.lim
  have low_h0 := R_h0.low
  go_wp2_with fail
  refine (eqIntS_yes _ _ _ _ _ _ _ _ _ _ R_h0 R_w0 (fun _ _ => rfl) L_0).mono ?_
  rintro e w6 ⟨rfl, o6⟩
  clear R_w0 lim_w0 low_w0
  clear R_h0 lim_h0 low_h0
  replace R_g0 := Row.below R_g0 o6 (Nat.le_refl _)
  replace O := Old.trans O o6
  have z6 := o6.size
  clear o6
  go_wp2_with fail
  refine (heldIntS_yes _ _ _ _ _ _ _ R_g0 (fun _ _ => by first | rfl | omega) L_0 (by omega) (by omega)).mono ?_
  rintro e w' ⟨rfl, rfl⟩
  go_wp2
  go_ret
  exact ⟨rfl, O⟩

set_option maxRecDepth 100000 in
theorem liftedNatOf (os : Os) (started : os.Started) (H : Type) (enc : TypeId × Value → H) :
    ReturnsInHanded {} Try.checked os 7 .any (Rows.fnExactNatOfSpec.pre6 enc Try.prog Try.f7 Rows.fnExactNatOfRow.domain false) (Rows.fnExactNatOfSpec.post enc Try.prog Try.f7 false true false false) := by
  refine returnsInHanded_of_change (C := Try.checked) ownKnob_none started (by kernel_rfl) Try.func7
    (ChangeSpec.witness6 (enc := enc) (C := Try.checked) false ⟨#[], #[.int .i64 0], []⟩ 8 (by kernel_rfl) (by kernel_rfl) (by kernel_rfl) (by kernel_rfl)) ?_
  intro W base args ds gs before hval0 hW hcnd _
  have hval : ∀ (j : Nat) t v, Try.f7.params[j]? = some t → args[j]? = some v → Value.okWide Try.prog W .any base t v := hval0
  have hW' := hW
  obtain ⟨p, q, hA0, hV, rfl, hfz, hnd⟩ := hW
  have hA : DataW.TrodAll enc Try.prog W 0 (fun _ => true) true Try.f7.params.toList args.toList ds p := hA0
  rw [Try.params7] at hA hval
  obtain ⟨v0, vs0, d0, ds0, p0, q0, hargs, rfl, rfl, h0, r0⟩ := trodAll_cons hA
  obtain ⟨rfl, rfl, rfl⟩ := trodAll_nil r0
  obtain rfl : args = #[v0] := by cases args; simp_all
  obtain ⟨rfl, rfl⟩ := trodVars_none hV
  obtain ⟨a0, rfl, rfl, rfl, wf0⟩ := open_int Try.underlying3 (hval 0 3 v0 rfl rfl) h0
  have g0 : -9223372036854775808 ≤ a0 ∧ a0 ≤ 9223372036854775807 := bounds_i64 wf0
  clear hA0 hval0
  refine (walkNatOf a0 W g0).mono fun e W' ⟨he, bel⟩ => ?_
  subst he
  exact ⟨_, rfl, _, _, _, [], _, [], hW', trodAll_mk1 (shut_bool Try.underlying4 _), (trodAll_cons_mk (shut_int Try.underlying3 wf0) trodAll_mk0), rfl, bel.frame _, fun h => by cases h⟩

theorem inPlaceNatOf : (Rows.fnExactNatOfRow.inPlace == Try.prog.inPlace 7) = true := by kernel_rfl
theorem unfollowedNatOf : (Rows.fnExactNatOfRow.unfollowed == Try.prog.unfollowed 7) = true := by kernel_rfl
theorem recursesNatOf : (Rows.fnExactNatOfRow.recurses == Try.prog.recurses 7) = true := by kernel_rfl
theorem namedNatOf : (Rows.fnExactNatOfRow.named == Try.prog.varsNamed 7) = true := by kernel_rfl
theorem closedNatOf : joinedFacts Try.prog 7 Try.f7 Rows.fnExactNatOfSpec Rows.fnExactNatOfRow = true :=
  joined_of (by kernel_rfl) laidOut mapsRowed_yes (by kernel_rfl) (by kernel_rfl) (by kernel_rfl) stops_none (by kernel_rfl) knobs_none inPlaceNatOf unfollowedNatOf recursesNatOf namedNatOf
    (by kernel_rfl) (by kernel_rfl) (by kernel_rfl) (by kernel_rfl) (by kernel_rfl) (by kernel_rfl) (by kernel_rfl) (by kernel_rfl) (by kernel_rfl) plainKeys_yes (by kernel_rfl) (by kernel_rfl) stopsHeard_yes mayEnter_yes liftsFinal_no (by kernel_rfl) make_cut (by kernel_rfl)
    (by kernel_rfl) (by kernel_rfl) (by kernel_rfl) (by kernel_rfl) (by kernel_rfl)

/-- The statement. -/
theorem fnExactNatOf_holds : Rows.FnExactNatOfSaid :=
  OpenClaim.holds_of_wide 7 Try.f7 rfl rfl rfl rfl rfl rfl rfl ⟨rfl, rfl, rfl, rfl, rfl⟩ rfl rfl rfl rfl rfl (by kernel_rfl) Try.func7 closedNatOf
    (of_decide_eq_true (by kernel_rfl)) (by unfold Func.isWrapper; first | (rw [if_pos (by decide +kernel)]; kernel_rfl) | (rw [if_neg (by decide +kernel)]; exact ⟨rfl, rfl⟩))
    (fun os started H enc _ => liftedNatOf os started H enc)
end Go.Proofs.Ytifpffljpafdhaa
