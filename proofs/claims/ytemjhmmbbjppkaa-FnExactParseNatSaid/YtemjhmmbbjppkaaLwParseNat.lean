/-
  The law FnExactParseNat: the program's function and the reference's return the same, the arguments are left as they were, and the result is memory of its own.
-/
import Derived.Test.YtemjhmmbbjppkaaArgs
import Derived.Deep.DeepCutAuto
import Derived.Deep.RegionHeld3
import Derived.Deep.DrawnRows
import Derived.Test.YtemjhmmbbjppkaaBoxes
import Derived.Test.YtemjhmmbbjppkaaParse
namespace Go.Proofs.Ytemjhmmbbjppkaa
set_option linter.unusedVariables false
open Go.ChangeShapes Go.WideShapes Go.ChangeAt Go.RowKit
open Go.ChangeMaps (open_string shut_string)
attribute [local go_sem ↓] Go.wp_at_zero Go.wp_at_succ
set_option maxRecDepth 100000 in
set_option maxHeartbeats 1000000 in
theorem walkParseNat (s0_0 : ByteArray) (w : World) (b0_0 : s0_0.size ≤ maxLen) :
    Calls Try.prog 4 #[.string s0_0] w fun e w' => e = .returned (.bool true) ∧ Old w w' := by
  by_cases hn0_0 : s0_0.size ≤ 1048576
  · skip
    have L_0_0 : Num.len (rParseNat s0_0) ≤ 1048576 := by have := rParseNat_len s0_0; omega
    have O := Old.refl w
    go_enter Try.func4, Try.ntmps4
    go_wp2_with fail
    refine (spec_ParseNat s0_0 _ b0_0).mono ?_
    rintro e w1 ⟨⟨A_w0_0, c_w0_0, rfl, R_w0_0⟩, o1⟩
    replace O := Old.trans O o1
    have z1 := o1.size
    clear o1
    have lim_w0_0 := R_w0_0.lim
    have low_w0_0 := Low.mono (lo' := w.heap.size + 0) R_w0_0.low (by first | exact Nat.le_refl _ | (simp <;> omega))
    go_wp2_with fail
    refine (impl_ParseNat s0_0 _ b0_0).mono ?_
    rintro e w2 ⟨⟨A_g0_0, c_g0_0, rfl, R_g0_0⟩, o2⟩
    replace R_w0_0 := Row.below R_w0_0 o2 (Nat.le_refl _)
    replace O := Old.trans O o2
    have z2 := o2.size
    clear o2
    have lim_g0_0 := R_g0_0.lim
    have low_g0_0 := Low.mono (lo' := w1.heap.size + 0) R_g0_0.low (by first | exact Nat.le_refl _ | (simp <;> omega))
    go_wp2_with fail
    refine (eqIntS_yes _ _ _ _ _ _ _ _ _ _ R_g0_0 R_w0_0 (fun _ _ => rfl) L_0_0).mono ?_
    rintro e w3 ⟨rfl, o3⟩
    replace R_w0_0 := Row.below R_w0_0 o3 (Nat.le_refl _)
    replace R_g0_0 := Row.below R_g0_0 o3 (Nat.le_refl _)
    replace O := Old.trans O o3
    have z3 := o3.size
    clear o3
    go_wp2_with fail
    refine (markIntS_any _ _ _ _ _ _ _ R_g0_0 L_0_0 (by omega) (by omega)).mono ?_
    rintro e w4 ⟨rfl, S_0, G_0⟩
    clear R_g0_0
    have R_g0_0 := S_0
    clear S_0
    replace R_w0_0 := Row.apart R_w0_0 G_0 lim_w0_0 low_w0_0 lim_g0_0 low_g0_0 (by omega)
    replace O := Below.grown O G_0 O.size (low_g0_0.own (by omega))
    have z4 := G_0.size
    clear G_0
    go_wp2_with fail
    refine (heldIntS_yes _ _ _ _ _ _ _ R_g0_0 (fun _ _ => rfl) L_0_0 (by omega) (by omega)).mono ?_
    rintro e w' ⟨rfl, rfl⟩
    go_wp2_with fail
    refine (impl_ParseNat s0_0 _ b0_0).mono ?_
    rintro e w5 ⟨⟨A_h0_0, c_h0_0, rfl, R_h0_0⟩, o5⟩
    replace R_w0_0 := Row.below R_w0_0 o5 (Nat.le_refl _)
    replace R_g0_0 := Row.below R_g0_0 o5 (Nat.le_refl _)
    replace O := Old.trans O o5
    have z5 := o5.size
    clear o5
    have lim_h0_0 := R_h0_0.lim
    have low_h0_0 := Low.mono (lo' := w4.heap.size + 0) R_h0_0.low (by first | exact Nat.le_refl _ | (simp <;> omega))
    go_wp2_with fail
    refine (eqIntS_yes _ _ _ _ _ _ _ _ _ _ R_h0_0 R_w0_0 (fun _ _ => rfl) L_0_0).mono ?_
    rintro e w6 ⟨rfl, o6⟩
    replace R_w0_0 := Row.below R_w0_0 o6 (Nat.le_refl _)
    replace R_g0_0 := Row.below R_g0_0 o6 (Nat.le_refl _)
    replace R_h0_0 := Row.below R_h0_0 o6 (Nat.le_refl _)
    replace O := Old.trans O o6
    have z6 := o6.size
    clear o6
    go_wp2_with fail
    refine (heldIntS_yes _ _ _ _ _ _ _ R_g0_0 (fun _ _ => rfl) L_0_0 (by omega) (by omega)).mono ?_
    rintro e w' ⟨rfl, rfl⟩
    go_wp2
    go_ret
    exact ⟨rfl, O⟩
  · go_enter Try.func4, Try.ntmps4
    go_wp2
    go_ret
    exact ⟨rfl, oldA⟩

set_option maxRecDepth 100000 in
theorem liftedParseNat (os : Os) (started : os.Started) (H : Type) (enc : TypeId × Value → H) :
    ReturnsInHanded {} Try.checked os 4 .any (Rows.fnExactParseNatSpec.pre6 enc Try.prog Try.f4 Rows.fnExactParseNatRow.domain false) (Rows.fnExactParseNatSpec.post enc Try.prog Try.f4 false true false false) := by
  refine returnsInHanded_of_change (C := Try.checked) ownKnob_none started (by kernel_rfl) Try.func4
    (ChangeSpec.witness6 (enc := enc) (C := Try.checked) false ⟨#[], #[.string ByteArray.empty], []⟩ 8 (by kernel_rfl) (by kernel_rfl) (by kernel_rfl) (by kernel_rfl)) ?_
  intro W base args ds gs before hval0 hW hcnd _
  have hval : ∀ (j : Nat) t v, Try.f4.params[j]? = some t → args[j]? = some v → Value.okWide Try.prog W .any base t v := hval0
  have hW' := hW
  obtain ⟨p, q, hA0, hV, rfl, hfz, hnd⟩ := hW
  have hA : DataW.TrodAll enc Try.prog W 0 (fun _ => true) true Try.f4.params.toList args.toList ds p := hA0
  rw [Try.params4] at hA hval
  obtain ⟨v0, vs0, d0, ds0, p0, q0, hargs, rfl, rfl, h0, r0⟩ := trodAll_cons hA
  obtain ⟨rfl, rfl, rfl⟩ := trodAll_nil r0
  obtain rfl : args = #[v0] := by cases args; simp_all
  obtain ⟨rfl, rfl⟩ := trodVars_none hV
  obtain ⟨s0, rfl, rfl, rfl, g0⟩ := open_string Try.underlying9 (hval 0 9 v0 rfl rfl) h0
  clear hA0 hval0
  refine (walkParseNat s0 W g0).mono fun e W' ⟨he, bel⟩ => ?_
  subst he
  exact ⟨_, rfl, _, _, _, [], _, [], hW', trodAll_mk1 (shut_bool Try.underlying4 _), (trodAll_cons_mk (shut_string Try.underlying9 g0) trodAll_mk0), rfl, bel.frame _, fun h => by cases h⟩

theorem inPlaceParseNat : (Rows.fnExactParseNatRow.inPlace == Try.prog.inPlace 4) = true := by kernel_rfl
theorem unfollowedParseNat : (Rows.fnExactParseNatRow.unfollowed == Try.prog.unfollowed 4) = true := by kernel_rfl
theorem recursesParseNat : (Rows.fnExactParseNatRow.recurses == Try.prog.recurses 4) = true := by kernel_rfl
theorem namedParseNat : (Rows.fnExactParseNatRow.named == Try.prog.varsNamed 4) = true := by kernel_rfl
theorem closedParseNat : joinedFacts Try.prog 4 Try.f4 Rows.fnExactParseNatSpec Rows.fnExactParseNatRow = true :=
  joined_of (by kernel_rfl) laidOut mapsRowed_yes (by kernel_rfl) (by kernel_rfl) (by kernel_rfl) stops_none (by kernel_rfl) knobs_none inPlaceParseNat unfollowedParseNat recursesParseNat namedParseNat
    (by kernel_rfl) (by kernel_rfl) (by kernel_rfl) (by kernel_rfl) (by kernel_rfl) (by kernel_rfl) (by kernel_rfl) (by kernel_rfl) (by kernel_rfl) plainKeys_yes (by kernel_rfl) (by kernel_rfl) stopsHeard_yes mayEnter_yes liftsFinal_no (by kernel_rfl) make_cut (by kernel_rfl)
    (by kernel_rfl) (by kernel_rfl) (by kernel_rfl) (by kernel_rfl) (by kernel_rfl)

/-- The statement. -/
theorem fnExactParseNat_holds : Rows.FnExactParseNatSaid :=
  OpenClaim.holds_of_wide 4 Try.f4 rfl rfl rfl rfl rfl rfl rfl ⟨rfl, rfl, rfl, rfl, rfl⟩ rfl rfl rfl rfl rfl (by kernel_rfl) Try.func4 closedParseNat
    (of_decide_eq_true (by kernel_rfl)) (by unfold Func.isWrapper; first | (rw [if_pos (by decide +kernel)]; kernel_rfl) | (rw [if_neg (by decide +kernel)]; exact ⟨rfl, rfl⟩))
    (fun os started H enc _ => liftedParseNat os started H enc)
end Go.Proofs.Ytemjhmmbbjppkaa
