/-
  The law FnExactPadZeros: the program's function and the reference's return the same, the arguments are left as they were, and the result is memory of its own.
-/
import Derived.Test.YtemjhmmbbjppkaaArgs
import Derived.Deep.DeepCutAuto
import Derived.Deep.RegionHeld3
import Derived.Deep.DrawnRows
import Derived.Test.YtemjhmmbbjppkaaBoxes
import Derived.Test.YtemjhmmbbjppkaaPad
namespace Go.Proofs.Ytemjhmmbbjppkaa
set_option linter.unusedVariables false
open Go.ChangeShapes Go.WideShapes Go.ChangeAt Go.RowKit
open Go.ChangeMaps (open_string shut_string)
attribute [local go_sem ↓] Go.wp_at_zero Go.wp_at_succ
set_option maxRecDepth 100000 in
set_option maxHeartbeats 1000000 in
theorem walkPadZeros (s0_0 : ByteArray) (a1_0 : Int) (w : World) (b0_0 : s0_0.size ≤ maxLen) (b1_0 : -9223372036854775808 ≤ a1_0 ∧ a1_0 ≤ 9223372036854775807) :
    Calls Try.prog 8 #[.string s0_0, .int .i64 a1_0] w fun e w' => e = .returned (.bool true) ∧ Old w w' := by
  by_cases hn0_0 : s0_0.size ≤ 1048576
  · skip
    have O := Old.refl w
    go_enter Try.func8, Try.ntmps8
    go_wp2_with fail
    refine (spec_PadZeros s0_0 a1_0 _ b0_0 b1_0).mono ?_
    rintro e w1 ⟨rfl, o1⟩
    replace O := Old.trans O o1
    have z1 := o1.size
    clear o1
    go_wp2_with fail
    refine (impl_PadZeros s0_0 a1_0 _ b0_0 b1_0).mono ?_
    rintro e w2 ⟨rfl, o2⟩
    replace O := Old.trans O o2
    have z2 := o2.size
    clear o2
    go_wp2
    go_ret
    exact ⟨rfl, O⟩
  · go_enter Try.func8, Try.ntmps8
    go_wp2
    go_ret
    exact ⟨rfl, oldA⟩

set_option maxRecDepth 100000 in
theorem liftedPadZeros (os : Os) (started : os.Started) (H : Type) (enc : TypeId × Value → H) :
    ReturnsInHanded {} Try.checked os 8 .any (Rows.fnExactPadZerosSpec.pre6 enc Try.prog Try.f8 Rows.fnExactPadZerosRow.domain false) (Rows.fnExactPadZerosSpec.post enc Try.prog Try.f8 false true false false) := by
  refine returnsInHanded_of_change (C := Try.checked) ownKnob_none started (by kernel_rfl) Try.func8
    (ChangeSpec.witness6 (enc := enc) (C := Try.checked) false ⟨#[], #[.string ByteArray.empty, .int .i64 0], []⟩ 8 (by kernel_rfl) (by kernel_rfl) (by kernel_rfl) (by kernel_rfl)) ?_
  intro W base args ds gs before hval0 hW hcnd _
  have hval : ∀ (j : Nat) t v, Try.f8.params[j]? = some t → args[j]? = some v → Value.okWide Try.prog W .any base t v := hval0
  have hW' := hW
  obtain ⟨p, q, hA0, hV, rfl, hfz, hnd⟩ := hW
  have hA : DataW.TrodAll enc Try.prog W 0 (fun _ => true) true Try.f8.params.toList args.toList ds p := hA0
  rw [Try.params8] at hA hval
  obtain ⟨v0, vs0, d0, ds0, p0, q0, hargs, rfl, rfl, h0, r0⟩ := trodAll_cons hA
  obtain ⟨v1, vs1, d1, ds1, p1, q1, rfl, rfl, rfl, h1, r1⟩ := trodAll_cons r0
  obtain ⟨rfl, rfl, rfl⟩ := trodAll_nil r1
  obtain rfl : args = #[v0, v1] := by cases args; simp_all
  obtain ⟨rfl, rfl⟩ := trodVars_none hV
  obtain ⟨s0, rfl, rfl, rfl, g0⟩ := open_string Try.underlying9 (hval 0 9 v0 rfl rfl) h0
  obtain ⟨a1, rfl, rfl, rfl, wf1⟩ := open_int Try.underlying3 (hval 1 3 v1 rfl rfl) h1
  have g1 : -9223372036854775808 ≤ a1 ∧ a1 ≤ 9223372036854775807 := bounds_i64 wf1
  clear hA0 hval0
  refine (walkPadZeros s0 a1 W g0 g1).mono fun e W' ⟨he, bel⟩ => ?_
  subst he
  exact ⟨_, rfl, _, _, _, [], _, [], hW', trodAll_mk1 (shut_bool Try.underlying4 _), (trodAll_cons_mk (shut_string Try.underlying9 g0) (trodAll_cons_mk (shut_int Try.underlying3 wf1) trodAll_mk0)), rfl, bel.frame _, fun h => by cases h⟩

theorem inPlacePadZeros : (Rows.fnExactPadZerosRow.inPlace == Try.prog.inPlace 8) = true := by kernel_rfl
theorem unfollowedPadZeros : (Rows.fnExactPadZerosRow.unfollowed == Try.prog.unfollowed 8) = true := by kernel_rfl
theorem recursesPadZeros : (Rows.fnExactPadZerosRow.recurses == Try.prog.recurses 8) = true := by kernel_rfl
theorem namedPadZeros : (Rows.fnExactPadZerosRow.named == Try.prog.varsNamed 8) = true := by kernel_rfl
theorem closedPadZeros : joinedFacts Try.prog 8 Try.f8 Rows.fnExactPadZerosSpec Rows.fnExactPadZerosRow = true :=
  joined_of (by kernel_rfl) laidOut mapsRowed_yes (by kernel_rfl) (by kernel_rfl) (by kernel_rfl) stops_none (by kernel_rfl) knobs_none inPlacePadZeros unfollowedPadZeros recursesPadZeros namedPadZeros
    (by kernel_rfl) (by kernel_rfl) (by kernel_rfl) (by kernel_rfl) (by kernel_rfl) (by kernel_rfl) (by kernel_rfl) (by kernel_rfl) (by kernel_rfl) plainKeys_yes (by kernel_rfl) (by kernel_rfl) stopsHeard_yes mayEnter_yes liftsFinal_no (by kernel_rfl) make_cut (by kernel_rfl)
    (by kernel_rfl) (by kernel_rfl) (by kernel_rfl) (by kernel_rfl) (by kernel_rfl)

/-- The statement. -/
theorem fnExactPadZeros_holds : Rows.FnExactPadZerosSaid :=
  OpenClaim.holds_of_wide 8 Try.f8 rfl rfl rfl rfl rfl rfl rfl ⟨rfl, rfl, rfl, rfl, rfl⟩ rfl rfl rfl rfl rfl (by kernel_rfl) Try.func8 closedPadZeros
    (of_decide_eq_true (by kernel_rfl)) (by unfold Func.isWrapper; first | (rw [if_pos (by decide +kernel)]; kernel_rfl) | (rw [if_neg (by decide +kernel)]; exact ⟨rfl, rfl⟩))
    (fun os started H enc _ => liftedPadZeros os started H enc)
end Go.Proofs.Ytemjhmmbbjppkaa
