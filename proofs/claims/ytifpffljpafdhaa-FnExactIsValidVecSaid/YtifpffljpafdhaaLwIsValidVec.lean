/-
  The law FnExactIsValidVec: the program's function and the reference's return the same, the arguments are left as they were, and the result is memory of its own.
-/
import Derived.Test.YtifpffljpafdhaaArgs
import Derived.Test.YtifpffljpafdhaaVec
namespace Go.Proofs.Ytifpffljpafdhaa
set_option linter.unusedVariables false
open Go.ChangeShapes Go.WideShapes Go.ChangeAt Go.RowKit
open Go.ChangeMaps (open_string shut_string)
set_option maxRecDepth 100000 in
set_option maxHeartbeats 1000000 in
theorem walkIsValidVec (a0_0 : Int) (a0_1 : Int) (w : World) (b0_0 : -9223372036854775808 ≤ a0_0 ∧ a0_0 ≤ 9223372036854775807) (b0_1 : -9223372036854775808 ≤ a0_1 ∧ a0_1 ≤ 9223372036854775807) :
    Calls Try.prog 4 #[.agg #[.int .i64 a0_0, .int .i64 a0_1]] w fun e w' => e = .returned (.bool true) ∧ Old w w' := by
  have O := Old.refl w
  go_enter Try.func4, Try.ntmps4
  go_wp2_with fail
  refine (toVec_any _ _ _).mono ?_
  rintro e w1 ⟨rfl, o1⟩
  have B_aV : Bx w1 w.heap.size #[.int .i64 a0_0, .int .i64 a0_1] := Bx.old (Bx.new _ _ _) o1
  replace o1 : Old w w1 := Below.trans (b := _) (by repeat' (first | exact Below.refl _ _ | assumption | refine below_drewN ?_ _ | refine Below.drew ?_ | refine Below.alloc ?_ (by simp <;> omega) _ | refine Below.setCell ?_ (by simp <;> omega) _)) (Below.mono o1 (by simp <;> omega))
  replace O := Old.trans O o1
  have z1 := o1.size
  clear o1
  go_wp2_with fail
  refine (spec_IsValidVec a0_0 a0_1 _ b0_0 b0_1).mono ?_
  rintro e w2 ⟨rfl, o2⟩
  replace B_aV := B_aV.old o2
  replace O := Old.trans O o2
  have z2 := o2.size
  clear o2
  have q_aV_0 := B_aV.cell 0 rfl
  have q_aV_1 := B_aV.cell 1 rfl
  have q_aV := B_aV.lt
  go_wp2_with fail
  refine (toVec_any _ _ _).mono ?_
  rintro e w3 ⟨rfl, o3⟩
  clear q_aV_0 q_aV_1 q_aV
  replace B_aV := B_aV.old o3
  replace O := Old.trans O o3
  have z3 := o3.size
  clear o3
  go_wp2_with fail
  refine (impl_IsValidVec a0_0 a0_1 _ b0_0 b0_1).mono ?_
  rintro e w4 ⟨rfl, o4⟩
  replace B_aV := B_aV.old o4
  replace O := Old.trans O o4
  have z4 := o4.size
  clear o4
  clear B_aV
  go_wp2
  go_ret
  exact ⟨rfl, O⟩

set_option maxRecDepth 100000 in
theorem liftedIsValidVec (os : Os) (started : os.Started) (H : Type) (enc : TypeId × Value → H) :
    ReturnsInHanded {} Try.checked os 4 .any (Rows.fnExactIsValidVecSpec.pre6 enc Try.prog Try.f4 Rows.fnExactIsValidVecRow.domain false) (Rows.fnExactIsValidVecSpec.post enc Try.prog Try.f4 false true false false) := by
  refine returnsInHanded_of_change (C := Try.checked) ownKnob_none started (by kernel_rfl) Try.func4
    (ChangeSpec.witness6 (enc := enc) (C := Try.checked) false ⟨#[], #[.agg #[.int .i64 0, .int .i64 0]], []⟩ 8 (by kernel_rfl) (by kernel_rfl) (by kernel_rfl) (by kernel_rfl)) ?_
  intro W base args ds gs before hval0 hW hcnd _
  have hval : ∀ (j : Nat) t v, Try.f4.params[j]? = some t → args[j]? = some v → Value.okWide Try.prog W .any base t v := hval0
  have hW' := hW
  obtain ⟨p, q, hA0, hV, rfl, hfz, hnd⟩ := hW
  have hA : DataW.TrodAll enc Try.prog W 0 (fun _ => true) true Try.f4.params.toList args.toList ds p := hA0
  rw [Try.params4] at hA hval
  obtain ⟨v0, vs0, d0, ds0, p0, q0, hargs, rfl, rfl, h0, r0⟩ := trodAll_cons hA
  obtain ⟨rfl, rfl, rfl⟩ := trodAll_nil r0
  obtain rfl : args = #[v0] := by cases args; simp_all
  obtain ⟨rfl, rfl⟩ := trodVars_none hV
  have k0 := h0
  have lt0 : ∀ x ∈ p0, x.block < W.heap.size := by obtain ⟨m, hm⟩ := k0; exact DataW.trod_lt m _ _ _ hm
  obtain ⟨a0_0, a0_1, rfl, g0_0, g0_1⟩ := open_vec (hval 0 24 v0 rfl rfl) h0
  clear hA0 hval0
  refine (walkIsValidVec a0_0 a0_1 W g0_0 g0_1).mono fun e W' ⟨he, bel⟩ => ?_
  subst he
  exact ⟨_, rfl, _, _, _, [], _, [], hW', trodAll_mk1 (shut_bool Try.underlying4 _), (trodAll_cons_mk (Below.trod laidOut (by kernel_rfl) (of_decide_eq_true (by kernel_rfl)) k0 bel lt0) trodAll_mk0), rfl, bel.frame _, fun h => by cases h⟩

theorem inPlaceIsValidVec : (Rows.fnExactIsValidVecRow.inPlace == Try.prog.inPlace 4) = true := by kernel_rfl
theorem unfollowedIsValidVec : (Rows.fnExactIsValidVecRow.unfollowed == Try.prog.unfollowed 4) = true := by kernel_rfl
theorem recursesIsValidVec : (Rows.fnExactIsValidVecRow.recurses == Try.prog.recurses 4) = true := by kernel_rfl
theorem namedIsValidVec : (Rows.fnExactIsValidVecRow.named == Try.prog.varsNamed 4) = true := by kernel_rfl
theorem closedIsValidVec : joinedFacts Try.prog 4 Try.f4 Rows.fnExactIsValidVecSpec Rows.fnExactIsValidVecRow = true :=
  joined_of (by kernel_rfl) laidOut mapsRowed_yes (by kernel_rfl) (by kernel_rfl) (by kernel_rfl) stops_none (by kernel_rfl) knobs_none inPlaceIsValidVec unfollowedIsValidVec recursesIsValidVec namedIsValidVec
    (by kernel_rfl) (by kernel_rfl) (by kernel_rfl) (by kernel_rfl) (by kernel_rfl) (by kernel_rfl) (by kernel_rfl) (by kernel_rfl) (by kernel_rfl) plainKeys_yes (by kernel_rfl) (by kernel_rfl) stopsHeard_yes mayEnter_yes liftsFinal_no (by kernel_rfl) make_cut (by kernel_rfl)
    (by kernel_rfl) (by kernel_rfl) (by kernel_rfl) (by kernel_rfl) (by kernel_rfl)

/-- The statement. -/
theorem fnExactIsValidVec_holds : Rows.FnExactIsValidVecSaid :=
  OpenClaim.holds_of_wide 4 Try.f4 rfl rfl rfl rfl rfl rfl rfl ⟨rfl, rfl, rfl, rfl, rfl⟩ rfl rfl rfl rfl rfl (by kernel_rfl) Try.func4 closedIsValidVec
    (of_decide_eq_true (by kernel_rfl)) (by unfold Func.isWrapper; first | (rw [if_pos (by decide +kernel)]; kernel_rfl) | (rw [if_neg (by decide +kernel)]; exact ⟨rfl, rfl⟩))
    (fun os started H enc _ => liftedIsValidVec os started H enc)
end Go.Proofs.Ytifpffljpafdhaa
