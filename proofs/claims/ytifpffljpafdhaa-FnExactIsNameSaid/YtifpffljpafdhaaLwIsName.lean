/-
  The law FnExactIsName: the program's function and the reference's return the same, the arguments are left as they were, and the result is memory of its own.
-/
import Derived.Test.YtifpffljpafdhaaArgs
import Derived.Test.YtifpffljpafdhaaTextName
namespace Go.Proofs.Ytifpffljpafdhaa
set_option linter.unusedVariables false
open Go.ChangeShapes Go.WideShapes Go.ChangeAt Go.RowKit
open Go.ChangeMaps (open_string shut_string)
set_option maxRecDepth 100000 in
set_option maxHeartbeats 1000000 in
theorem walkIsName (s0 : ByteArray) (w : World) (b0 : s0.size ≤ maxLen) :
    Calls Try.prog 6 #[.string s0] w fun e w' => e = .returned (.bool true) ∧ Old w w' := by
  by_cases hn0 : s0.size ≤ 1048576
  · skip
    have O := Old.refl w
    go_enter Try.func6, Try.ntmps6
    go_wp2_with fail
    refine (spec_IsName s0 _ b0 ).mono ?_
    rintro e w1 ⟨rfl, o1⟩
    replace O := Old.trans O o1
    have z1 := o1.size
    clear o1
    go_wp2_with fail
    refine (impl_IsName s0 _ b0 ).mono ?_
    rintro e w2 ⟨rfl, o2⟩
    replace O := Old.trans O o2
    have z2 := o2.size
    clear o2
    go_wp2
    go_ret
    exact ⟨rfl, O⟩
  · go_enter Try.func6, Try.ntmps6
    go_wp2
    go_ret
    exact ⟨rfl, Old.refl w⟩

set_option maxRecDepth 100000 in
theorem liftedIsName (os : Os) (started : os.Started) (H : Type) (enc : TypeId × Value → H) :
    ReturnsInHanded {} Try.checked os 6 .any (Rows.fnExactIsNameSpec.pre6 enc Try.prog Try.f6 Rows.fnExactIsNameRow.domain false) (Rows.fnExactIsNameSpec.post enc Try.prog Try.f6 false true false false) := by
  refine returnsInHanded_of_change (C := Try.checked) ownKnob_none started (by kernel_rfl) Try.func6
    (ChangeSpec.witness6 (enc := enc) (C := Try.checked) false ⟨#[], #[.string ByteArray.empty], []⟩ 8 (by kernel_rfl) (by kernel_rfl) (by kernel_rfl) (by kernel_rfl)) ?_
  intro W base args ds gs before hval0 hW hcnd _
  have hval : ∀ (j : Nat) t v, Try.f6.params[j]? = some t → args[j]? = some v → Value.okWide Try.prog W .any base t v := hval0
  have hW' := hW
  obtain ⟨p, q, hA0, hV, rfl, hfz, hnd⟩ := hW
  have hA : DataW.TrodAll enc Try.prog W 0 (fun _ => true) true Try.f6.params.toList args.toList ds p := hA0
  rw [Try.params6] at hA hval
  obtain ⟨v0, vs0, d0, ds0, p0, q0, hargs, rfl, rfl, h0, r0⟩ := trodAll_cons hA
  obtain ⟨rfl, rfl, rfl⟩ := trodAll_nil r0
  obtain rfl : args = #[v0] := by cases args; simp_all
  obtain ⟨rfl, rfl⟩ := trodVars_none hV
  obtain ⟨s0, rfl, rfl, rfl, g0⟩ := open_string Try.underlying9 (hval 0 9 v0 rfl rfl) h0
  clear hA0 hval0
  refine (walkIsName s0 W g0).mono fun e W' ⟨he, bel⟩ => ?_
  subst he
  exact ⟨_, rfl, _, _, _, [], _, [], hW', trodAll_mk1 (shut_bool Try.underlying4 _), (trodAll_cons_mk (shut_string Try.underlying9 g0) trodAll_mk0), rfl, bel.frame _, fun h => by cases h⟩

theorem inPlaceIsName : (Rows.fnExactIsNameRow.inPlace == Try.prog.inPlace 6) = true := by kernel_rfl
theorem unfollowedIsName : (Rows.fnExactIsNameRow.unfollowed == Try.prog.unfollowed 6) = true := by kernel_rfl
theorem recursesIsName : (Rows.fnExactIsNameRow.recurses == Try.prog.recurses 6) = true := by kernel_rfl
theorem namedIsName : (Rows.fnExactIsNameRow.named == Try.prog.varsNamed 6) = true := by kernel_rfl
theorem closedIsName : joinedFacts Try.prog 6 Try.f6 Rows.fnExactIsNameSpec Rows.fnExactIsNameRow = true :=
  joined_of (by kernel_rfl) laidOut mapsRowed_yes (by kernel_rfl) (by kernel_rfl) (by kernel_rfl) stops_none (by kernel_rfl) knobs_none inPlaceIsName unfollowedIsName recursesIsName namedIsName
    (by kernel_rfl) (by kernel_rfl) (by kernel_rfl) (by kernel_rfl) (by kernel_rfl) (by kernel_rfl) (by kernel_rfl) (by kernel_rfl) (by kernel_rfl) plainKeys_yes (by kernel_rfl) (by kernel_rfl) stopsHeard_yes mayEnter_yes liftsFinal_no (by kernel_rfl) make_cut (by kernel_rfl)
    (by kernel_rfl) (by kernel_rfl) (by kernel_rfl) (by kernel_rfl) (by kernel_rfl)

/-- The statement. -/
theorem fnExactIsName_holds : Rows.FnExactIsNameSaid :=
  OpenClaim.holds_of_wide 6 Try.f6 rfl rfl rfl rfl rfl rfl rfl ⟨rfl, rfl, rfl, rfl, rfl⟩ rfl rfl rfl rfl rfl (by kernel_rfl) Try.func6 closedIsName
    (of_decide_eq_true (by kernel_rfl)) (by unfold Func.isWrapper; first | (rw [if_pos (by decide +kernel)]; kernel_rfl) | (rw [if_neg (by decide +kernel)]; exact ⟨rfl, rfl⟩))
    (fun os started H enc _ => liftedIsName os started H enc)
end Go.Proofs.Ytifpffljpafdhaa
