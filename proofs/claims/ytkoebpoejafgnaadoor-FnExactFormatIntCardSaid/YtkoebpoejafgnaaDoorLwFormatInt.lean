import Derived.Test.YtkoebpoejafgnaaDoorArgs
import Derived.Test.YtkoebpoejafgnaaDoorKnow
import Derived.Deep.DeepCutAuto
import Derived.Deep.RegionHeld3
import Derived.Deep.DrawnRows
import Derived.Test.YtkoebpoejafgnaaDoorBoxes
import Derived.Test.YtkoebpoejafgnaaDoorInt
/-
  The law FnExactFormatInt: the program's function and the reference's return the same, the arguments are left as they were, and the result is memory of its own.
-/
namespace Go.Proofs.YtkoebpoejafgnaaDoor
set_option linter.unusedVariables false
open Go.ChangeShapes Go.WideShapes Go.ChangeAt Go.RowKit
open Go.ChangeMaps (open_string shut_string)
attribute [local go_sem ↓] Go.wp_at_zero Go.wp_at_succ
set_option maxRecDepth 100000 in
set_option maxHeartbeats 1000000 in
theorem walkFormatInt (a0_0 : Int) (w : World) (b0_0 : -9223372036854775808 ≤ a0_0 ∧ a0_0 ≤ 9223372036854775807)  (KT : KT w) :
    Calls Tryd.prog 4 #[.int .i64 a0_0] w fun e w' => e = .returned (.bool true) ∧ Old w w' := by
  have O := Old.refl w
  go_enter Tryd.func4, Tryd.ntmps4
  go_wp2_with fail
  refine (spec_FormatInt a0_0 _ b0_0).mono ?_
  rintro e w1 ⟨rfl, o1⟩
  replace O := Old.trans O o1
  have z1 := o1.size
  clear o1
  go_wp2_with fail
  refine (impl_FormatInt a0_0 _ b0_0 (KT.old (Below.trans (b := w1) O oldA))).mono ?_
  rintro e w2 ⟨rfl, o2⟩
  replace O := Old.trans O o2
  have z2 := o2.size
  clear o2
  go_wp2
  go_ret
  exact ⟨rfl, O⟩

set_option maxRecDepth 100000 in
theorem liftedFormatInt (os : Os) (started : os.Started) (H : Type) (enc : TypeId × Value → H) :
    ReturnsInHanded {} Tryd.checked os 4 .any (fun w args => (Rows.fnExactFormatIntSpec.pre enc Tryd.prog Tryd.f4 Rows.fnExactFormatIntRow.domain false w args ∧ laidMetH Tryd.prog Rows.fnExactFormatIntRow.laid w) ∧ sizedMet enc Tryd.prog Tryd.f4 (OpenSpec.ofChange Rows.fnExactFormatIntSpec) false w args)
      (Rows.fnExactFormatIntSpec.post enc Tryd.prog Tryd.f4 false true false false) := by
  refine returnsInHanded_of_change_and (C := Tryd.checked) (X := (fun w _ => laidMetH Tryd.prog Rows.fnExactFormatIntRow.laid w)) (fun _ _ _ hh h => h.of_heap hh) ownKnob_none started (by kernel_rfl) Tryd.func4
    (ChangeSpec.witness_shaped (enc := enc) (C := Tryd.checked) (X := (fun w _ => laidMetH Tryd.prog Rows.fnExactFormatIntRow.laid w)) false (World.laidAll Tryd.prog os Rows.fnExactFormatIntRow.laid) #[.int .i64 0] 8 (World.laidAll_os _ _ _) (World.shaped_of_ZipB (by kernel_rfl) (by kernel_rfl)) (by kernel_rfl) (by kernel_rfl) (by kernel_rfl)
      (by show laidMetH Tryd.prog Rows.fnExactFormatIntRow.laid _; rw [MakeChecks.laidMetH_plain _ _ _ (by kernel_rfl)]; exact laidMet_laidAll _ (by kernel_rfl) (by kernel_rfl))) ?_
  intro W base args ds gs before hval0 hW hcnd _ hL _
  have hval : ∀ (j : Nat) t v, Tryd.f4.params[j]? = some t → args[j]? = some v → Value.okWide Tryd.prog W .any base t v := hval0
  have hW' := hW
  obtain ⟨p, q, hA0, hV, rfl, hfz, hnd⟩ := hW
  have hA : DataW.TrodAll enc Tryd.prog W 0 (fun _ => true) true Tryd.f4.params.toList args.toList ds p := hA0
  rw [Tryd.params4] at hA hval
  obtain ⟨v0, vs0, d0, ds0, p0, q0, hargs, rfl, rfl, h0, r0⟩ := trodAll_cons hA
  obtain ⟨rfl, rfl, rfl⟩ := trodAll_nil r0
  obtain rfl : args = #[v0] := by cases args; simp_all
  obtain ⟨rfl, rfl⟩ := trodVars_none hV
  obtain ⟨a0, rfl, rfl, rfl, wf0⟩ := open_int Tryd.underlying3 (hval 0 3 v0 rfl rfl) h0
  have g0 : -9223372036854775808 ≤ a0 ∧ a0 ≤ 9223372036854775807 := bounds_i64 wf0
  have KT : KT W := kt_of (by have h := hL; rw [MakeChecks.laidMetH_plain _ _ _ (by kernel_rfl)] at h; exact h)
  clear hA0 hval0
  refine (walkFormatInt a0 W g0 KT).mono fun e W' ⟨he, bel⟩ => ?_
  subst he
  exact ⟨_, rfl, _, _, _, [], _, [], hW', trodAll_mk1 (shut_bool Tryd.underlying4 _), (trodAll_cons_mk (shut_int Tryd.underlying3 wf0) trodAll_mk0), rfl, bel.frame _, fun h => by cases h⟩

theorem inPlaceFormatInt : (Rows.fnExactFormatIntRow.inPlace == Tryd.prog.inPlace 4) = true := by kernel_rfl
theorem unfollowedFormatInt : (Rows.fnExactFormatIntRow.unfollowed == Tryd.prog.unfollowed 4) = true := by kernel_rfl
theorem recursesFormatInt : (Rows.fnExactFormatIntRow.recurses == Tryd.prog.recurses 4) = true := by kernel_rfl
theorem namedFormatInt : (Rows.fnExactFormatIntRow.named == Tryd.prog.varsNamed 4) = true := by kernel_rfl
theorem closedFormatInt : joinedFacts Tryd.prog 4 Tryd.f4 Rows.fnExactFormatIntSpec Rows.fnExactFormatIntRow = true :=
  joined_of (by kernel_rfl) laidOut mapsRowed_yes (by kernel_rfl) (by kernel_rfl) (by kernel_rfl) stops_none (by kernel_rfl) knobs_none inPlaceFormatInt unfollowedFormatInt recursesFormatInt namedFormatInt
    (by kernel_rfl) (by kernel_rfl) (by kernel_rfl) (by kernel_rfl) (by kernel_rfl) (by kernel_rfl) (by kernel_rfl) (by kernel_rfl) (by kernel_rfl) plainKeys_yes (by kernel_rfl) (by kernel_rfl) stopsHeard_yes mayEnter_yes liftsFinal_no (by kernel_rfl) make_cut (by kernel_rfl)
    (by kernel_rfl) (by kernel_rfl) (by kernel_rfl) (by kernel_rfl) (by kernel_rfl)

/-- The statement. -/
theorem fnExactFormatInt_holds : Rows.FnExactFormatIntSaid :=
  OpenClaim.holds_of_wide 4 Tryd.f4 rfl rfl rfl rfl rfl rfl rfl ⟨rfl, rfl, rfl, rfl, rfl⟩ rfl rfl rfl rfl rfl (by kernel_rfl) Tryd.func4 closedFormatInt
    (of_decide_eq_true (by kernel_rfl)) (by unfold Func.isWrapper; first | (rw [if_pos (by decide +kernel)]; kernel_rfl) | (rw [if_neg (by decide +kernel)]; exact ⟨rfl, rfl⟩))
    (fun os started H enc _ => liftedFormatInt os started H enc)
/-- The tied card. -/
theorem fnExactFormatIntCard_holds : Rows.FnExactFormatIntCardSaid :=
  Claim7.holds_tied_plain_at .later [] [.data, .data, .data] true (true, "2ed6f013edc0a1dd32c40f312f03f1229820e2024ef8c38a3167b442211cc521") true
    fnExactFormatInt_holds (fun _ h => by cases h) (by kernel_rfl) (fun _ h => by cases h) fnExactFormatInt_row_tie rfl ⟨rfl, rfl⟩ (by kernel_rfl) rfl
    (fun f fn hf hfn => by
      obtain rfl : f = 4 := Option.some.inj ((show Tryd.prog.funcNamed "loop.example/g00811/laws.FnExactFormatInt" = some 4 by kernel_rfl).symm.trans hf) |>.symm
      obtain rfl : fn = Tryd.f4 := (Option.some.inj (Tryd.func4.symm.trans hfn)).symm
      exact ⟨by kernel_rfl, fun j t ht => by
        have hm : t ∈ Tryd.f4.params.toList := by rw [Array.getElem?_eq_some_iff] at ht; obtain ⟨h1, h2⟩ := ht; rw [← h2]; simp
        rw [Tryd.params4] at hm
        have hall : ([3] : List TypeId).all (fun t => Tryd.prog.wantsStandIn t == false) = true := by kernel_rfl
        exact eq_of_beq (List.all_eq_true.1 hall t hm)⟩)
    (by kernel_rfl)
end Go.Proofs.YtkoebpoejafgnaaDoor
