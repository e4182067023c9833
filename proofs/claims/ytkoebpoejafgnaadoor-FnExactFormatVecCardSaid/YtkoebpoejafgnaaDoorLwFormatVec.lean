import Derived.Test.YtkoebpoejafgnaaDoorArgs
import Derived.Test.YtkoebpoejafgnaaDoorKnow
import Derived.Deep.DeepCutAuto
import Derived.Deep.RegionHeld3
import Derived.Deep.DrawnRows
import Derived.Test.YtkoebpoejafgnaaDoorBoxes
import Derived.Test.YtkoebpoejafgnaaDoorVecTxt
/-
  The law FnExactFormatVec: the program's function and the reference's return the same, the arguments are left as they were, and the result is memory of its own.
-/
namespace Go.Proofs.YtkoebpoejafgnaaDoor
set_option linter.unusedVariables false
open Go.ChangeShapes Go.WideShapes Go.ChangeAt Go.RowKit
open Go.ChangeMaps (open_string shut_string)
attribute [local go_sem ↓] Go.wp_at_zero Go.wp_at_succ
set_option maxRecDepth 100000 in
set_option maxHeartbeats 1000000 in
theorem walkFormatVec (a0_0 : Int) (a0_1 : Int) (w : World) (b0_0 : -9223372036854775808 ≤ a0_0 ∧ a0_0 ≤ 9223372036854775807) (b0_1 : -9223372036854775808 ≤ a0_1 ∧ a0_1 ≤ 9223372036854775807)  (KT : KT w) :
    Calls Tryd.prog 5 #[.agg #[.int .i64 a0_0, .int .i64 a0_1]] w fun e w' => e = .returned (.bool true) ∧ Old w w' := by
  have O := Old.refl w
  go_enter Tryd.func5, Tryd.ntmps5
  go_wp2_with fail
  refine (toVec_any _ _ _).mono ?_
  rintro e w1 ⟨rfl, o1⟩
  have B_aV : Bx w1 w.heap.size #[.int .i64 a0_0, .int .i64 a0_1] := Bx.old (Bx.new _ _ _) o1
  have zb1 := B_aV.lt
  replace o1 : Old w w1 := Below.trans (b := _) oldA (Below.mono o1 (by simp <;> omega))
  replace O := Old.trans O o1
  have z1 := o1.size
  clear o1
  have q_aV_0 := B_aV.cell 0 rfl
  have q_aV_1 := B_aV.cell 1 rfl
  have q_aV := B_aV.lt
  go_wp2_with fail
  refine (spec_FormatVec a0_0 a0_1 _ b0_0 b0_1).mono ?_
  rintro e w2 ⟨rfl, o2⟩
  clear q_aV_0 q_aV_1 q_aV
  replace B_aV := B_aV.old o2
  replace O := Old.trans O o2
  have z2 := o2.size
  clear o2
  have q_aV_0 := B_aV.cell 0 rfl
  have q_aV_1 := B_aV.cell 1 rfl
  have q_aV := B_aV.lt
  go_wp2_with fail
  refine (toVec_any _ _ _).mono ?_
  rintro e w3 ⟨rfl, o3⟩
  clear q_aV_0 q_aV_1 q_aV
  replace B_aV := B_aV.old o3
  replace O := Old.trans O o3
  have z3 := o3.size
  clear o3
  have q_aV_0 := B_aV.cell 0 rfl
  have q_aV_1 := B_aV.cell 1 rfl
  have q_aV := B_aV.lt
  go_wp2_with fail
  refine (impl_FormatVec a0_0 a0_1 _ b0_0 b0_1 (KT.old (Below.trans (b := w3) O oldA))).mono ?_
  rintro e w4 ⟨rfl, o4⟩
  clear q_aV_0 q_aV_1 q_aV
  replace B_aV := B_aV.old o4
  replace O := Old.trans O o4
  have z4 := o4.size
  clear o4
  clear B_aV
  go_wp2
  go_ret
  exact ⟨rfl, O⟩

set_option maxRecDepth 100000 in
theorem liftedFormatVec (os : Os) (started : os.Started) (H : Type) (enc : TypeId × Value → H) :
    ReturnsInHanded {} Tryd.checked os 5 .any (fun w args => (Rows.fnExactFormatVecSpec.pre enc Tryd.prog Tryd.f5 Rows.fnExactFormatVecRow.domain false w args ∧ laidMetH Tryd.prog Rows.fnExactFormatVecRow.laid w) ∧ sizedMet enc Tryd.prog Tryd.f5 (OpenSpec.ofChange Rows.fnExactFormatVecSpec) false w args)
      (Rows.fnExactFormatVecSpec.post enc Tryd.prog Tryd.f5 false true false false) := by
  refine returnsInHanded_of_change_and (C := Tryd.checked) (X := (fun w _ => laidMetH Tryd.prog Rows.fnExactFormatVecRow.laid w)) (fun _ _ _ hh h => h.of_heap hh) ownKnob_none started (by kernel_rfl) Tryd.func5
    (ChangeSpec.witness_shaped (enc := enc) (C := Tryd.checked) (X := (fun w _ => laidMetH Tryd.prog Rows.fnExactFormatVecRow.laid w)) false (World.laidAll Tryd.prog os Rows.fnExactFormatVecRow.laid) #[.agg #[.int .i64 0, .int .i64 0]] 8 (World.laidAll_os _ _ _) (World.shaped_of_ZipB (by kernel_rfl) (by kernel_rfl)) (by kernel_rfl) (by kernel_rfl) (by kernel_rfl)
      (by show laidMetH Tryd.prog Rows.fnExactFormatVecRow.laid _; rw [MakeChecks.laidMetH_plain _ _ _ (by kernel_rfl)]; exact laidMet_laidAll _ (by kernel_rfl) (by kernel_rfl))) ?_
  intro W base args ds gs before hval0 hW hcnd _ hL _
  have hval : ∀ (j : Nat) t v, Tryd.f5.params[j]? = some t → args[j]? = some v → Value.okWide Tryd.prog W .any base t v := hval0
  have hW' := hW
  obtain ⟨p, q, hA0, hV, rfl, hfz, hnd⟩ := hW
  have hA : DataW.TrodAll enc Tryd.prog W 0 (fun _ => true) true Tryd.f5.params.toList args.toList ds p := hA0
  rw [Tryd.params5] at hA hval
  obtain ⟨v0, vs0, d0, ds0, p0, q0, hargs, rfl, rfl, h0, r0⟩ := trodAll_cons hA
  obtain ⟨rfl, rfl, rfl⟩ := trodAll_nil r0
  obtain rfl : args = #[v0] := by cases args; simp_all
  obtain ⟨rfl, rfl⟩ := trodVars_none hV
  have k0 := h0
  have lt0 : ∀ x ∈ p0, x.block < W.heap.size := by obtain ⟨m, hm⟩ := k0; exact DataW.trod_lt m _ _ _ hm
  obtain ⟨a0_0, a0_1, rfl, g0_0, g0_1⟩ := open_vec (hval 0 42 v0 rfl rfl) h0
  have KT : KT W := kt_of (by have h := hL; rw [MakeChecks.laidMetH_plain _ _ _ (by kernel_rfl)] at h; exact h)
  clear hA0 hval0
  refine (walkFormatVec a0_0 a0_1 W g0_0 g0_1 KT).mono fun e W' ⟨he, bel⟩ => ?_
  subst he
  exact ⟨_, rfl, _, _, _, [], _, [], hW', trodAll_mk1 (shut_bool Tryd.underlying4 _), (trodAll_cons_mk (Below.trod laidOut (by kernel_rfl) (of_decide_eq_true (by kernel_rfl)) k0 bel lt0) trodAll_mk0), rfl, bel.frame _, fun h => by cases h⟩

theorem inPlaceFormatVec : (Rows.fnExactFormatVecRow.inPlace == Tryd.prog.inPlace 5) = true := by kernel_rfl
theorem unfollowedFormatVec : (Rows.fnExactFormatVecRow.unfollowed == Tryd.prog.unfollowed 5) = true := by kernel_rfl
theorem recursesFormatVec : (Rows.fnExactFormatVecRow.recurses == Tryd.prog.recurses 5) = true := by kernel_rfl
theorem namedFormatVec : (Rows.fnExactFormatVecRow.named == Tryd.prog.varsNamed 5) = true := by kernel_rfl
theorem closedFormatVec : joinedFacts Tryd.prog 5 Tryd.f5 Rows.fnExactFormatVecSpec Rows.fnExactFormatVecRow = true :=
  joined_of (by kernel_rfl) laidOut mapsRowed_yes (by kernel_rfl) (by kernel_rfl) (by kernel_rfl) stops_none (by kernel_rfl) knobs_none inPlaceFormatVec unfollowedFormatVec recursesFormatVec namedFormatVec
    (by kernel_rfl) (by kernel_rfl) (by kernel_rfl) (by kernel_rfl) (by kernel_rfl) (by kernel_rfl) (by kernel_rfl) (by kernel_rfl) (by kernel_rfl) plainKeys_yes (by kernel_rfl) (by kernel_rfl) stopsHeard_yes mayEnter_yes liftsFinal_no (by kernel_rfl) make_cut (by kernel_rfl)
    (by kernel_rfl) (by kernel_rfl) (by kernel_rfl) (by kernel_rfl) (by kernel_rfl)

/-- The statement. -/
theorem fnExactFormatVec_holds : Rows.FnExactFormatVecSaid :=
  OpenClaim.holds_of_wide 5 Tryd.f5 rfl rfl rfl rfl rfl rfl rfl ⟨rfl, rfl, rfl, rfl, rfl⟩ rfl rfl rfl rfl rfl (by kernel_rfl) Tryd.func5 closedFormatVec
    (of_decide_eq_true (by kernel_rfl)) (by unfold Func.isWrapper; first | (rw [if_pos (by decide +kernel)]; kernel_rfl) | (rw [if_neg (by decide +kernel)]; exact ⟨rfl, rfl⟩))
    (fun os started H enc _ => liftedFormatVec os started H enc)
/-- The tied card. -/
theorem fnExactFormatVecCard_holds : Rows.FnExactFormatVecCardSaid :=
  Claim7.holds_tied_plain_at .later [] [.data, .data, .data] true (true, "2ed6f013edc0a1dd32c40f312f03f1229820e2024ef8c38a3167b442211cc521") true
    fnExactFormatVec_holds (fun _ h => by cases h) (by kernel_rfl) (fun _ h => by cases h) fnExactFormatVec_row_tie rfl ⟨rfl, rfl⟩ (by kernel_rfl) rfl
    (fun f fn hf hfn => by
      obtain rfl : f = 5 := Option.some.inj ((show Tryd.prog.funcNamed "loop.example/g00811/laws.FnExactFormatVec" = some 5 by kernel_rfl).symm.trans hf) |>.symm
      obtain rfl : fn = Tryd.f5 := (Option.some.inj (Tryd.func5.symm.trans hfn)).symm
      exact ⟨by kernel_rfl, fun j t ht => by
        have hm : t ∈ Tryd.f5.params.toList := by rw [Array.getElem?_eq_some_iff] at ht; obtain ⟨h1, h2⟩ := ht; rw [← h2]; simp
        rw [Tryd.params5] at hm
        have hall : ([42] : List TypeId).all (fun t => Tryd.prog.wantsStandIn t == false) = true := by kernel_rfl
        exact eq_of_beq (List.all_eq_true.1 hall t hm)⟩)
    (by kernel_rfl)
end Go.Proofs.YtkoebpoejafgnaaDoor
