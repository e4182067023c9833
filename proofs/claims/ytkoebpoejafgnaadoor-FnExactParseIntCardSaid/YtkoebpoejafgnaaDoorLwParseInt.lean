import Derived.Test.YtkoebpoejafgnaaDoorArgs
import Derived.Test.YtkoebpoejafgnaaDoorKnow
import Derived.Deep.DeepCutAuto
import Derived.Deep.RegionHeld3
import Derived.Deep.DrawnRows
import Derived.Test.YtkoebpoejafgnaaDoorBoxes
import Derived.Test.YtkoebpoejafgnaaDoorIntPar
import Derived.Test.YtkoebpoejafgnaaDoorKnowE
/-
  The law FnExactParseInt: the program's function and the reference's return the same, the arguments are left as they were, and the result is memory of its own.
-/
namespace Go.Proofs.YtkoebpoejafgnaaDoor
set_option linter.unusedVariables false
open Go.ChangeShapes Go.WideShapes Go.ChangeAt Go.RowKit
open Go.ChangeMaps (open_string shut_string)
attribute [local go_sem ↓] Go.wp_at_zero Go.wp_at_succ
set_option maxRecDepth 100000 in
set_option maxHeartbeats 1000000 in
theorem walkParseInt (s0_0 : ByteArray) (w : World) (b0_0 : s0_0.size ≤ maxLen)  (KT : KT w) (KE : KE w) :
    Calls Tryd.prog 9 #[.string s0_0] w fun e w' => e = .returned (.bool true) ∧ Old w w' := by
  by_cases hn0_0 : s0_0.size ≤ 1048576
  · skip
    have O := Old.refl w
    go_enter Tryd.func9, Tryd.ntmps9
    go_wp2_with fail
    refine (spec_ParseInt s0_0 _ hn0_0).mono ?_
    rintro e w1 ⟨rfl, o1⟩
    replace O := Old.trans O o1
    have z1 := o1.size
    clear o1
    go_wp2_with fail
    refine (impl_ParseInt s0_0 _ hn0_0 (KT.old (Below.trans (b := w1) O oldA)) (KE.old (Below.trans (b := w1) O oldA))).mono ?_
    rintro e w2 ⟨rfl, o2⟩
    replace O := Old.trans O o2
    have z2 := o2.size
    clear o2
    go_wp2
    go_ret
    exact ⟨rfl, O⟩
  · go_enter Tryd.func9, Tryd.ntmps9
    go_wp2
    go_ret
    exact ⟨rfl, oldA⟩

set_option maxRecDepth 100000 in
theorem liftedParseInt (os : Os) (started : os.Started) (H : Type) (enc : TypeId × Value → H) :
    ReturnsInHanded {} Tryd.checked os 9 .any (fun w args => (Rows.fnExactParseIntSpec.pre enc Tryd.prog Tryd.f9 Rows.fnExactParseIntRow.domain false w args ∧ laidMetH Tryd.prog Rows.fnExactParseIntRow.laid w) ∧ sizedMet enc Tryd.prog Tryd.f9 (OpenSpec.ofChange Rows.fnExactParseIntSpec) false w args)
      (Rows.fnExactParseIntSpec.post enc Tryd.prog Tryd.f9 false true false false) := by
  refine returnsInHanded_of_change_and (C := Tryd.checked) (X := (fun w _ => laidMetH Tryd.prog Rows.fnExactParseIntRow.laid w)) (fun _ _ _ hh h => h.of_heap hh) ownKnob_none started (by kernel_rfl) Tryd.func9
    (ChangeSpec.witness_shaped (enc := enc) (C := Tryd.checked) (X := (fun w _ => laidMetH Tryd.prog Rows.fnExactParseIntRow.laid w)) false (World.laidAll Tryd.prog os Rows.fnExactParseIntRow.laid) #[.string ByteArray.empty] 8 (World.laidAll_os _ _ _) (World.shaped_of_ZipB (by kernel_rfl) (by kernel_rfl)) (by kernel_rfl) (by kernel_rfl) (by kernel_rfl)
      (by show laidMetH Tryd.prog Rows.fnExactParseIntRow.laid _; rw [MakeChecks.laidMetH_plain _ _ _ (by kernel_rfl)]; exact laidMet_laidAll _ (by kernel_rfl) (by kernel_rfl))) ?_
  intro W base args ds gs before hval0 hW hcnd _ hL _
  have hval : ∀ (j : Nat) t v, Tryd.f9.params[j]? = some t → args[j]? = some v → Value.okWide Tryd.prog W .any base t v := hval0
  have hW' := hW
  obtain ⟨p, q, hA0, hV, rfl, hfz, hnd⟩ := hW
  have hA : DataW.TrodAll enc Tryd.prog W 0 (fun _ => true) true Tryd.f9.params.toList args.toList ds p := hA0
  rw [Tryd.params9] at hA hval
  obtain ⟨v0, vs0, d0, ds0, p0, q0, hargs, rfl, rfl, h0, r0⟩ := trodAll_cons hA
  obtain ⟨rfl, rfl, rfl⟩ := trodAll_nil r0
  obtain rfl : args = #[v0] := by cases args; simp_all
  obtain ⟨rfl, rfl⟩ := trodVars_none hV
  obtain ⟨s0, rfl, rfl, rfl, g0⟩ := open_string Tryd.underlying9 (hval 0 9 v0 rfl rfl) h0
  have KT : KT W := kt_of (by have h := hL; rw [MakeChecks.laidMetH_plain _ _ _ (by kernel_rfl)] at h; exact h)
  have KE : KE W := ke_of (by have h := hL; rw [MakeChecks.laidMetH_plain _ _ _ (by kernel_rfl)] at h; exact h)
  clear hA0 hval0
  refine (walkParseInt s0 W g0 KT KE).mono fun e W' ⟨he, bel⟩ => ?_
  subst he
  exact ⟨_, rfl, _, _, _, [], _, [], hW', trodAll_mk1 (shut_bool Tryd.underlying4 _), (trodAll_cons_mk (shut_string Tryd.underlying9 g0) trodAll_mk0), rfl, bel.frame _, fun h => by cases h⟩

theorem inPlaceParseInt : (Rows.fnExactParseIntRow.inPlace == Tryd.prog.inPlace 9) = true := by kernel_rfl
theorem unfollowedParseInt : (Rows.fnExactParseIntRow.unfollowed == Tryd.prog.unfollowed 9) = true := by kernel_rfl
theorem recursesParseInt : (Rows.fnExactParseIntRow.recurses == Tryd.prog.recurses 9) = true := by kernel_rfl
theorem namedParseInt : (Rows.fnExactParseIntRow.named == Tryd.prog.varsNamed 9) = true := by kernel_rfl
theorem closedParseInt : joinedFacts Tryd.prog 9 Tryd.f9 Rows.fnExactParseIntSpec Rows.fnExactParseIntRow = true :=
  joined_of (by kernel_rfl) laidOut mapsRowed_yes (by kernel_rfl) (by kernel_rfl) (by kernel_rfl) stops_none (by kernel_rfl) knobs_none inPlaceParseInt unfollowedParseInt recursesParseInt namedParseInt
    (by kernel_rfl) (by kernel_rfl) (by kernel_rfl) (by kernel_rfl) (by kernel_rfl) (by kernel_rfl) (by kernel_rfl) (by kernel_rfl) (by kernel_rfl) plainKeys_yes (by kernel_rfl) (by kernel_rfl) stopsHeard_yes mayEnter_yes liftsFinal_no (by kernel_rfl) make_cut (by kernel_rfl)
    (by kernel_rfl) (by kernel_rfl) (by kernel_rfl) (by kernel_rfl) (by kernel_rfl)

/-- The statement. -/
theorem fnExactParseInt_holds : Rows.FnExactParseIntSaid :=
  OpenClaim.holds_of_wide 9 Tryd.f9 rfl rfl rfl rfl rfl rfl rfl ⟨rfl, rfl, rfl, rfl, rfl⟩ rfl rfl rfl rfl rfl (by kernel_rfl) Tryd.func9 closedParseInt
    (of_decide_eq_true (by kernel_rfl)) (by unfold Func.isWrapper; first | (rw [if_pos (by decide +kernel)]; kernel_rfl) | (rw [if_neg (by decide +kernel)]; exact ⟨rfl, rfl⟩))
    (fun os started H enc _ => liftedParseInt os started H enc)
/-- The tied card. -/
theorem fnExactParseIntCard_holds : Rows.FnExactParseIntCardSaid :=
  Claim7.holds_tied_plain_at .later [] [.data, .data, .data, .sentinel, .sentinel] true (true, "2ed6f013edc0a1dd32c40f312f03f1229820e2024ef8c38a3167b442211cc521") true
    fnExactParseInt_holds (fun _ h => by cases h) (by kernel_rfl) (fun _ h => by cases h) fnExactParseInt_row_tie rfl ⟨rfl, rfl⟩ (by kernel_rfl) rfl
    (fun f fn hf hfn => by
      obtain rfl : f = 9 := Option.some.inj ((show Tryd.prog.funcNamed "loop.example/g00811/laws.FnExactParseInt" = some 9 by kernel_rfl).symm.trans hf) |>.symm
      obtain rfl : fn = Tryd.f9 := (Option.some.inj (Tryd.func9.symm.trans hfn)).symm
      exact ⟨by kernel_rfl, fun j t ht => by
        have hm : t ∈ Tryd.f9.params.toList := by rw [Array.getElem?_eq_some_iff] at ht; obtain ⟨h1, h2⟩ := ht; rw [← h2]; simp
        rw [Tryd.params9] at hm
        have hall : ([9] : List TypeId).all (fun t => Tryd.prog.wantsStandIn t == false) = true := by kernel_rfl
        exact eq_of_beq (List.all_eq_true.1 hall t hm)⟩)
    (by kernel_rfl)
end Go.Proofs.YtkoebpoejafgnaaDoor
