import Derived.Test.YtkoebpoejafgnaaDoorArgs
import Derived.Test.YtkoebpoejafgnaaDoorKnow
import Derived.Deep.DeepCutAuto
import Derived.Deep.RegionHeld3
import Derived.Deep.DrawnRows
import Derived.Test.YtkoebpoejafgnaaDoorBoxes
import Derived.Test.YtkoebpoejafgnaaDoorVecPar
import Derived.Test.YtkoebpoejafgnaaDoorKnowE
/-
  The law FnExactParseVec: the program's function and the reference's return the same, the arguments are left as they were, and the result is memory of its own.
-/
namespace Go.Proofs.YtkoebpoejafgnaaDoor
set_option linter.unusedVariables false
open Go.ChangeShapes Go.WideShapes Go.ChangeAt Go.RowKit
open Go.ChangeMaps (open_string shut_string)
attribute [local go_sem ↓] Go.wp_at_zero Go.wp_at_succ
set_option maxRecDepth 100000 in
set_option maxHeartbeats 1000000 in
theorem walkParseVec (s0_0 : ByteArray) (w : World) (b0_0 : s0_0.size ≤ maxLen)  (KT : KT w) (KE : KE w) :
    Calls Tryd.prog 12 #[.string s0_0] w fun e w' => e = .returned (.bool true) ∧ Old w w' := by
  by_cases hn0_0 : s0_0.size ≤ 1048576
  · skip
    have O := Old.refl w
    go_enter Tryd.func12, Tryd.ntmps12
    go_wp2_with fail
    refine (spec_ParseVec s0_0 _ hn0_0).mono ?_
    rintro e w1 ⟨rfl, o1⟩
    replace O := Old.trans O o1
    have z1 := o1.size
    clear o1
    go_wp2_with fail
    refine (impl_ParseVec s0_0 _ hn0_0 (KT.old (Below.trans (b := w1) O oldA)) (KE.old (Below.trans (b := w1) O oldA))).mono ?_
    rintro e w2 ⟨rfl, o2⟩
    have B_w0 : Bx w2 w1.heap.size #[.int .i64 (rParseVecx s0_0), .int .i64 (rParseVecy s0_0)] := Bx.old (Bx.new _ _ _) o2
    have zb2 := B_w0.lt
    replace o2 : Old w1 w2 := Below.trans (b := _) oldA (Below.mono o2 (by simp <;> omega))
    replace O := Old.trans O o2
    have z2 := o2.size
    clear o2
    have q_w0_0 := B_w0.cell 0 rfl
    have q_w0_1 := B_w0.cell 1 rfl
    have q_w0 := B_w0.lt
    go_wp2_with fail
    refine (eqVec_yes _ _ _ ).mono ?_
    rintro e w3 ⟨rfl, o3⟩
    clear q_w0_0 q_w0_1 q_w0
    have B_g0 : Bx w3 w2.heap.size #[.int .i64 (rParseVecx s0_0), .int .i64 (rParseVecy s0_0)] := Bx.old (Bx.new _ _ _) o3
    have zb3 := B_g0.lt
    replace o3 : Old w2 w3 := Below.trans (b := _) oldA (Below.mono o3 (by simp <;> omega))
    replace B_w0 := B_w0.old o3
    replace O := Old.trans O o3
    have z3 := o3.size
    clear o3
    go_wp2
    go_ret
    exact ⟨rfl, O⟩
  · go_enter Tryd.func12, Tryd.ntmps12
    go_wp2
    go_ret
    exact ⟨rfl, oldA⟩

set_option maxRecDepth 100000 in
theorem liftedParseVec (os : Os) (started : os.Started) (H : Type) (enc : TypeId × Value → H) :
    ReturnsInHanded {} Tryd.checked os 12 .any (fun w args => (Rows.fnExactParseVecSpec.pre enc Tryd.prog Tryd.f12 Rows.fnExactParseVecRow.domain false w args ∧ laidMetH Tryd.prog Rows.fnExactParseVecRow.laid w) ∧ sizedMet enc Tryd.prog Tryd.f12 (OpenSpec.ofChange Rows.fnExactParseVecSpec) false w args)
      (Rows.fnExactParseVecSpec.post enc Tryd.prog Tryd.f12 false true false false) := by
  refine returnsInHanded_of_change_and (C := Tryd.checked) (X := (fun w _ => laidMetH Tryd.prog Rows.fnExactParseVecRow.laid w)) (fun _ _ _ hh h => h.of_heap hh) ownKnob_none started (by kernel_rfl) Tryd.func12
    (ChangeSpec.witness_shaped (enc := enc) (C := Tryd.checked) (X := (fun w _ => laidMetH Tryd.prog Rows.fnExactParseVecRow.laid w)) false (World.laidAll Tryd.prog os Rows.fnExactParseVecRow.laid) #[.string ByteArray.empty] 8 (World.laidAll_os _ _ _) (World.shaped_of_ZipB (by kernel_rfl) (by kernel_rfl)) (by kernel_rfl) (by kernel_rfl) (by kernel_rfl)
      (by show laidMetH Tryd.prog Rows.fnExactParseVecRow.laid _; rw [MakeChecks.laidMetH_plain _ _ _ (by kernel_rfl)]; exact laidMet_laidAll _ (by kernel_rfl) (by kernel_rfl))) ?_
  intro W base args ds gs before hval0 hW hcnd _ hL _
  have hval : ∀ (j : Nat) t v, Tryd.f12.params[j]? = some t → args[j]? = some v → Value.okWide Tryd.prog W .any base t v := hval0
  have hW' := hW
  obtain ⟨p, q, hA0, hV, rfl, hfz, hnd⟩ := hW
  have hA : DataW.TrodAll enc Tryd.prog W 0 (fun _ => true) true Tryd.f12.params.toList args.toList ds p := hA0
  rw [Tryd.params12] at hA hval
  obtain ⟨v0, vs0, d0, ds0, p0, q0, hargs, rfl, rfl, h0, r0⟩ := trodAll_cons hA
  obtain ⟨rfl, rfl, rfl⟩ := trodAll_nil r0
  obtain rfl : args = #[v0] := by cases args; simp_all
  obtain ⟨rfl, rfl⟩ := trodVars_none hV
  obtain ⟨s0, rfl, rfl, rfl, g0⟩ := open_string Tryd.underlying9 (hval 0 9 v0 rfl rfl) h0
  have KT : KT W := kt_of (by have h := hL; rw [MakeChecks.laidMetH_plain _ _ _ (by kernel_rfl)] at h; exact h)
  have KE : KE W := ke_of (by have h := hL; rw [MakeChecks.laidMetH_plain _ _ _ (by kernel_rfl)] at h; exact h)
  clear hA0 hval0
  refine (walkParseVec s0 W g0 KT KE).mono fun e W' ⟨he, bel⟩ => ?_
  subst he
  exact ⟨_, rfl, _, _, _, [], _, [], hW', trodAll_mk1 (shut_bool Tryd.underlying4 _), (trodAll_cons_mk (shut_string Tryd.underlying9 g0) trodAll_mk0), rfl, bel.frame _, fun h => by cases h⟩

theorem inPlaceParseVec : (Rows.fnExactParseVecRow.inPlace == Tryd.prog.inPlace 12) = true := by kernel_rfl
theorem unfollowedParseVec : (Rows.fnExactParseVecRow.unfollowed == Tryd.prog.unfollowed 12) = true := by kernel_rfl
theorem recursesParseVec : (Rows.fnExactParseVecRow.recurses == Tryd.prog.recurses 12) = true := by kernel_rfl
theorem namedParseVec : (Rows.fnExactParseVecRow.named == Tryd.prog.varsNamed 12) = true := by kernel_rfl
theorem closedParseVec : joinedFacts Tryd.prog 12 Tryd.f12 Rows.fnExactParseVecSpec Rows.fnExactParseVecRow = true :=
  joined_of (by kernel_rfl) laidOut mapsRowed_yes (by kernel_rfl) (by kernel_rfl) (by kernel_rfl) stops_none (by kernel_rfl) knobs_none inPlaceParseVec unfollowedParseVec recursesParseVec namedParseVec
    (by kernel_rfl) (by kernel_rfl) (by kernel_rfl) (by kernel_rfl) (by kernel_rfl) (by kernel_rfl) (by kernel_rfl) (by kernel_rfl) (by kernel_rfl) plainKeys_yes (by kernel_rfl) (by kernel_rfl) stopsHeard_yes mayEnter_yes liftsFinal_no (by kernel_rfl) make_cut (by kernel_rfl)
    (by kernel_rfl) (by kernel_rfl) (by kernel_rfl) (by kernel_rfl) (by kernel_rfl)

/-- The statement. -/
theorem fnExactParseVec_holds : Rows.FnExactParseVecSaid :=
  OpenClaim.holds_of_wide 12 Tryd.f12 rfl rfl rfl rfl rfl rfl rfl ⟨rfl, rfl, rfl, rfl, rfl⟩ rfl rfl rfl rfl rfl (by kernel_rfl) Tryd.func12 closedParseVec
    (of_decide_eq_true (by kernel_rfl)) (by unfold Func.isWrapper; first | (rw [if_pos (by decide +kernel)]; kernel_rfl) | (rw [if_neg (by decide +kernel)]; exact ⟨rfl, rfl⟩))
    (fun os started H enc _ => liftedParseVec os started H enc)
/-- The tied card. -/
theorem fnExactParseVecCard_holds : Rows.FnExactParseVecCardSaid :=
  Claim7.holds_tied_plain_at .later [] [.data, .data, .data, .sentinel, .sentinel] true (true, "2ed6f013edc0a1dd32c40f312f03f1229820e2024ef8c38a3167b442211cc521") true
    fnExactParseVec_holds (fun _ h => by cases h) (by kernel_rfl) (fun _ h => by cases h) fnExactParseVec_row_tie rfl ⟨rfl, rfl⟩ (by kernel_rfl) rfl
    (fun f fn hf hfn => by
      obtain rfl : f = 12 := Option.some.inj ((show Tryd.prog.funcNamed "loop.example/g00811/laws.FnExactParseVec" = some 12 by kernel_rfl).symm.trans hf) |>.symm
      obtain rfl : fn = Tryd.f12 := (Option.some.inj (Tryd.func12.symm.trans hfn)).symm
      exact ⟨by kernel_rfl, fun j t ht => by
        have hm : t ∈ Tryd.f12.params.toList := by rw [Array.getElem?_eq_some_iff] at ht; obtain ⟨h1, h2⟩ := ht; rw [← h2]; simp
        rw [Tryd.params12] at hm
        have hall : ([9] : List TypeId).all (fun t => Tryd.prog.wantsStandIn t == false) = true := by kernel_rfl
        exact eq_of_beq (List.all_eq_true.1 hall t hm)⟩)
    (by kernel_rfl)
end Go.Proofs.YtkoebpoejafgnaaDoor
