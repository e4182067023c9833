import Derived.Test.YtkoebpoejafgnaaDoorArgs
import Derived.Test.YtkoebpoejafgnaaDoorKnow
import Derived.Deep.DeepCutAuto
import Derived.Deep.RegionHeld3
import Derived.Deep.DrawnRows
import Derived.Test.YtkoebpoejafgnaaDoorBoxes
import Derived.Test.YtkoebpoejafgnaaDoorNatTxt
/-
  The law FnExactFormatNat: the program's function and the reference's return the same, the arguments are left as they were, and the result is memory of its own.
-/
namespace Go.Proofs.YtkoebpoejafgnaaDoor
set_option linter.unusedVariables false
open Go.ChangeShapes Go.WideShapes Go.ChangeAt Go.RowKit
open Go.ChangeMaps (open_string shut_string)
attribute [local go_sem ↓] Go.wp_at_zero Go.wp_at_succ
set_option maxRecDepth 100000 in
set_option maxHeartbeats 1000000 in
theorem walkFormatNat (A0_0 : Option Addr) (n0_0 c0_0 : Nat) (f0_0 : Nat → Int) (w : World) (h0_0 : Rd w A0_0 n0_0 c0_0 f0_0)  (KT : KT w) :
    Calls Tryd.prog 7 #[.slice A0_0 n0_0 c0_0] w fun e w' => e = .returned (.bool true) ∧ Old w w' := by
  by_cases hn0_0 : n0_0 ≤ 1048576
  · skip
    have O := Old.refl w
    go_enter Tryd.func7, Tryd.ntmps7
    go_wp2_with fail
    refine (toIntS_ex _ _ _ _ _ (h0_0.below (B := w.heap.size) (Below.trans (b := w) O oldA) (Nat.le_refl _)) hn0_0).mono ?_
    rintro e w1 ⟨A_t1_0, rfl, R_t1_0, o1⟩
    replace O := Old.trans O o1
    have z1 := o1.size
    clear o1
    have lim_t1_0 := R_t1_0.lim
    have low_t1_0 := Low.mono (lo' := w.heap.size + 0) R_t1_0.low (by first | exact Nat.le_refl _ | (simp <;> omega))
    go_wp2_with fail
    refine (spec_FormatNat _ _ _ _ _ _ R_t1_0 hn0_0).mono ?_
    rintro e w2 ⟨rfl, o2⟩
    clear R_t1_0 lim_t1_0 low_t1_0
    replace O := Old.trans O o2
    have z2 := o2.size
    clear o2
    go_wp2_with fail
    refine (toIntS_ex _ _ _ _ _ (h0_0.below (B := w.heap.size) (Below.trans (b := w2) O oldA) (Nat.le_refl _)) hn0_0).mono ?_
    rintro e w3 ⟨A_t2_0, rfl, R_t2_0, o3⟩
    replace O := Old.trans O o3
    have z3 := o3.size
    clear o3
    have lim_t2_0 := R_t2_0.lim
    have low_t2_0 := Low.mono (lo' := w2.heap.size + 0) R_t2_0.low (by first | exact Nat.le_refl _ | (simp <;> omega))
    go_wp2_with fail
    refine (impl_FormatNat _ _ _ _ _ _ R_t2_0 hn0_0 (KT.old (Below.trans (b := w3) O oldA))).mono ?_
    rintro e w4 ⟨rfl, o4⟩
    replace R_t2_0 := Row.below R_t2_0 o4 (Nat.le_refl _)
    replace O := Old.trans O o4
    have z4 := o4.size
    clear o4
    go_wp2_with fail
    refine (toIntS_ex _ _ _ _ _ (h0_0.below (B := w.heap.size) (Below.trans (b := w4) O oldA) (Nat.le_refl _)) hn0_0).mono ?_
    rintro e w5 ⟨A_t3_0, rfl, R_t3_0, o5⟩
    replace R_t2_0 := Row.below R_t2_0 o5 (Nat.le_refl _)
    replace O := Old.trans O o5
    have z5 := o5.size
    clear o5
    have lim_t3_0 := R_t3_0.lim
    have low_t3_0 := Low.mono (lo' := w4.heap.size + 0) R_t3_0.low (by first | exact Nat.le_refl _ | (simp <;> omega))
    go_wp2_with fail
    refine (eqIntS_yes _ _ _ _ _ _ _ _ _ _ R_t2_0 R_t3_0 (fun _ _ => rfl) hn0_0).mono ?_
    rintro e w6 ⟨rfl, o6⟩
    clear R_t3_0 lim_t3_0 low_t3_0
    replace R_t2_0 := Row.below R_t2_0 o6 (Nat.le_refl _)
    replace O := Old.trans O o6
    have z6 := o6.size
    clear o6
    go_wp2
    go_ret
    exact ⟨rfl, O⟩
  · go_enter Tryd.func7, Tryd.ntmps7
    go_wp2
    go_ret
    exact ⟨rfl, oldA⟩

set_option maxRecDepth 100000 in
theorem liftedFormatNat (os : Os) (started : os.Started) (H : Type) (enc : TypeId × Value → H) :
    ReturnsInHanded {} Tryd.checked os 7 .any (fun w args => (Rows.fnExactFormatNatSpec.pre enc Tryd.prog Tryd.f7 Rows.fnExactFormatNatRow.domain false w args ∧ laidMetH Tryd.prog Rows.fnExactFormatNatRow.laid w) ∧ sizedMet enc Tryd.prog Tryd.f7 (OpenSpec.ofChange Rows.fnExactFormatNatSpec) false w args)
      (Rows.fnExactFormatNatSpec.post enc Tryd.prog Tryd.f7 false true false false) := by
  refine returnsInHanded_of_change_and (C := Tryd.checked) (X := (fun w _ => laidMetH Tryd.prog Rows.fnExactFormatNatRow.laid w)) (fun _ _ _ hh h => h.of_heap hh) ownKnob_none started (by kernel_rfl) Tryd.func7
    (ChangeSpec.witness_shaped (enc := enc) (C := Tryd.checked) (X := (fun w _ => laidMetH Tryd.prog Rows.fnExactFormatNatRow.laid w)) false (World.laidAll Tryd.prog os Rows.fnExactFormatNatRow.laid) #[.slice none 0 0] 8 (World.laidAll_os _ _ _) (World.shaped_of_ZipB (by kernel_rfl) (by kernel_rfl)) (by kernel_rfl) (by kernel_rfl) (by kernel_rfl)
      (by show laidMetH Tryd.prog Rows.fnExactFormatNatRow.laid _; rw [MakeChecks.laidMetH_plain _ _ _ (by kernel_rfl)]; exact laidMet_laidAll _ (by kernel_rfl) (by kernel_rfl))) ?_
  intro W base args ds gs before hval0 hW hcnd _ hL _
  have hval : ∀ (j : Nat) t v, Tryd.f7.params[j]? = some t → args[j]? = some v → Value.okWide Tryd.prog W .any base t v := hval0
  have hW' := hW
  obtain ⟨p, q, hA0, hV, rfl, hfz, hnd⟩ := hW
  have hA : DataW.TrodAll enc Tryd.prog W 0 (fun _ => true) true Tryd.f7.params.toList args.toList ds p := hA0
  rw [Tryd.params7] at hA hval
  obtain ⟨v0, vs0, d0, ds0, p0, q0, hargs, rfl, rfl, h0, r0⟩ := trodAll_cons hA
  obtain ⟨rfl, rfl, rfl⟩ := trodAll_nil r0
  obtain rfl : args = #[v0] := by cases args; simp_all
  obtain ⟨rfl, rfl⟩ := trodVars_none hV
  obtain ⟨A0, n0, c0, rfl⟩ := okWide_slice Tryd.underlying22 (hval 0 22 v0 rfl rfl)
  have k0 := h0
  have lt0 : ∀ x ∈ p0, x.block < W.heap.size := by obtain ⟨m, hm⟩ := k0; exact DataW.trod_lt m _ _ _ hm
  obtain ⟨f0, g0⟩ := open_rd h0
  have KT : KT W := kt_of (by have h := hL; rw [MakeChecks.laidMetH_plain _ _ _ (by kernel_rfl)] at h; exact h)
  clear hA0 hval0
  refine (walkFormatNat A0 n0 c0 f0 W g0 KT).mono fun e W' ⟨he, bel⟩ => ?_
  subst he
  exact ⟨_, rfl, _, _, _, [], _, [], hW', trodAll_mk1 (shut_bool Tryd.underlying4 _), (trodAll_cons_mk (Below.trod laidOut (by kernel_rfl) (of_decide_eq_true (by kernel_rfl)) k0 bel lt0) trodAll_mk0), rfl, bel.frame _, fun h => by cases h⟩

theorem inPlaceFormatNat : (Rows.fnExactFormatNatRow.inPlace == Tryd.prog.inPlace 7) = true := by kernel_rfl
theorem unfollowedFormatNat : (Rows.fnExactFormatNatRow.unfollowed == Tryd.prog.unfollowed 7) = true := by kernel_rfl
theorem recursesFormatNat : (Rows.fnExactFormatNatRow.recurses == Tryd.prog.recurses 7) = true := by kernel_rfl
theorem namedFormatNat : (Rows.fnExactFormatNatRow.named == Tryd.prog.varsNamed 7) = true := by kernel_rfl
theorem closedFormatNat : joinedFacts Tryd.prog 7 Tryd.f7 Rows.fnExactFormatNatSpec Rows.fnExactFormatNatRow = true :=
  joined_of (by kernel_rfl) laidOut mapsRowed_yes (by kernel_rfl) (by kernel_rfl) (by kernel_rfl) stops_none (by kernel_rfl) knobs_none inPlaceFormatNat unfollowedFormatNat recursesFormatNat namedFormatNat
    (by kernel_rfl) (by kernel_rfl) (by kernel_rfl) (by kernel_rfl) (by kernel_rfl) (by kernel_rfl) (by kernel_rfl) (by kernel_rfl) (by kernel_rfl) plainKeys_yes (by kernel_rfl) (by kernel_rfl) stopsHeard_yes mayEnter_yes liftsFinal_no (by kernel_rfl) make_cut (by kernel_rfl)
    (by kernel_rfl) (by kernel_rfl) (by kernel_rfl) (by kernel_rfl) (by kernel_rfl)

/-- The statement. -/
theorem fnExactFormatNat_holds : Rows.FnExactFormatNatSaid :=
  OpenClaim.holds_of_wide 7 Tryd.f7 rfl rfl rfl rfl rfl rfl rfl ⟨rfl, rfl, rfl, rfl, rfl⟩ rfl rfl rfl rfl rfl (by kernel_rfl) Tryd.func7 closedFormatNat
    (of_decide_eq_true (by kernel_rfl)) (by unfold Func.isWrapper; first | (rw [if_pos (by decide +kernel)]; kernel_rfl) | (rw [if_neg (by decide +kernel)]; exact ⟨rfl, rfl⟩))
    (fun os started H enc _ => liftedFormatNat os started H enc)
/-- The tied card. -/
theorem fnExactFormatNatCard_holds : Rows.FnExactFormatNatCardSaid :=
  Claim7.holds_tied_plain_at .later [] [.data, .data, .data] true (true, "2ed6f013edc0a1dd32c40f312f03f1229820e2024ef8c38a3167b442211cc521") true
    fnExactFormatNat_holds (fun _ h => by cases h) (by kernel_rfl) (fun _ h => by cases h) fnExactFormatNat_row_tie rfl ⟨rfl, rfl⟩ (by kernel_rfl) rfl
    (fun f fn hf hfn => by
      obtain rfl : f = 7 := Option.some.inj ((show Tryd.prog.funcNamed "loop.example/g00811/laws.FnExactFormatNat" = some 7 by kernel_rfl).symm.trans hf) |>.symm
      obtain rfl : fn = Tryd.f7 := (Option.some.inj (Tryd.func7.symm.trans hfn)).symm
      exact ⟨by kernel_rfl, fun j t ht => by
        have hm : t ∈ Tryd.f7.params.toList := by rw [Array.getElem?_eq_some_iff] at ht; obtain ⟨h1, h2⟩ := ht; rw [← h2]; simp
        rw [Tryd.params7] at hm
        have hall : ([22] : List TypeId).all (fun t => Tryd.prog.wantsStandIn t == false) = true := by kernel_rfl
        exact eq_of_beq (List.all_eq_true.1 hall t hm)⟩)
    (by kernel_rfl)
end Go.Proofs.YtkoebpoejafgnaaDoor
