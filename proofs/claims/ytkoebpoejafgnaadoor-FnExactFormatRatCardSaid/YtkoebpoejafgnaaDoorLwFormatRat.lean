import Derived.Test.YtkoebpoejafgnaaDoorArgs
import Derived.Test.YtkoebpoejafgnaaDoorKnow
import Derived.Deep.DeepCutAuto
import Derived.Deep.RegionHeld3
import Derived.Deep.DrawnRows
import Derived.Test.YtkoebpoejafgnaaDoorBoxes
import Derived.Test.YtkoebpoejafgnaaDoorRatLaw
import Derived.Test.YtkoebpoejafgnaaDoorRatTxt
import Derived.Test.YtkoebpoejafgnaaDoorRatArgs
/-
  The law FnExactFormatRat: the program's function and the reference's return the same, the arguments are left as they were, and the result is memory of its own.
-/
namespace Go.Proofs.YtkoebpoejafgnaaDoor
set_option linter.unusedVariables false
open Go.ChangeShapes Go.WideShapes Go.ChangeAt Go.RowKit
open Go.ChangeMaps (open_string shut_string)
attribute [local go_sem ↓] Go.wp_at_zero Go.wp_at_succ
set_option maxRecDepth 100000 in
set_option maxHeartbeats 8000000 in
theorem walkFormatRat (v0_0 : Bool) (A0_1 : Option Addr) (n0_1 c0_1 : Nat) (f0_1 : Nat → Int) (A0_2 : Option Addr) (n0_2 c0_2 : Nat) (f0_2 : Nat → Int) (w : World) (h0_1 : Rd w A0_1 n0_1 c0_1 f0_1) (h0_2 : Rd w A0_2 n0_2 c0_2 f0_2) (hm0_1 : n0_1 ≤ 9223372036854775807) (hm0_2 : n0_2 ≤ 9223372036854775807) (KT : KT w) :
    Calls Tryd.prog 13 #[.agg #[.bool v0_0, .slice A0_1 n0_1 c0_1, .slice A0_2 n0_2 c0_2]] w fun e w' => e = .returned (.bool true) ∧ Old w w' := by
  have O := Old.refl w
  go_enter Tryd.func13, Tryd.ntmps13
  go_wp2_with fail
  by_cases hs0 : (n0_1 : Int) + (n0_2 : Int) ≤ 1048576
  case neg =>
    refine (szRat_no _ _ _ _ _ _ _ _ _ hm0_1 hm0_2 (by omega) (by omega) hs0).mono ?_
    rintro e w1 ⟨rfl, o1⟩
    go_wp2
    go_ret
    exact ⟨rfl, Old.trans O (Below.trans (b := _) oldA (Below.mono o1 (by simp <;> omega)))⟩
  have hn0_1 : n0_1 ≤ 1048576 := by omega
  have hn0_2 : n0_2 ≤ 1048576 := by omega
  refine (szRat_yes _ _ _ _ _ _ _ _ _ hm0_1 hm0_2 (by omega) (by omega) hs0).mono ?_
  rintro e w1 ⟨rfl, o1⟩
  have B_aR : Bx w1 w.heap.size #[.bool v0_0, .slice A0_1 n0_1 c0_1, .slice A0_2 n0_2 c0_2] := Bx.old (Bx.new _ _ _) o1
  have zb1 := B_aR.lt
  replace o1 : Old w w1 := Below.trans (b := _) oldA (Below.mono o1 (by simp <;> omega))
  replace O := Old.trans O o1
  have z1 := o1.size
  clear o1
  have hl0 : ¬ 1048576 - (n0_1 : Int) - (n0_2 : Int) < 0 := by omega
  have q_aR_0 := B_aR.cell 0 rfl
  have q_aR_1 := B_aR.cell 1 rfl
  have q_aR_2 := B_aR.cell 2 rfl
  have q_aR := B_aR.lt
  go_wp2_with fail
  refine (toRat_any _ _ _ _ _ _ _ _ _ _ (h0_1.below (B := w.heap.size) (Below.trans (b := w1) O oldA) (Nat.le_refl _)) (h0_2.below (B := w.heap.size) (Below.trans (b := w1) O oldA) (Nat.le_refl _)) hn0_1 hn0_2).mono ?_
  rintro e w2 ⟨A_t1_1, A_t1_2, rfl, R_t1_1, R_t1_2, ap_t1, o2⟩
  clear q_aR_0 q_aR_1 q_aR_2 q_aR
  replace B_aR := B_aR.old o2
  replace O := Old.trans O o2
  have z2 := o2.size
  clear o2
  have lim_t1_1 := R_t1_1.lim
  have low_t1_1 := Low.mono (lo' := w1.heap.size + 0) R_t1_1.low (by first | exact Nat.le_refl _ | (simp <;> omega))
  have lim_t1_2 := R_t1_2.lim
  have low_t1_2 := Low.mono (lo' := w1.heap.size + 0) R_t1_2.low (by first | exact Nat.le_refl _ | (simp <;> omega))
  go_wp2_with fail
  refine (spec_FormatRat _ _ _ _ _ _ _ _ _ _ _ _ R_t1_1 R_t1_2 hn0_1 hn0_2).mono ?_
  rintro e w3 ⟨rfl, o3⟩
  clear R_t1_1 lim_t1_1 low_t1_1
  clear R_t1_2 lim_t1_2 low_t1_2
  replace B_aR := B_aR.old o3
  replace O := Old.trans O o3
  have z3 := o3.size
  clear o3
  have q_aR_0 := B_aR.cell 0 rfl
  have q_aR_1 := B_aR.cell 1 rfl
  have q_aR_2 := B_aR.cell 2 rfl
  have q_aR := B_aR.lt
  go_wp2_with fail
  refine (toRat_any _ _ _ _ _ _ _ _ _ _ (h0_1.below (B := w.heap.size) (Below.trans (b := w3) O oldA) (Nat.le_refl _)) (h0_2.below (B := w.heap.size) (Below.trans (b := w3) O oldA) (Nat.le_refl _)) hn0_1 hn0_2).mono ?_
  rintro e w4 ⟨A_t2_1, A_t2_2, rfl, R_t2_1, R_t2_2, ap_t2, o4⟩
  clear q_aR_0 q_aR_1 q_aR_2 q_aR
  replace B_aR := B_aR.old o4
  replace O := Old.trans O o4
  have z4 := o4.size
  clear o4
  have lim_t2_1 := R_t2_1.lim
  have low_t2_1 := Low.mono (lo' := w3.heap.size + 0) R_t2_1.low (by first | exact Nat.le_refl _ | (simp <;> omega))
  have lim_t2_2 := R_t2_2.lim
  have low_t2_2 := Low.mono (lo' := w3.heap.size + 0) R_t2_2.low (by first | exact Nat.le_refl _ | (simp <;> omega))
  go_wp2_with fail
  refine (impl_FormatRat _ _ _ _ _ _ _ _ _ _ _ _ (Row.below (B := w4.heap.size) R_t2_1 oldA (Nat.le_refl _)) (Row.below (B := w4.heap.size) R_t2_2 oldA (Nat.le_refl _)) hn0_1 hn0_2 (KT.old (Below.trans (b := w4) O oldA))).mono ?_
  rintro e w5 ⟨rfl, o5⟩
  have B_t2 : Bx w5 w4.heap.size #[.bool v0_0, .slice A_t2_1 n0_1 n0_1, .slice A_t2_2 n0_2 n0_2] := Bx.old (Bx.new _ _ _) o5
  have zb5 := B_t2.lt
  replace o5 : Old w4 w5 := Below.trans (b := _) oldA (Below.mono o5 (by simp <;> omega))
  replace B_aR := B_aR.old o5
  replace R_t2_1 := Row.below R_t2_1 o5 (Nat.le_refl _)
  replace R_t2_2 := Row.below R_t2_2 o5 (Nat.le_refl _)
  replace O := Old.trans O o5
  have z5 := o5.size
  clear o5
  have q_aR_0 := B_aR.cell 0 rfl
  have q_aR_1 := B_aR.cell 1 rfl
  have q_aR_2 := B_aR.cell 2 rfl
  have q_aR := B_aR.lt
  have q_t2_0 := B_t2.cell 0 rfl
  have q_t2_1 := B_t2.cell 1 rfl
  have q_t2_2 := B_t2.cell 2 rfl
  have q_t2 := B_t2.lt
  go_upto_region 10 with fail
  go_cut [26] (fun sl wx => sl = .bool false ∧ Old w5 wx)
  case first =>
    go_region_held3 (fun w' => w'.cell? ⟨w.heap.size, 0, none⟩ = some (.bool v0_0) ∧ w'.cell? ⟨w.heap.size, 1, none⟩ = some (.slice A0_1 n0_1 c0_1) ∧ w'.cell? ⟨w.heap.size, 2, none⟩ = some (.slice A0_2 n0_2 c0_2) ∧ w'.cell? ⟨w4.heap.size, 0, none⟩ = some (.bool v0_0) ∧ w'.cell? ⟨w4.heap.size, 1, none⟩ = some (.slice A_t2_1 n0_1 n0_1) ∧ w'.cell? ⟨w4.heap.size, 2, none⟩ = some (.slice A_t2_2 n0_2 n0_2)) (go_keep)
      (first
      | (go_at_call 59; refine (toRat_any v0_0 A0_1 n0_1 c0_1 f0_1 A0_2 n0_2 c0_2 f0_2 _ (h0_1.below (B := w.heap.size) (Below.trans (b := w5) O oldA) (Nat.le_refl _)) (h0_2.below (B := w.heap.size) (Below.trans (b := w5) O oldA) (Nat.le_refl _)) hn0_1 hn0_2).mono ?_; rintro e wt ⟨A_t_1, A_t_2, rfl, R_t_1, R_t_2, ap_t, o6⟩; replace o6 : Old w5 wt := Below.trans (b := _) oldA (Below.mono o6 leA); clear q_aR_0 q_aR_1 q_aR_2 q_aR q_t2_0 q_t2_1 q_t2_2 q_t2; have D_aR := B_aR.old o6; have q_aR_0 := D_aR.cell 0 rfl; have q_aR_1 := D_aR.cell 1 rfl; have q_aR_2 := D_aR.cell 2 rfl; have q_aR := D_aR.lt; have D_t2 := B_t2.old o6; have q_t2_0 := D_t2.cell 0 rfl; have q_t2_1 := D_t2.cell 1 rfl; have q_t2_2 := D_t2.cell 2 rfl; have q_t2 := D_t2.lt)
      | (go_at_call 61; refine (eqRat_yes _ _ _ _ _ _ _ _ _ _ _ _ _ _ _ _ _ _ _ _ (Row.below (B := w5.heap.size) R_t2_1 (Below.trans (b := wt) o6 oldA) (Nat.le_refl _)) (Row.below (B := wt.heap.size) R_t_1 oldA (Nat.le_refl _)) (fun _ _ => rfl) hn0_1 (Row.below (B := w5.heap.size) R_t2_2 (Below.trans (b := wt) o6 oldA) (Nat.le_refl _)) (Row.below (B := wt.heap.size) R_t_2 oldA (Nat.le_refl _)) (fun _ _ => rfl) hn0_2).mono ?_; rintro e wu ⟨rfl, o7⟩; replace o7 : Old wt wu := Below.trans (b := _) oldA (Below.mono o7 leA); clear q_aR_0 q_aR_1 q_aR_2 q_aR q_t2_0 q_t2_1 q_t2_2 q_t2; have E_aR := D_aR.old o7; have q_aR_0 := E_aR.cell 0 rfl; have q_aR_1 := E_aR.cell 1 rfl; have q_aR_2 := E_aR.cell 2 rfl; have q_aR := E_aR.lt; have E_t2 := D_t2.old o7; have q_t2_0 := E_t2.cell 0 rfl; have q_t2_1 := E_t2.cell 1 rfl; have q_t2_2 := E_t2.cell 2 rfl; have q_t2 := E_t2.lt))
    all_goals (go_wp2_with fail; go_meet; exact ⟨rfl, Old.trans o6 (Below.trans (b := _) o7 oldA)⟩)
  case rest =>
  obtain ⟨rfl, o6⟩ := hcut
  obtain ⟨w6, hw⟩ : ∃ x, x = wc := ⟨_, rfl⟩
  subst hw
  clear q_aR_0 q_aR_1 q_aR_2 q_aR q_t2_0 q_t2_1 q_t2_2 q_t2
  replace B_aR := B_aR.old o6
  replace B_t2 := B_t2.old o6
  replace R_t2_1 := Row.below R_t2_1 o6 (Nat.le_refl _)
  replace R_t2_2 := Row.below R_t2_2 o6 (Nat.le_refl _)
  replace O := Old.trans O o6
  have z6 := o6.size
  clear o6
  clear B_aR
  clear R_t2_1 lim_t2_1 low_t2_1
  clear R_t2_2 lim_t2_2 low_t2_2
  clear B_t2
  go_wp2
  go_ret
  exact ⟨rfl, O⟩

set_option maxRecDepth 100000 in
theorem liftedFormatRat (os : Os) (started : os.Started) (H : Type) (enc : TypeId × Value → H) :
    ReturnsInHanded {} Tryd.checked os 13 .any (fun w args => (Rows.fnExactFormatRatSpec.pre enc Tryd.prog Tryd.f13 Rows.fnExactFormatRatRow.domain false w args ∧ laidMetH Tryd.prog Rows.fnExactFormatRatRow.laid w) ∧ sizedMet enc Tryd.prog Tryd.f13 (OpenSpec.ofChange Rows.fnExactFormatRatSpec) false w args)
      (Rows.fnExactFormatRatSpec.post enc Tryd.prog Tryd.f13 false true false false) := by
  refine returnsInHanded_of_change_and (C := Tryd.checked) (X := (fun w _ => laidMetH Tryd.prog Rows.fnExactFormatRatRow.laid w)) (fun _ _ _ hh h => h.of_heap hh) ownKnob_none started (by kernel_rfl) Tryd.func13
    (ChangeSpec.witness_shaped (enc := enc) (C := Tryd.checked) (X := (fun w _ => laidMetH Tryd.prog Rows.fnExactFormatRatRow.laid w)) false (World.laidAll Tryd.prog os Rows.fnExactFormatRatRow.laid) #[.agg #[.bool false, .slice none 0 0, .slice none 0 0]] 8 (World.laidAll_os _ _ _) (World.shaped_of_ZipB (by kernel_rfl) (by kernel_rfl)) (by kernel_rfl) (by kernel_rfl) (by kernel_rfl)
      (by show laidMetH Tryd.prog Rows.fnExactFormatRatRow.laid _; rw [MakeChecks.laidMetH_plain _ _ _ (by kernel_rfl)]; exact laidMet_laidAll _ (by kernel_rfl) (by kernel_rfl))) ?_
  intro W base args ds gs before hval0 hW hcnd _ hL _
  have hval : ∀ (j : Nat) t v, Tryd.f13.params[j]? = some t → args[j]? = some v → Value.okWide Tryd.prog W .any base t v := hval0
  have hW' := hW
  obtain ⟨p, q, hA0, hV, rfl, hfz, hnd⟩ := hW
  have hA : DataW.TrodAll enc Tryd.prog W 0 (fun _ => true) true Tryd.f13.params.toList args.toList ds p := hA0
  rw [Tryd.params13] at hA hval
  obtain ⟨v0, vs0, d0, ds0, p0, q0, hargs, rfl, rfl, h0, r0⟩ := trodAll_cons hA
  obtain ⟨rfl, rfl, rfl⟩ := trodAll_nil r0
  obtain rfl : args = #[v0] := by cases args; simp_all
  obtain ⟨rfl, rfl⟩ := trodVars_none hV
  have k0 := h0
  have lt0 : ∀ x ∈ p0, x.block < W.heap.size := by obtain ⟨m, hm⟩ := k0; exact DataW.trod_lt m _ _ _ hm
  obtain ⟨x0_0, A0_1, n0_1, c0_1, f0_1, A0_2, n0_2, c0_2, f0_2, rfl, g0_1, m0_1, g0_2, m0_2⟩ := open_rat (hval 0 26 v0 rfl rfl) h0
  have KT : KT W := kt_of (by have h := hL; rw [MakeChecks.laidMetH_plain _ _ _ (by kernel_rfl)] at h; exact h)
  clear hA0 hval0
  refine (walkFormatRat x0_0 A0_1 n0_1 c0_1 f0_1 A0_2 n0_2 c0_2 f0_2 W g0_1 g0_2 m0_1 m0_2 KT).mono fun e W' ⟨he, bel⟩ => ?_
  subst he
  exact ⟨_, rfl, _, _, _, [], _, [], hW', trodAll_mk1 (shut_bool Tryd.underlying4 _), (trodAll_cons_mk (Below.trod laidOut (by kernel_rfl) (of_decide_eq_true (by kernel_rfl)) k0 bel lt0) trodAll_mk0), rfl, bel.frame _, fun h => by cases h⟩

theorem inPlaceFormatRat : (Rows.fnExactFormatRatRow.inPlace == Tryd.prog.inPlace 13) = true := by kernel_rfl
theorem unfollowedFormatRat : (Rows.fnExactFormatRatRow.unfollowed == Tryd.prog.unfollowed 13) = true := by kernel_rfl
theorem recursesFormatRat : (Rows.fnExactFormatRatRow.recurses == Tryd.prog.recurses 13) = true := by kernel_rfl
theorem namedFormatRat : (Rows.fnExactFormatRatRow.named == Tryd.prog.varsNamed 13) = true := by kernel_rfl
theorem closedFormatRat : joinedFacts Tryd.prog 13 Tryd.f13 Rows.fnExactFormatRatSpec Rows.fnExactFormatRatRow = true :=
  joined_of (by kernel_rfl) laidOut mapsRowed_yes (by kernel_rfl) (by kernel_rfl) (by kernel_rfl) stops_none (by kernel_rfl) knobs_none inPlaceFormatRat unfollowedFormatRat recursesFormatRat namedFormatRat
    (by kernel_rfl) (by kernel_rfl) (by kernel_rfl) (by kernel_rfl) (by kernel_rfl) (by kernel_rfl) (by kernel_rfl) (by kernel_rfl) (by kernel_rfl) plainKeys_yes (by kernel_rfl) (by kernel_rfl) stopsHeard_yes mayEnter_yes liftsFinal_no (by kernel_rfl) make_cut (by kernel_rfl)
    (by kernel_rfl) (by kernel_rfl) (by kernel_rfl) (by kernel_rfl) (by kernel_rfl)

/-- The statement. -/
theorem fnExactFormatRat_holds : Rows.FnExactFormatRatSaid :=
  OpenClaim.holds_of_wide 13 Tryd.f13 rfl rfl rfl rfl rfl rfl rfl ⟨rfl, rfl, rfl, rfl, rfl⟩ rfl rfl rfl rfl rfl (by kernel_rfl) Tryd.func13 closedFormatRat
    (of_decide_eq_true (by kernel_rfl)) (by unfold Func.isWrapper; first | (rw [if_pos (by decide +kernel)]; kernel_rfl) | (rw [if_neg (by decide +kernel)]; exact ⟨rfl, rfl⟩))
    (fun os started H enc _ => liftedFormatRat os started H enc)
/-- The tied card. -/
theorem fnExactFormatRatCard_holds : Rows.FnExactFormatRatCardSaid :=
  Claim7.holds_tied_plain_at .later [] [.data, .data, .data] true (true, "2ed6f013edc0a1dd32c40f312f03f1229820e2024ef8c38a3167b442211cc521") true
    fnExactFormatRat_holds (fun _ h => by cases h) (by kernel_rfl) (fun _ h => by cases h) fnExactFormatRat_row_tie rfl ⟨rfl, rfl⟩ (by kernel_rfl) rfl
    (fun f fn hf hfn => by
      obtain rfl : f = 13 := Option.some.inj ((show Tryd.prog.funcNamed "loop.example/g00811/laws.FnExactFormatRat" = some 13 by kernel_rfl).symm.trans hf) |>.symm
      obtain rfl : fn = Tryd.f13 := (Option.some.inj (Tryd.func13.symm.trans hfn)).symm
      exact ⟨by kernel_rfl, fun j t ht => by
        have hm : t ∈ Tryd.f13.params.toList := by rw [Array.getElem?_eq_some_iff] at ht; obtain ⟨h1, h2⟩ := ht; rw [← h2]; simp
        rw [Tryd.params13] at hm
        have hall : ([26] : List TypeId).all (fun t => Tryd.prog.wantsStandIn t == false) = true := by kernel_rfl
        exact eq_of_beq (List.all_eq_true.1 hall t hm)⟩)
    (by kernel_rfl)
end Go.Proofs.YtkoebpoejafgnaaDoor
