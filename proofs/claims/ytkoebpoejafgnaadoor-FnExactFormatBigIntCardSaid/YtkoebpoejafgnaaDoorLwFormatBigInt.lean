import Derived.Test.YtkoebpoejafgnaaDoorArgs
import Derived.Test.YtkoebpoejafgnaaDoorKnow
import Derived.Deep.DeepCutAuto
import Derived.Deep.RegionHeld3
import Derived.Deep.DrawnRows
import Derived.Test.YtkoebpoejafgnaaDoorBoxes
import Derived.Test.YtkoebpoejafgnaaDoorBigLaw
import Derived.Test.YtkoebpoejafgnaaDoorBigTxt
/-
  The law FnExactFormatBigInt: the program's function and the reference's return the same, the arguments are left as they were, and the result is memory of its own.
-/
namespace Go.Proofs.YtkoebpoejafgnaaDoor
set_option linter.unusedVariables false
open Go.ChangeShapes Go.WideShapes Go.ChangeAt Go.RowKit
open Go.ChangeMaps (open_string shut_string)
attribute [local go_sem ↓] Go.wp_at_zero Go.wp_at_succ
set_option maxRecDepth 100000 in
set_option maxHeartbeats 1000000 in
theorem walkFormatBigInt (v0_0 : Bool) (A0_1 : Option Addr) (n0_1 c0_1 : Nat) (f0_1 : Nat → Int) (w : World) (h0_1 : Rd w A0_1 n0_1 c0_1 f0_1) (hm0_1 : n0_1 ≤ 9223372036854775807) (KT : KT w) :
    Calls Tryd.prog 8 #[.agg #[.bool v0_0, .slice A0_1 n0_1 c0_1]] w fun e w' => e = .returned (.bool true) ∧ Old w w' := by
  have O := Old.refl w
  go_enter Tryd.func8, Tryd.ntmps8
  go_wp2_with fail
  by_cases hs0 : (n0_1 : Int) ≤ 1048576
  case neg =>
    refine (szBigInt_no _ _ _ _ _ _ hm0_1 (by omega) (by omega) hs0).mono ?_
    rintro e w1 ⟨rfl, o1⟩
    go_wp2
    go_ret
    exact ⟨rfl, Old.trans O (Below.trans (b := _) oldA (Below.mono o1 (by simp <;> omega)))⟩
  have hn0_1 : n0_1 ≤ 1048576 := by omega
  refine (szBigInt_yes _ _ _ _ _ _ hm0_1 (by omega) (by omega) hs0).mono ?_
  rintro e w1 ⟨rfl, o1⟩
  have B_aX : Bx w1 w.heap.size #[.bool v0_0, .slice A0_1 n0_1 c0_1] := Bx.old (Bx.new _ _ _) o1
  have zb1 := B_aX.lt
  replace o1 : Old w w1 := Below.trans (b := _) oldA (Below.mono o1 (by simp <;> omega))
  replace O := Old.trans O o1
  have z1 := o1.size
  clear o1
  have hl0 : ¬ 1048576 - (n0_1 : Int) < 0 := by omega
  have q_aX_0 := B_aX.cell 0 rfl
  have q_aX_1 := B_aX.cell 1 rfl
  have q_aX := B_aX.lt
  go_wp2_with fail
  refine (toBigInt_any _ _ _ _ _ _ (h0_1.below (B := w.heap.size) (Below.trans (b := w1) O oldA) (Nat.le_refl _)) hn0_1).mono ?_
  rintro e w2 ⟨A_t1_1, rfl, R_t1_1, o2⟩
  clear q_aX_0 q_aX_1 q_aX
  replace B_aX := B_aX.old o2
  replace O := Old.trans O o2
  have z2 := o2.size
  clear o2
  have lim_t1_1 := R_t1_1.lim
  have low_t1_1 := Low.mono (lo' := w1.heap.size + 0) R_t1_1.low (by first | exact Nat.le_refl _ | (simp <;> omega))
  have q_aX_0 := B_aX.cell 0 rfl
  have q_aX_1 := B_aX.cell 1 rfl
  have q_aX := B_aX.lt
  go_wp2_with fail
  refine (spec_FormatBigInt _ _ _ _ _ _ _ R_t1_1 hn0_1).mono ?_
  rintro e w3 ⟨rfl, o3⟩
  clear q_aX_0 q_aX_1 q_aX
  clear R_t1_1 lim_t1_1 low_t1_1
  replace B_aX := B_aX.old o3
  replace O := Old.trans O o3
  have z3 := o3.size
  clear o3
  have q_aX_0 := B_aX.cell 0 rfl
  have q_aX_1 := B_aX.cell 1 rfl
  have q_aX := B_aX.lt
  go_wp2_with fail
  refine (toBigInt_any _ _ _ _ _ _ (h0_1.below (B := w.heap.size) (Below.trans (b := w3) O oldA) (Nat.le_refl _)) hn0_1).mono ?_
  rintro e w4 ⟨A_t2_1, rfl, R_t2_1, o4⟩
  clear q_aX_0 q_aX_1 q_aX
  replace B_aX := B_aX.old o4
  replace O := Old.trans O o4
  have z4 := o4.size
  clear o4
  have lim_t2_1 := R_t2_1.lim
  have low_t2_1 := Low.mono (lo' := w3.heap.size + 0) R_t2_1.low (by first | exact Nat.le_refl _ | (simp <;> omega))
  have q_aX_0 := B_aX.cell 0 rfl
  have q_aX_1 := B_aX.cell 1 rfl
  have q_aX := B_aX.lt
  go_wp2_with fail
  refine (impl_FormatBigInt _ _ _ _ _ _ _ (Row.below (B := w4.heap.size) R_t2_1 oldA (Nat.le_refl _)) hn0_1 (KT.old (Below.trans (b := w4) O oldA))).mono ?_
  rintro e w5 ⟨rfl, o5⟩
  clear q_aX_0 q_aX_1 q_aX
  have B_t2 : Bx w5 w4.heap.size #[.bool v0_0, .slice A_t2_1 n0_1 n0_1] := Bx.old (Bx.new _ _ _) o5
  have zb5 := B_t2.lt
  replace o5 : Old w4 w5 := Below.trans (b := _) oldA (Below.mono o5 (by simp <;> omega))
  replace B_aX := B_aX.old o5
  replace R_t2_1 := Row.below R_t2_1 o5 (Nat.le_refl _)
  replace O := Old.trans O o5
  have z5 := o5.size
  clear o5
  have q_aX_0 := B_aX.cell 0 rfl
  have q_aX_1 := B_aX.cell 1 rfl
  have q_aX := B_aX.lt
  have q_t2_0 := B_t2.cell 0 rfl
  have q_t2_1 := B_t2.cell 1 rfl
  have q_t2 := B_t2.lt
  go_upto_region 10 with fail
  go_cut [26] (fun sl wx => sl = .bool false ∧ Old w5 wx)
  case first =>
    go_region_held3 (fun w' => w'.cell? ⟨w.heap.size, 0, none⟩ = some (.bool v0_0) ∧ w'.cell? ⟨w.heap.size, 1, none⟩ = some (.slice A0_1 n0_1 c0_1) ∧ w'.cell? ⟨w4.heap.size, 0, none⟩ = some (.bool v0_0) ∧ w'.cell? ⟨w4.heap.size, 1, none⟩ = some (.slice A_t2_1 n0_1 n0_1)) (go_keep)
      (first
      | (go_at_call 36; refine (toBigInt_any v0_0 A0_1 n0_1 c0_1 f0_1 _ (h0_1.below (B := w.heap.size) (Below.trans (b := w5) O oldA) (Nat.le_refl _)) hn0_1).mono ?_; rintro e wt ⟨A_t_1, rfl, R_t_1, o6⟩; replace o6 : Old w5 wt := Below.trans (b := _) oldA (Below.mono o6 leA); clear q_aX_0 q_aX_1 q_aX q_t2_0 q_t2_1 q_t2; have D_aX := B_aX.old o6; have q_aX_0 := D_aX.cell 0 rfl; have q_aX_1 := D_aX.cell 1 rfl; have q_aX := D_aX.lt; have D_t2 := B_t2.old o6; have q_t2_0 := D_t2.cell 0 rfl; have q_t2_1 := D_t2.cell 1 rfl; have q_t2 := D_t2.lt)
      | (go_at_call 38; refine (eqBigInt_yes _ _ _ _ _ _ _ _ _ _ _ (Row.below (B := w5.heap.size) R_t2_1 (Below.trans (b := wt) o6 oldA) (Nat.le_refl _)) (Row.below (B := wt.heap.size) R_t_1 oldA (Nat.le_refl _)) (fun _ _ => rfl) hn0_1).mono ?_; rintro e wu ⟨rfl, o7⟩; replace o7 : Old wt wu := Below.trans (b := _) oldA (Below.mono o7 leA); clear q_aX_0 q_aX_1 q_aX q_t2_0 q_t2_1 q_t2; have E_aX := D_aX.old o7; have q_aX_0 := E_aX.cell 0 rfl; have q_aX_1 := E_aX.cell 1 rfl; have q_aX := E_aX.lt; have E_t2 := D_t2.old o7; have q_t2_0 := E_t2.cell 0 rfl; have q_t2_1 := E_t2.cell 1 rfl; have q_t2 := E_t2.lt))
    all_goals (go_wp2_with fail; go_meet; exact ⟨rfl, Old.trans o6 (Below.trans (b := _) o7 oldA)⟩)
  case rest =>
  obtain ⟨rfl, o6⟩ := hcut
  obtain ⟨w6, hw⟩ : ∃ x, x = wc := ⟨_, rfl⟩
  subst hw
  clear q_aX_0 q_aX_1 q_aX q_t2_0 q_t2_1 q_t2
  replace B_aX := B_aX.old o6
  replace B_t2 := B_t2.old o6
  replace R_t2_1 := Row.below R_t2_1 o6 (Nat.le_refl _)
  replace O := Old.trans O o6
  have z6 := o6.size
  clear o6
  clear B_aX
  clear R_t2_1 lim_t2_1 low_t2_1
  clear B_t2
  go_wp2
  go_ret
  exact ⟨rfl, O⟩

set_option maxRecDepth 100000 in
theorem liftedFormatBigInt (os : Os) (started : os.Started) (H : Type) (enc : TypeId × Value → H) :
    ReturnsInHanded {} Tryd.checked os 8 .any (fun w args => (Rows.fnExactFormatBigIntSpec.pre enc Tryd.prog Tryd.f8 Rows.fnExactFormatBigIntRow.domain false w args ∧ laidMetH Tryd.prog Rows.fnExactFormatBigIntRow.laid w) ∧ sizedMet enc Tryd.prog Tryd.f8 (OpenSpec.ofChange Rows.fnExactFormatBigIntSpec) false w args)
      (Rows.fnExactFormatBigIntSpec.post enc Tryd.prog Tryd.f8 false true false false) := by
  refine returnsInHanded_of_change_and (C := Tryd.checked) (X := (fun w _ => laidMetH Tryd.prog Rows.fnExactFormatBigIntRow.laid w)) (fun _ _ _ hh h => h.of_heap hh) ownKnob_none started (by kernel_rfl) Tryd.func8
    (ChangeSpec.witness_shaped (enc := enc) (C := Tryd.checked) (X := (fun w _ => laidMetH Tryd.prog Rows.fnExactFormatBigIntRow.laid w)) false (World.laidAll Tryd.prog os Rows.fnExactFormatBigIntRow.laid) #[.agg #[.bool false, .slice none 0 0]] 8 (World.laidAll_os _ _ _) (World.shaped_of_ZipB (by kernel_rfl) (by kernel_rfl)) (by kernel_rfl) (by kernel_rfl) (by kernel_rfl)
      (by show laidMetH Tryd.prog Rows.fnExactFormatBigIntRow.laid _; rw [MakeChecks.laidMetH_plain _ _ _ (by kernel_rfl)]; exact laidMet_laidAll _ (by kernel_rfl) (by kernel_rfl))) ?_
  intro W base args ds gs before hval0 hW hcnd _ hL _
  have hval : ∀ (j : Nat) t v, Tryd.f8.params[j]? = some t → args[j]? = some v → Value.okWide Tryd.prog W .any base t v := hval0
  have hW' := hW
  obtain ⟨p, q, hA0, hV, rfl, hfz, hnd⟩ := hW
  have hA : DataW.TrodAll enc Tryd.prog W 0 (fun _ => true) true Tryd.f8.params.toList args.toList ds p := hA0
  rw [Tryd.params8] at hA hval
  obtain ⟨v0, vs0, d0, ds0, p0, q0, hargs, rfl, rfl, h0, r0⟩ := trodAll_cons hA
  obtain ⟨rfl, rfl, rfl⟩ := trodAll_nil r0
  obtain rfl : args = #[v0] := by cases args; simp_all
  obtain ⟨rfl, rfl⟩ := trodVars_none hV
  have k0 := h0
  have lt0 : ∀ x ∈ p0, x.block < W.heap.size := by obtain ⟨m, hm⟩ := k0; exact DataW.trod_lt m _ _ _ hm
  obtain ⟨x0_0, A0_1, n0_1, c0_1, f0_1, rfl, g0_1, m0_1⟩ := open_bigint (hval 0 24 v0 rfl rfl) h0
  have KT : KT W := kt_of (by have h := hL; rw [MakeChecks.laidMetH_plain _ _ _ (by kernel_rfl)] at h; exact h)
  clear hA0 hval0
  refine (walkFormatBigInt x0_0 A0_1 n0_1 c0_1 f0_1 W g0_1 m0_1 KT).mono fun e W' ⟨he, bel⟩ => ?_
  subst he
  exact ⟨_, rfl, _, _, _, [], _, [], hW', trodAll_mk1 (shut_bool Tryd.underlying4 _), (trodAll_cons_mk (Below.trod laidOut (by kernel_rfl) (of_decide_eq_true (by kernel_rfl)) k0 bel lt0) trodAll_mk0), rfl, bel.frame _, fun h => by cases h⟩

theorem inPlaceFormatBigInt : (Rows.fnExactFormatBigIntRow.inPlace == Tryd.prog.inPlace 8) = true := by kernel_rfl
theorem unfollowedFormatBigInt : (Rows.fnExactFormatBigIntRow.unfollowed == Tryd.prog.unfollowed 8) = true := by kernel_rfl
theorem recursesFormatBigInt : (Rows.fnExactFormatBigIntRow.recurses == Tryd.prog.recurses 8) = true := by kernel_rfl
theorem namedFormatBigInt : (Rows.fnExactFormatBigIntRow.named == Tryd.prog.varsNamed 8) = true := by kernel_rfl
theorem closedFormatBigInt : joinedFacts Tryd.prog 8 Tryd.f8 Rows.fnExactFormatBigIntSpec Rows.fnExactFormatBigIntRow = true :=
  joined_of (by kernel_rfl) laidOut mapsRowed_yes (by kernel_rfl) (by kernel_rfl) (by kernel_rfl) stops_none (by kernel_rfl) knobs_none inPlaceFormatBigInt unfollowedFormatBigInt recursesFormatBigInt namedFormatBigInt
    (by kernel_rfl) (by kernel_rfl) (by kernel_rfl) (by kernel_rfl) (by kernel_rfl) (by kernel_rfl) (by kernel_rfl) (by kernel_rfl) (by kernel_rfl) plainKeys_yes (by kernel_rfl) (by kernel_rfl) stopsHeard_yes mayEnter_yes liftsFinal_no (by kernel_rfl) make_cut (by kernel_rfl)
    (by kernel_rfl) (by kernel_rfl) (by kernel_rfl) (by kernel_rfl) (by kernel_rfl)

/-- The statement. -/
theorem fnExactFormatBigInt_holds : Rows.FnExactFormatBigIntSaid :=
  OpenClaim.holds_of_wide 8 Tryd.f8 rfl rfl rfl rfl rfl rfl rfl ⟨rfl, rfl, rfl, rfl, rfl⟩ rfl rfl rfl rfl rfl (by kernel_rfl) Tryd.func8 closedFormatBigInt
    (of_decide_eq_true (by kernel_rfl)) (by unfold Func.isWrapper; first | (rw [if_pos (by decide +kernel)]; kernel_rfl) | (rw [if_neg (by decide +kernel)]; exact ⟨rfl, rfl⟩))
    (fun os started H enc _ => liftedFormatBigInt os started H enc)
/-- The tied card. -/
theorem fnExactFormatBigIntCard_holds : Rows.FnExactFormatBigIntCardSaid :=
  Claim7.holds_tied_plain_at .later [] [.data, .data, .data] true (true, "2ed6f013edc0a1dd32c40f312f03f1229820e2024ef8c38a3167b442211cc521") true
    fnExactFormatBigInt_holds (fun _ h => by cases h) (by kernel_rfl) (fun _ h => by cases h) fnExactFormatBigInt_row_tie rfl ⟨rfl, rfl⟩ (by kernel_rfl) rfl
    (fun f fn hf hfn => by
      obtain rfl : f = 8 := Option.some.inj ((show Tryd.prog.funcNamed "loop.example/g00811/laws.FnExactFormatBigInt" = some 8 by kernel_rfl).symm.trans hf) |>.symm
      obtain rfl : fn = Tryd.f8 := (Option.some.inj (Tryd.func8.symm.trans hfn)).symm
      exact ⟨by kernel_rfl, fun j t ht => by
        have hm : t ∈ Tryd.f8.params.toList := by rw [Array.getElem?_eq_some_iff] at ht; obtain ⟨h1, h2⟩ := ht; rw [← h2]; simp
        rw [Tryd.params8] at hm
        have hall : ([24] : List TypeId).all (fun t => Tryd.prog.wantsStandIn t == false) = true := by kernel_rfl
        exact eq_of_beq (List.all_eq_true.1 hall t hm)⟩)
    (by kernel_rfl)
end Go.Proofs.YtkoebpoejafgnaaDoor
