import Derived.Test.YtkoebpoejafgnaaDoorArgs
import Derived.Test.YtkoebpoejafgnaaDoorKnow
import Derived.Deep.DeepCutAuto
import Derived.Deep.RegionHeld3
import Derived.Deep.DrawnRows
import Derived.Test.YtkoebpoejafgnaaDoorBoxes
import Derived.Test.YtkoebpoejafgnaaDoorPointLaw
import Derived.Test.YtkoebpoejafgnaaDoorPtTxt
import Derived.Test.YtkoebpoejafgnaaDoorRatArgs
import Derived.Test.YtkoebpoejafgnaaDoorWq
/-
  The law FnExactFormatPoint: the program's function and the reference's return the same, the arguments are left as they were, and the result is memory of its own.
-/
namespace Go.Proofs.YtkoebpoejafgnaaDoor
set_option linter.unusedVariables false
open Go.ChangeShapes Go.WideShapes Go.ChangeAt Go.RowKit
open Go.ChangeMaps (open_string shut_string)
attribute [local go_sem ↓] Go.wp_at_zero Go.wp_at_succ
set_option maxRecDepth 100000 in
set_option maxHeartbeats 8000000 in
theorem walkFormatPoint (v0_0 : Bool) (A0_1 : Option Addr) (n0_1 c0_1 : Nat) (f0_1 : Nat → Int) (A0_2 : Option Addr) (n0_2 c0_2 : Nat) (f0_2 : Nat → Int) (v0_3 : Bool) (A0_4 : Option Addr) (n0_4 c0_4 : Nat) (f0_4 : Nat → Int) (A0_5 : Option Addr) (n0_5 c0_5 : Nat) (f0_5 : Nat → Int) (w : World) (h0_1 : Rd w A0_1 n0_1 c0_1 f0_1) (h0_2 : Rd w A0_2 n0_2 c0_2 f0_2) (h0_4 : Rd w A0_4 n0_4 c0_4 f0_4) (h0_5 : Rd w A0_5 n0_5 c0_5 f0_5) (hm0_1 : n0_1 ≤ 9223372036854775807) (hm0_2 : n0_2 ≤ 9223372036854775807) (hm0_4 : n0_4 ≤ 9223372036854775807) (hm0_5 : n0_5 ≤ 9223372036854775807) (KT : KT w) :
    Calls Tryd.prog 3 #[.agg #[.bool v0_0, .slice A0_1 n0_1 c0_1, .slice A0_2 n0_2 c0_2, .bool v0_3, .slice A0_4 n0_4 c0_4, .slice A0_5 n0_5 c0_5]] w fun e w' => e = .returned (.bool true) ∧ Old w w' := by
  have O := Old.refl w
  go_enter Tryd.func3, Tryd.ntmps3
  go_wp2_with fail
  by_cases hs0 : (n0_1 : Int) + (n0_2 : Int) + (n0_4 : Int) + (n0_5 : Int) ≤ 1048576
  case neg =>
    refine (szPoint_no _ _ _ _ _ _ _ _ _ _ _ _ _ _ _ _ hm0_1 hm0_2 hm0_4 hm0_5 (by omega) (by omega) hs0).mono ?_
    rintro e w1 ⟨rfl, o1⟩
    go_wp2
    go_ret
    exact ⟨rfl, Old.trans O (Below.trans (b := _) oldB (Below.mono o1 (by simp <;> omega)))⟩
  have hn0_1 : n0_1 ≤ 1048576 := by omega
  have hn0_2 : n0_2 ≤ 1048576 := by omega
  have hn0_4 : n0_4 ≤ 1048576 := by omega
  have hn0_5 : n0_5 ≤ 1048576 := by omega
  refine (szPoint_yes _ _ _ _ _ _ _ _ _ _ _ _ _ _ _ _ hm0_1 hm0_2 hm0_4 hm0_5 (by omega) (by omega) hs0).mono ?_
  rintro e w1 ⟨rfl, o1⟩
  have B_aP : Bx w1 w.heap.size #[.bool v0_0, .slice A0_1 n0_1 c0_1, .slice A0_2 n0_2 c0_2, .bool v0_3, .slice A0_4 n0_4 c0_4, .slice A0_5 n0_5 c0_5] := Bx.old (Bx.new _ _ _) o1
  have zb1 := B_aP.lt
  replace o1 : Old w w1 := Below.trans (b := _) oldB (Below.mono o1 (by simp <;> omega))
  replace O := Old.trans O o1
  have z1 := o1.size
  clear o1
  have hl0 : ¬ 1048576 - (n0_1 : Int) - (n0_2 : Int) - (n0_4 : Int) - (n0_5 : Int) < 0 := by omega
  have q_aP_0 := B_aP.cell 0 rfl
  have q_aP_1 := B_aP.cell 1 rfl
  have q_aP_2 := B_aP.cell 2 rfl
  have q_aP_3 := B_aP.cell 3 rfl
  have q_aP_4 := B_aP.cell 4 rfl
  have q_aP_5 := B_aP.cell 5 rfl
  have q_aP := B_aP.lt
  go_wp2_with fail
  refine (toPoint_any _ _ _ _ _ _ _ _ _ _ _ _ _ _ _ _ _ _ _ (h0_1.below (B := w.heap.size) (Below.trans (b := w1) O oldB) (Nat.le_refl _)) (h0_2.below (B := w.heap.size) (Below.trans (b := w1) O oldB) (Nat.le_refl _)) (h0_4.below (B := w.heap.size) (Below.trans (b := w1) O oldB) (Nat.le_refl _)) (h0_5.below (B := w.heap.size) (Below.trans (b := w1) O oldB) (Nat.le_refl _)) hn0_1 hn0_2 hn0_4 hn0_5).mono ?_
  rintro e w2 ⟨A_t1_1, A_t1_2, A_t1_4, A_t1_5, rfl, R_t1_1, R_t1_2, R_t1_4, R_t1_5, ap_t1, o2⟩
  clear q_aP_0 q_aP_1 q_aP_2 q_aP_3 q_aP_4 q_aP_5 q_aP
  replace B_aP := B_aP.old o2
  replace O := Old.trans O o2
  have z2 := o2.size
  clear o2
  have lim_t1_1 := R_t1_1.lim
  have low_t1_1 := Low.mono (lo' := w1.heap.size + 0) R_t1_1.low (by first | exact Nat.le_refl _ | (simp <;> omega))
  have lim_t1_2 := R_t1_2.lim
  have low_t1_2 := Low.mono (lo' := w1.heap.size + 0) R_t1_2.low (by first | exact Nat.le_refl _ | (simp <;> omega))
  have lim_t1_4 := R_t1_4.lim
  have low_t1_4 := Low.mono (lo' := w1.heap.size + 0) R_t1_4.low (by first | exact Nat.le_refl _ | (simp <;> omega))
  have lim_t1_5 := R_t1_5.lim
  have low_t1_5 := Low.mono (lo' := w1.heap.size + 0) R_t1_5.low (by first | exact Nat.le_refl _ | (simp <;> omega))
  go_wp2_with fail
  refine (spec_FormatPoint _ _ _ _ _ _ _ _ _ _ _ _ _ _ _ _ _ _ _ _ _ _ _ R_t1_1 R_t1_2 R_t1_4 R_t1_5 hn0_1 hn0_2 hn0_4 hn0_5).mono ?_
  rintro e w3 ⟨rfl, o3⟩
  clear R_t1_1 lim_t1_1 low_t1_1
  clear R_t1_2 lim_t1_2 low_t1_2
  clear R_t1_4 lim_t1_4 low_t1_4
  clear R_t1_5 lim_t1_5 low_t1_5
  replace B_aP := B_aP.old o3
  replace O := Old.trans O o3
  have z3 := o3.size
  clear o3
  have q_aP_0 := B_aP.cell 0 rfl
  have q_aP_1 := B_aP.cell 1 rfl
  have q_aP_2 := B_aP.cell 2 rfl
  have q_aP_3 := B_aP.cell 3 rfl
  have q_aP_4 := B_aP.cell 4 rfl
  have q_aP_5 := B_aP.cell 5 rfl
  have q_aP := B_aP.lt
  go_wp2_with fail
  refine (toPoint_any _ _ _ _ _ _ _ _ _ _ _ _ _ _ _ _ _ _ _ (h0_1.below (B := w.heap.size) (Below.trans (b := w3) O oldB) (Nat.le_refl _)) (h0_2.below (B := w.heap.size) (Below.trans (b := w3) O oldB) (Nat.le_refl _)) (h0_4.below (B := w.heap.size) (Below.trans (b := w3) O oldB) (Nat.le_refl _)) (h0_5.below (B := w.heap.size) (Below.trans (b := w3) O oldB) (Nat.le_refl _)) hn0_1 hn0_2 hn0_4 hn0_5).mono ?_
  rintro e w4 ⟨A_t2_1, A_t2_2, A_t2_4, A_t2_5, rfl, R_t2_1, R_t2_2, R_t2_4, R_t2_5, ap_t2, o4⟩
  clear q_aP_0 q_aP_1 q_aP_2 q_aP_3 q_aP_4 q_aP_5 q_aP
  replace B_aP := B_aP.old o4
  replace O := Old.trans O o4
  have z4 := o4.size
  clear o4
  have lim_t2_1 := R_t2_1.lim
  have low_t2_1 := Low.mono (lo' := w3.heap.size + 0) R_t2_1.low (by first | exact Nat.le_refl _ | (simp <;> omega))
  have lim_t2_2 := R_t2_2.lim
  have low_t2_2 := Low.mono (lo' := w3.heap.size + 0) R_t2_2.low (by first | exact Nat.le_refl _ | (simp <;> omega))
  have lim_t2_4 := R_t2_4.lim
  have low_t2_4 := Low.mono (lo' := w3.heap.size + 0) R_t2_4.low (by first | exact Nat.le_refl _ | (simp <;> omega))
  have lim_t2_5 := R_t2_5.lim
  have low_t2_5 := Low.mono (lo' := w3.heap.size + 0) R_t2_5.low (by first | exact Nat.le_refl _ | (simp <;> omega))
  go_wp2_with fail
  refine (impl_FormatPoint _ _ _ _ _ _ _ _ _ _ _ _ _ _ _ _ _ _ _ _ _ _ _ (Row.below (B := w4.heap.size) R_t2_1 oldB (Nat.le_refl _)) (Row.below (B := w4.heap.size) R_t2_2 oldB (Nat.le_refl _)) (Row.below (B := w4.heap.size) R_t2_4 oldB (Nat.le_refl _)) (Row.below (B := w4.heap.size) R_t2_5 oldB (Nat.le_refl _)) hn0_1 hn0_2 hn0_4 hn0_5 (KT.old (Below.trans (b := w4) O oldB))).mono ?_
  rintro e w5 ⟨rfl, o5⟩
  have B_t2 : Bx w5 w4.heap.size #[.bool v0_0, .slice A_t2_1 n0_1 n0_1, .slice A_t2_2 n0_2 n0_2, .bool v0_3, .slice A_t2_4 n0_4 n0_4, .slice A_t2_5 n0_5 n0_5] := Bx.old (Bx.new _ _ _) o5
  have zb5 := B_t2.lt
  replace o5 : Old w4 w5 := Below.trans (b := _) oldB (Below.mono o5 (by simp <;> omega))
  replace B_aP := B_aP.old o5
  replace R_t2_1 := Row.below R_t2_1 o5 (Nat.le_refl _)
  replace R_t2_2 := Row.below R_t2_2 o5 (Nat.le_refl _)
  replace R_t2_4 := Row.below R_t2_4 o5 (Nat.le_refl _)
  replace R_t2_5 := Row.below R_t2_5 o5 (Nat.le_refl _)
  replace O := Old.trans O o5
  have z5 := o5.size
  clear o5
  have q_aP_0 := B_aP.cell 0 rfl
  have q_aP_1 := B_aP.cell 1 rfl
  have q_aP_2 := B_aP.cell 2 rfl
  have q_aP_3 := B_aP.cell 3 rfl
  have q_aP_4 := B_aP.cell 4 rfl
  have q_aP_5 := B_aP.cell 5 rfl
  have q_aP := B_aP.lt
  have q_t2_0 := B_t2.cell 0 rfl
  have q_t2_1 := B_t2.cell 1 rfl
  have q_t2_2 := B_t2.cell 2 rfl
  have q_t2_3 := B_t2.cell 3 rfl
  have q_t2_4 := B_t2.cell 4 rfl
  have q_t2_5 := B_t2.cell 5 rfl
  have q_t2 := B_t2.lt
  go_upto_region 10 with fail
  go_cut [26] (fun sl wx => sl = .bool false ∧ Old w5 wx)
  case first =>
    go_region_held3 (fun w' => w'.cell? ⟨w.heap.size, 0, none⟩ = some (.bool v0_0) ∧ w'.cell? ⟨w.heap.size, 1, none⟩ = some (.slice A0_1 n0_1 c0_1) ∧ w'.cell? ⟨w.heap.size, 2, none⟩ = some (.slice A0_2 n0_2 c0_2) ∧ w'.cell? ⟨w.heap.size, 3, none⟩ = some (.bool v0_3) ∧ w'.cell? ⟨w.heap.size, 4, none⟩ = some (.slice A0_4 n0_4 c0_4) ∧ w'.cell? ⟨w.heap.size, 5, none⟩ = some (.slice A0_5 n0_5 c0_5) ∧ w'.cell? ⟨w4.heap.size, 0, none⟩ = some (.bool v0_0) ∧ w'.cell? ⟨w4.heap.size, 1, none⟩ = some (.slice A_t2_1 n0_1 n0_1) ∧ w'.cell? ⟨w4.heap.size, 2, none⟩ = some (.slice A_t2_2 n0_2 n0_2) ∧ w'.cell? ⟨w4.heap.size, 3, none⟩ = some (.bool v0_3) ∧ w'.cell? ⟨w4.heap.size, 4, none⟩ = some (.slice A_t2_4 n0_4 n0_4) ∧ w'.cell? ⟨w4.heap.size, 5, none⟩ = some (.slice A_t2_5 n0_5 n0_5)) (go_keep)
      (first
      | (go_at_call 17; refine (toPoint_any v0_0 A0_1 n0_1 c0_1 f0_1 A0_2 n0_2 c0_2 f0_2 v0_3 A0_4 n0_4 c0_4 f0_4 A0_5 n0_5 c0_5 f0_5 _ (h0_1.below (B := w.heap.size) (Below.trans (b := w5) O oldB) (Nat.le_refl _)) (h0_2.below (B := w.heap.size) (Below.trans (b := w5) O oldB) (Nat.le_refl _)) (h0_4.below (B := w.heap.size) (Below.trans (b := w5) O oldB) (Nat.le_refl _)) (h0_5.below (B := w.heap.size) (Below.trans (b := w5) O oldB) (Nat.le_refl _)) hn0_1 hn0_2 hn0_4 hn0_5).mono ?_; rintro e wt ⟨A_t_1, A_t_2, A_t_4, A_t_5, rfl, R_t_1, R_t_2, R_t_4, R_t_5, ap_t, o6⟩; replace o6 : Old w5 wt := Below.trans (b := _) oldB (Below.mono o6 leA); clear q_aP_0 q_aP_1 q_aP_2 q_aP_3 q_aP_4 q_aP_5 q_aP q_t2_0 q_t2_1 q_t2_2 q_t2_3 q_t2_4 q_t2_5 q_t2; have D_aP := B_aP.old o6; have q_aP_0 := D_aP.cell 0 rfl; have q_aP_1 := D_aP.cell 1 rfl; have q_aP_2 := D_aP.cell 2 rfl; have q_aP_3 := D_aP.cell 3 rfl; have q_aP_4 := D_aP.cell 4 rfl; have q_aP_5 := D_aP.cell 5 rfl; have q_aP := D_aP.lt; have D_t2 := B_t2.old o6; have q_t2_0 := D_t2.cell 0 rfl; have q_t2_1 := D_t2.cell 1 rfl; have q_t2_2 := D_t2.cell 2 rfl; have q_t2_3 := D_t2.cell 3 rfl; have q_t2_4 := D_t2.cell 4 rfl; have q_t2_5 := D_t2.cell 5 rfl; have q_t2 := D_t2.lt)
      | (go_at_call 19; refine (eqPoint_yes _ _ _ _ _ _ _ _ _ _ _ _ _ _ _ _ _ _ _ _ _ _ _ _ _ _ _ _ _ _ _ _ _ _ _ _ _ _ _ (Row.below (B := w5.heap.size) R_t2_1 (Below.trans (b := wt) o6 oldB) (Nat.le_refl _)) (Row.below (B := wt.heap.size) R_t_1 oldB (Nat.le_refl _)) (fun _ _ => rfl) hn0_1 (Row.below (B := w5.heap.size) R_t2_2 (Below.trans (b := wt) o6 oldB) (Nat.le_refl _)) (Row.below (B := wt.heap.size) R_t_2 oldB (Nat.le_refl _)) (fun _ _ => rfl) hn0_2 (Row.below (B := w5.heap.size) R_t2_4 (Below.trans (b := wt) o6 oldB) (Nat.le_refl _)) (Row.below (B := wt.heap.size) R_t_4 oldB (Nat.le_refl _)) (fun _ _ => rfl) hn0_4 (Row.below (B := w5.heap.size) R_t2_5 (Below.trans (b := wt) o6 oldB) (Nat.le_refl _)) (Row.below (B := wt.heap.size) R_t_5 oldB (Nat.le_refl _)) (fun _ _ => rfl) hn0_5).mono ?_; rintro e wu ⟨rfl, o7⟩; replace o7 : Old wt wu := Below.trans (b := _) oldB (Below.mono o7 leA); clear q_aP_0 q_aP_1 q_aP_2 q_aP_3 q_aP_4 q_aP_5 q_aP q_t2_0 q_t2_1 q_t2_2 q_t2_3 q_t2_4 q_t2_5 q_t2; have E_aP := D_aP.old o7; have q_aP_0 := E_aP.cell 0 rfl; have q_aP_1 := E_aP.cell 1 rfl; have q_aP_2 := E_aP.cell 2 rfl; have q_aP_3 := E_aP.cell 3 rfl; have q_aP_4 := E_aP.cell 4 rfl; have q_aP_5 := E_aP.cell 5 rfl; have q_aP := E_aP.lt; have E_t2 := D_t2.old o7; have q_t2_0 := E_t2.cell 0 rfl; have q_t2_1 := E_t2.cell 1 rfl; have q_t2_2 := E_t2.cell 2 rfl; have q_t2_3 := E_t2.cell 3 rfl; have q_t2_4 := E_t2.cell 4 rfl; have q_t2_5 := E_t2.cell 5 rfl; have q_t2 := E_t2.lt))
    all_goals (go_wp2_with fail; go_meet; exact ⟨rfl, Old.trans o6 (Below.trans (b := _) o7 oldB)⟩)
  case rest =>
  obtain ⟨rfl, o6⟩ := hcut
  obtain ⟨w6, hw⟩ : ∃ x, x = wc := ⟨_, rfl⟩
  subst hw
  clear q_aP_0 q_aP_1 q_aP_2 q_aP_3 q_aP_4 q_aP_5 q_aP q_t2_0 q_t2_1 q_t2_2 q_t2_3 q_t2_4 q_t2_5 q_t2
  replace B_aP := B_aP.old o6
  replace B_t2 := B_t2.old o6
  replace R_t2_1 := Row.below R_t2_1 o6 (Nat.le_refl _)
  replace R_t2_2 := Row.below R_t2_2 o6 (Nat.le_refl _)
  replace R_t2_4 := Row.below R_t2_4 o6 (Nat.le_refl _)
  replace R_t2_5 := Row.below R_t2_5 o6 (Nat.le_refl _)
  replace O := Old.trans O o6
  have z6 := o6.size
  clear o6
  clear B_aP
  clear R_t2_1 lim_t2_1 low_t2_1
  clear R_t2_2 lim_t2_2 low_t2_2
  clear R_t2_4 lim_t2_4 low_t2_4
  clear R_t2_5 lim_t2_5 low_t2_5
  clear B_t2
  go_wp2
  go_ret
  exact ⟨rfl, O⟩

set_option maxRecDepth 100000 in
theorem liftedFormatPoint (os : Os) (started : os.Started) (H : Type) (enc : TypeId × Value → H) :
    ReturnsInHanded {} Tryd.checked os 3 .any (fun w args => (Rows.fnExactFormatPointSpec.pre enc Tryd.prog Tryd.f3 Rows.fnExactFormatPointRow.domain false w args ∧ laidMetH Tryd.prog Rows.fnExactFormatPointRow.laid w) ∧ sizedMet enc Tryd.prog Tryd.f3 (OpenSpec.ofChange Rows.fnExactFormatPointSpec) false w args)
      (Rows.fnExactFormatPointSpec.post enc Tryd.prog Tryd.f3 false true false false) := by
  refine returnsInHanded_of_change_and (C := Tryd.checked) (X := (fun w _ => laidMetH Tryd.prog Rows.fnExactFormatPointRow.laid w)) (fun _ _ _ hh h => h.of_heap hh) ownKnob_none started (by kernel_rfl) Tryd.func3
    (ChangeSpec.witness_shaped (enc := enc) (C := Tryd.checked) (X := (fun w _ => laidMetH Tryd.prog Rows.fnExactFormatPointRow.laid w)) false (World.laidAll Tryd.prog os Rows.fnExactFormatPointRow.laid) #[.agg #[.bool false, .slice none 0 0, .slice none 0 0, .bool false, .slice none 0 0, .slice none 0 0]] 8 (World.laidAll_os _ _ _) (World.shaped_of_ZipB (by kernel_rfl) (by kernel_rfl)) (by kernel_rfl) (by kernel_rfl) (by kernel_rfl)
      (by show laidMetH Tryd.prog Rows.fnExactFormatPointRow.laid _; rw [MakeChecks.laidMetH_plain _ _ _ (by kernel_rfl)]; exact laidMet_laidAll _ (by kernel_rfl) (by kernel_rfl))) ?_
  intro W base args ds gs before hval0 hW hcnd _ hL _
  have hval : ∀ (j : Nat) t v, Tryd.f3.params[j]? = some t → args[j]? = some v → Value.okWide Tryd.prog W .any base t v := hval0
  have hW' := hW
  obtain ⟨p, q, hA0, hV, rfl, hfz, hnd⟩ := hW
  have hA : DataW.TrodAll enc Tryd.prog W 0 (fun _ => true) true Tryd.f3.params.toList args.toList ds p := hA0
  rw [Tryd.params3] at hA hval
  obtain ⟨v0, vs0, d0, ds0, p0, q0, hargs, rfl, rfl, h0, r0⟩ := trodAll_cons hA
  obtain ⟨rfl, rfl, rfl⟩ := trodAll_nil r0
  obtain rfl : args = #[v0] := by cases args; simp_all
  obtain ⟨rfl, rfl⟩ := trodVars_none hV
  have k0 := h0
  have lt0 : ∀ x ∈ p0, x.block < W.heap.size := by obtain ⟨m, hm⟩ := k0; exact DataW.trod_lt m _ _ _ hm
  obtain ⟨x0_0, A0_1, n0_1, c0_1, f0_1, A0_2, n0_2, c0_2, f0_2, x0_3, A0_4, n0_4, c0_4, f0_4, A0_5, n0_5, c0_5, f0_5, rfl, g0_1, m0_1, g0_2, m0_2, g0_4, m0_4, g0_5, m0_5⟩ := open_point (hval 0 28 v0 rfl rfl) h0
  have KT : KT W := kt_of (by have h := hL; rw [MakeChecks.laidMetH_plain _ _ _ (by kernel_rfl)] at h; exact h)
  clear hA0 hval0
  refine (walkFormatPoint x0_0 A0_1 n0_1 c0_1 f0_1 A0_2 n0_2 c0_2 f0_2 x0_3 A0_4 n0_4 c0_4 f0_4 A0_5 n0_5 c0_5 f0_5 W g0_1 g0_2 g0_4 g0_5 m0_1 m0_2 m0_4 m0_5 KT).mono fun e W' ⟨he, bel⟩ => ?_
  subst he
  exact ⟨_, rfl, _, _, _, [], _, [], hW', trodAll_mk1 (shut_bool Tryd.underlying4 _), (trodAll_cons_mk (Below.trod laidOut (by kernel_rfl) (of_decide_eq_true (by kernel_rfl)) k0 bel lt0) trodAll_mk0), rfl, bel.frame _, fun h => by cases h⟩

theorem inPlaceFormatPoint : (Rows.fnExactFormatPointRow.inPlace == Tryd.prog.inPlace 3) = true := by kernel_rfl
theorem unfollowedFormatPoint : (Rows.fnExactFormatPointRow.unfollowed == Tryd.prog.unfollowed 3) = true := by kernel_rfl
theorem recursesFormatPoint : (Rows.fnExactFormatPointRow.recurses == Tryd.prog.recurses 3) = true := by kernel_rfl
theorem namedFormatPoint : (Rows.fnExactFormatPointRow.named == Tryd.prog.varsNamed 3) = true := by kernel_rfl
theorem closedFormatPoint : joinedFacts Tryd.prog 3 Tryd.f3 Rows.fnExactFormatPointSpec Rows.fnExactFormatPointRow = true :=
  joined_of (by kernel_rfl) laidOut mapsRowed_yes (by kernel_rfl) (by kernel_rfl) (by kernel_rfl) stops_none (by kernel_rfl) knobs_none inPlaceFormatPoint unfollowedFormatPoint recursesFormatPoint namedFormatPoint
    (by kernel_rfl) (by kernel_rfl) (by kernel_rfl) (by kernel_rfl) (by kernel_rfl) (by kernel_rfl) (by kernel_rfl) (by kernel_rfl) (by kernel_rfl) plainKeys_yes (by kernel_rfl) (by kernel_rfl) stopsHeard_yes mayEnter_yes liftsFinal_no (by kernel_rfl) make_cut (by kernel_rfl)
    (by kernel_rfl) (by kernel_rfl) (by kernel_rfl) (by kernel_rfl) (by kernel_rfl)

/-- The statement. -/
theorem fnExactFormatPoint_holds : Rows.FnExactFormatPointSaid :=
  OpenClaim.holds_of_wide 3 Tryd.f3 rfl rfl rfl rfl rfl rfl rfl ⟨rfl, rfl, rfl, rfl, rfl⟩ rfl rfl rfl rfl rfl (by kernel_rfl) Tryd.func3 closedFormatPoint
    (of_decide_eq_true (by kernel_rfl)) (by unfold Func.isWrapper; first | (rw [if_pos (by decide +kernel)]; kernel_rfl) | (rw [if_neg (by decide +kernel)]; exact ⟨rfl, rfl⟩))
    (fun os started H enc _ => liftedFormatPoint os started H enc)
/-- The tied card. -/
theorem fnExactFormatPointCard_holds : Rows.FnExactFormatPointCardSaid :=
  Claim7.holds_tied_plain_at .later [] [.data, .data, .data] true (true, "2ed6f013edc0a1dd32c40f312f03f1229820e2024ef8c38a3167b442211cc521") true
    fnExactFormatPoint_holds (fun _ h => by cases h) (by kernel_rfl) (fun _ h => by cases h) fnExactFormatPoint_row_tie rfl ⟨rfl, rfl⟩ (by kernel_rfl) rfl
    (fun f fn hf hfn => by
      obtain rfl : f = 3 := Option.some.inj ((show Tryd.prog.funcNamed "loop.example/g00811/laws.FnExactFormatPoint" = some 3 by kernel_rfl).symm.trans hf) |>.symm
      obtain rfl : fn = Tryd.f3 := (Option.some.inj (Tryd.func3.symm.trans hfn)).symm
      exact ⟨by kernel_rfl, fun j t ht => by
        have hm : t ∈ Tryd.f3.params.toList := by rw [Array.getElem?_eq_some_iff] at ht; obtain ⟨h1, h2⟩ := ht; rw [← h2]; simp
        rw [Tryd.params3] at hm
        have hall : ([28] : List TypeId).all (fun t => Tryd.prog.wantsStandIn t == false) = true := by kernel_rfl
        exact eq_of_beq (List.all_eq_true.1 hall t hm)⟩)
    (by kernel_rfl)
end Go.Proofs.YtkoebpoejafgnaaDoor
