/-
  The law FnExactRatNeg: the program's function and the reference's return the same, the arguments are left as they were, and the result is memory of its own.
-/
import Derived.Test.YtnkeenejcpkelaaArgs
import Derived.Deep.DeepCutAuto
import Derived.Deep.RegionHeld3
import Derived.Deep.DrawnRows
import Derived.Test.YtnkeenejcpkelaaBoxes
import Derived.Test.YtnkeenejcpkelaaRatLaw
import Derived.Test.YtnkeenejcpkelaaRatNegE
import Derived.Test.YtnkeenejcpkelaaRatArgs
namespace Go.Proofs.Ytnkeenejcpkelaa
set_option linter.unusedVariables false
open Go.ChangeShapes Go.WideShapes Go.ChangeAt Go.RowKit
open Go.ChangeMaps (open_string shut_string)
attribute [local go_sem ↓] Go.wp_at_zero Go.wp_at_succ
set_option maxRecDepth 100000 in
set_option maxHeartbeats 8000000 in
theorem walkRatNeg (v0_0 : Bool) (A0_1 : Option Addr) (n0_1 c0_1 : Nat) (f0_1 : Nat → Int) (A0_2 : Option Addr) (n0_2 c0_2 : Nat) (f0_2 : Nat → Int) (w : World) (h0_1 : Rd w A0_1 n0_1 c0_1 f0_1) (h0_2 : Rd w A0_2 n0_2 c0_2 f0_2) (hm0_1 : n0_1 ≤ 9223372036854775807) (hm0_2 : n0_2 ≤ 9223372036854775807) :
    Calls Try.prog 12 #[.agg #[.bool v0_0, .slice A0_1 n0_1 c0_1, .slice A0_2 n0_2 c0_2]] w fun e w' => e = .returned (.bool true) ∧ Old w w' := by
  have NV := vRatNeg_norm v0_0 n0_1 f0_1 n0_2 f0_2
  obtain ⟨Z0, D0, hV0⟩ : ∃ z d, vRatNeg v0_0 n0_1 f0_1 n0_2 f0_2 = (z, d) := ⟨_, _, rfl⟩
  rw [hV0] at NV
  have HV0 := Lib.hid hV0
  have NL := norm_len NV
  simp only at NL
  have L_0_1 : Num.len (magZ Z0) ≤ 1048576 := by omega
  have L_0_2 : Num.len D0 ≤ 1048576 := by omega
  clear NV NL hV0
  have O := Old.refl w
  go_enter Try.func12, Try.ntmps12
  go_wp2_with fail
  by_cases hs0 : (n0_1 : Int) + (n0_2 : Int) ≤ 1048576
  case neg =>
    refine (szRat_no _ _ _ _ _ _ _ _ _ hm0_1 hm0_2 (by omega) (by omega) hs0).mono ?_
    rintro e w1 ⟨rfl, o1⟩
    go_wp2
    go_ret
    exact ⟨rfl, Old.trans O (Below.trans (b := _) oldA (Below.mono o1 (by simp <;> omega)))⟩
  have hn0_1 : n0_1 ≤ 1048576 := by omega
  have hn0_2 : n0_2 ≤ 1048576 := by omega
  refine (szRat_yes _ _ _ _ _ _ _ _ _ hm0_1 hm0_2 (by omega) (by omega) hs0).mono ?_
  rintro e w1 ⟨rfl, o1⟩
  have B_aR : Bx w1 w.heap.size #[.bool v0_0, .slice A0_1 n0_1 c0_1, .slice A0_2 n0_2 c0_2] := Bx.old (Bx.new _ _ _) o1
  have zb1 := B_aR.lt
  replace o1 : Old w w1 := Below.trans (b := _) oldA (Below.mono o1 (by simp <;> omega))
  replace O := Old.trans O o1
  have z1 := o1.size
  clear o1
  have hl0 : ¬ 1048576 - (n0_1 : Int) - (n0_2 : Int) < 0 := by omega
  have q_aR_0 := B_aR.cell 0 rfl
  have q_aR_1 := B_aR.cell 1 rfl
  have q_aR_2 := B_aR.cell 2 rfl
  have q_aR := B_aR.lt
  go_wp2_with fail
  refine (toRat_any _ _ _ _ _ _ _ _ _ _ (h0_1.below (B := w.heap.size) (Below.trans (b := w1) O oldA) (Nat.le_refl _)) (h0_2.below (B := w.heap.size) (Below.trans (b := w1) O oldA) (Nat.le_refl _)) hn0_1 hn0_2).mono ?_
  rintro e w2 ⟨A_t1_1, A_t1_2, rfl, R_t1_1, R_t1_2, ap_t1, o2⟩
  clear q_aR_0 q_aR_1 q_aR_2 q_aR
  replace B_aR := B_aR.old o2
  replace O := Old.trans O o2
  have z2 := o2.size
  clear o2
  have lim_t1_1 := R_t1_1.lim
  have low_t1_1 := Low.mono (lo' := w1.heap.size + 0) R_t1_1.low (by first | exact Nat.le_refl _ | (simp <;> omega))
  have lim_t1_2 := R_t1_2.lim
  have low_t1_2 := Low.mono (lo' := w1.heap.size + 0) R_t1_2.low (by first | exact Nat.le_refl _ | (simp <;> omega))
  go_wp2_with fail
  refine (spec_RatNeg _ _ _ _ _ _ _ _ _ _ _ _ R_t1_1 R_t1_2 hn0_1 hn0_2).mono ?_
  rintro e w3 ⟨⟨x0, x1, A_w0_1, c_w0_1, A_w0_2, c_w0_2, hv, he, R_w0_1, R_w0_2, ap_w0⟩, o3⟩
  rw [HV0.out] at hv
  obtain ⟨rfl, rfl⟩ := Prod.mk.inj hv
  subst he
  clear R_t1_1 lim_t1_1 low_t1_1
  clear R_t1_2 lim_t1_2 low_t1_2
  replace B_aR := B_aR.old o3
  replace O := Old.trans O o3
  have z3 := o3.size
  clear o3
  have lim_w0_1 := R_w0_1.lim
  have low_w0_1 := Low.mono (lo' := w2.heap.size + 0) R_w0_1.low (by first | exact Nat.le_refl _ | (simp <;> omega))
  have lim_w0_2 := R_w0_2.lim
  have low_w0_2 := Low.mono (lo' := w2.heap.size + 0) R_w0_2.low (by first | exact Nat.le_refl _ | (simp <;> omega))
  have q_aR_0 := B_aR.cell 0 rfl
  have q_aR_1 := B_aR.cell 1 rfl
  have q_aR_2 := B_aR.cell 2 rfl
  have q_aR := B_aR.lt
  go_wp2_with fail
  refine (toRat_any _ _ _ _ _ _ _ _ _ _ (h0_1.below (B := w.heap.size) (Below.trans (b := w3) O oldA) (Nat.le_refl _)) (h0_2.below (B := w.heap.size) (Below.trans (b := w3) O oldA) (Nat.le_refl _)) hn0_1 hn0_2).mono ?_
  rintro e w4 ⟨A_t2_1, A_t2_2, rfl, R_t2_1, R_t2_2, ap_t2, o4⟩
  clear q_aR_0 q_aR_1 q_aR_2 q_aR
  have B_w0 : Bx w4 w3.heap.size #[.bool (sgnZ Z0), .slice A_w0_1 (Num.len (magZ Z0)) c_w0_1, .slice A_w0_2 (Num.len D0) c_w0_2] := Bx.old (Bx.new _ _ _) o4
  have zb4 := B_w0.lt
  replace o4 : Old w3 w4 := Below.trans (b := _) oldA (Below.mono o4 (by simp <;> omega))
  replace B_aR := B_aR.old o4
  replace R_w0_1 := Row.below R_w0_1 o4 (Nat.le_refl _)
  replace R_w0_2 := Row.below R_w0_2 o4 (Nat.le_refl _)
  replace O := Old.trans O o4
  have z4 := o4.size
  clear o4
  have lim_t2_1 := R_t2_1.lim
  have low_t2_1 := Low.mono (lo' := w3.heap.size + 1) R_t2_1.low (by first | exact Nat.le_refl _ | (simp <;> omega))
  have lim_t2_2 := R_t2_2.lim
  have low_t2_2 := Low.mono (lo' := w3.heap.size + 1) R_t2_2.low (by first | exact Nat.le_refl _ | (simp <;> omega))
  go_wp2_with fail
  refine (impl_RatNeg _ _ _ _ _ _ _ _ _ _ _ _ (Row.below (B := w4.heap.size) R_t2_1 oldA (Nat.le_refl _)) (Row.below (B := w4.heap.size) R_t2_2 oldA (Nat.le_refl _)) hn0_1 hn0_2).mono ?_
  rintro e w5 ⟨⟨x0, x1, A_g0_1, c_g0_1, A_g0_2, c_g0_2, hv, he, R_g0_1, R_g0_2, ap_g0⟩, o5⟩
  rw [HV0.out] at hv
  obtain ⟨rfl, rfl⟩ := Prod.mk.inj hv
  subst he
  have B_t2 : Bx w5 w4.heap.size #[.bool v0_0, .slice A_t2_1 n0_1 n0_1, .slice A_t2_2 n0_2 n0_2] := Bx.old (Bx.new _ _ _) o5
  have zb5 := B_t2.lt
  replace o5 : Old w4 w5 := Below.trans (b := _) oldA (Below.mono o5 (by simp <;> omega))
  replace B_aR := B_aR.old o5
  replace B_w0 := B_w0.old o5
  replace R_w0_1 := Row.below R_w0_1 o5 (Nat.le_refl _)
  replace R_w0_2 := Row.below R_w0_2 o5 (Nat.le_refl _)
  replace R_t2_1 := Row.below R_t2_1 o5 (Nat.le_refl _)
  replace R_t2_2 := Row.below R_t2_2 o5 (Nat.le_refl _)
  replace O := Old.trans O o5
  have z5 := o5.size
  clear o5
  have lim_g0_1 := R_g0_1.lim
  have low_g0_1 := Low.mono (lo' := w4.heap.size + 1) R_g0_1.low (by first | exact Nat.le_refl _ | (simp <;> omega))
  have lim_g0_2 := R_g0_2.lim
  have low_g0_2 := Low.mono (lo' := w4.heap.size + 1) R_g0_2.low (by first | exact Nat.le_refl _ | (simp <;> omega))
  have q_w0_0 := B_w0.cell 0 rfl
  have q_w0_1 := B_w0.cell 1 rfl
  have q_w0_2 := B_w0.cell 2 rfl
  have q_w0 := B_w0.lt
  go_wp2_with fail
  refine (eqRat_yes _ _ _ _ _ _ _ _ _ _ _ _ _ _ _ _ _ _ _ _ (Row.below (B := w5.heap.size) R_g0_1 oldA (Nat.le_refl _)) (Row.below (B := w5.heap.size) R_w0_1 oldA (Nat.le_refl _)) (fun _ _ => rfl) L_0_1 (Row.below (B := w5.heap.size) R_g0_2 oldA (Nat.le_refl _)) (Row.below (B := w5.heap.size) R_w0_2 oldA (Nat.le_refl _)) (fun _ _ => rfl) L_0_2).mono ?_
  rintro e w6 ⟨rfl, o6⟩
  clear q_w0_0 q_w0_1 q_w0_2 q_w0
  have B_g0 : Bx w6 w5.heap.size #[.bool (sgnZ Z0), .slice A_g0_1 (Num.len (magZ Z0)) c_g0_1, .slice A_g0_2 (Num.len D0) c_g0_2] := Bx.old (Bx.new _ _ _) o6
  have zb6 := B_g0.lt
  replace o6 : Old w5 w6 := Below.trans (b := _) oldA (Below.mono o6 (by simp <;> omega))
  replace B_aR := B_aR.old o6
  replace B_w0 := B_w0.old o6
  replace B_t2 := B_t2.old o6
  replace R_w0_1 := Row.below R_w0_1 o6 (Nat.le_refl _)
  replace R_w0_2 := Row.below R_w0_2 o6 (Nat.le_refl _)
  replace R_t2_1 := Row.below R_t2_1 o6 (Nat.le_refl _)
  replace R_t2_2 := Row.below R_t2_2 o6 (Nat.le_refl _)
  replace R_g0_1 := Row.below R_g0_1 o6 (Nat.le_refl _)
  replace R_g0_2 := Row.below R_g0_2 o6 (Nat.le_refl _)
  replace O := Old.trans O o6
  have z6 := o6.size
  clear o6
  have q_aR_0 := B_aR.cell 0 rfl
  have q_aR_1 := B_aR.cell 1 rfl
  have q_aR_2 := B_aR.cell 2 rfl
  have q_aR := B_aR.lt
  have q_t2_0 := B_t2.cell 0 rfl
  have q_t2_1 := B_t2.cell 1 rfl
  have q_t2_2 := B_t2.cell 2 rfl
  have q_t2 := B_t2.lt
  go_upto_region 10 with fail
  go_cut [31] (fun sl wx => sl = .bool false ∧ Old w6 wx)
  case first =>
    go_region_held3 (fun w' => w'.cell? ⟨w.heap.size, 0, none⟩ = some (.bool v0_0) ∧ w'.cell? ⟨w.heap.size, 1, none⟩ = some (.slice A0_1 n0_1 c0_1) ∧ w'.cell? ⟨w.heap.size, 2, none⟩ = some (.slice A0_2 n0_2 c0_2) ∧ w'.cell? ⟨w4.heap.size, 0, none⟩ = some (.bool v0_0) ∧ w'.cell? ⟨w4.heap.size, 1, none⟩ = some (.slice A_t2_1 n0_1 n0_1) ∧ w'.cell? ⟨w4.heap.size, 2, none⟩ = some (.slice A_t2_2 n0_2 n0_2)) (go_keep)
      (first
      | (go_at_call 26; refine (toRat_any v0_0 A0_1 n0_1 c0_1 f0_1 A0_2 n0_2 c0_2 f0_2 _ (h0_1.below (B := w.heap.size) (Below.trans (b := w6) O oldA) (Nat.le_refl _)) (h0_2.below (B := w.heap.size) (Below.trans (b := w6) O oldA) (Nat.le_refl _)) hn0_1 hn0_2).mono ?_; rintro e wt ⟨A_t_1, A_t_2, rfl, R_t_1, R_t_2, ap_t, o6⟩; replace o6 : Old w6 wt := Below.trans (b := _) oldA (Below.mono o6 leA); clear q_aR_0 q_aR_1 q_aR_2 q_aR q_t2_0 q_t2_1 q_t2_2 q_t2; have D_aR := B_aR.old o6; have q_aR_0 := D_aR.cell 0 rfl; have q_aR_1 := D_aR.cell 1 rfl; have q_aR_2 := D_aR.cell 2 rfl; have q_aR := D_aR.lt; have D_t2 := B_t2.old o6; have q_t2_0 := D_t2.cell 0 rfl; have q_t2_1 := D_t2.cell 1 rfl; have q_t2_2 := D_t2.cell 2 rfl; have q_t2 := D_t2.lt)
      | (go_at_call 28; refine (eqRat_yes _ _ _ _ _ _ _ _ _ _ _ _ _ _ _ _ _ _ _ _ (Row.below (B := w6.heap.size) R_t2_1 (Below.trans (b := wt) o6 oldA) (Nat.le_refl _)) (Row.below (B := wt.heap.size) R_t_1 oldA (Nat.le_refl _)) (fun _ _ => rfl) hn0_1 (Row.below (B := w6.heap.size) R_t2_2 (Below.trans (b := wt) o6 oldA) (Nat.le_refl _)) (Row.below (B := wt.heap.size) R_t_2 oldA (Nat.le_refl _)) (fun _ _ => rfl) hn0_2).mono ?_; rintro e wu ⟨rfl, o7⟩; replace o7 : Old wt wu := Below.trans (b := _) oldA (Below.mono o7 leA); clear q_aR_0 q_aR_1 q_aR_2 q_aR q_t2_0 q_t2_1 q_t2_2 q_t2; have E_aR := D_aR.old o7; have q_aR_0 := E_aR.cell 0 rfl; have q_aR_1 := E_aR.cell 1 rfl; have q_aR_2 := E_aR.cell 2 rfl; have q_aR := E_aR.lt; have E_t2 := D_t2.old o7; have q_t2_0 := E_t2.cell 0 rfl; have q_t2_1 := E_t2.cell 1 rfl; have q_t2_2 := E_t2.cell 2 rfl; have q_t2 := E_t2.lt))
    all_goals (go_wp2_with fail; go_meet; exact ⟨rfl, Old.trans o6 (Below.trans (b := _) o7 oldA)⟩)
  case rest =>
  obtain ⟨rfl, o7⟩ := hcut
  obtain ⟨w7, hw⟩ : ∃ x, x = wc := ⟨_, rfl⟩
  subst hw
  clear q_aR_0 q_aR_1 q_aR_2 q_aR q_t2_0 q_t2_1 q_t2_2 q_t2
  replace B_aR := B_aR.old o7
  replace B_w0 := B_w0.old o7
  replace B_t2 := B_t2.old o7
  replace B_g0 := B_g0.old o7
  replace R_w0_1 := Row.below R_w0_1 o7 (Nat.le_refl _)
  replace R_w0_2 := Row.below R_w0_2 o7 (Nat.le_refl _)
  replace R_t2_1 := Row.below R_t2_1 o7 (Nat.le_refl _)
  replace R_t2_2 := Row.below R_t2_2 o7 (Nat.le_refl _)
  replace R_g0_1 := Row.below R_g0_1 o7 (Nat.le_refl _)
  replace R_g0_2 := Row.below R_g0_2 o7 (Nat.le_refl _)
  replace O := Old.trans O o7
  have z7 := o7.size
  clear o7
  have q_t2_0 := B_t2.cell 0 rfl
  have q_t2_1 := B_t2.cell 1 rfl
  have q_t2_2 := B_t2.cell 2 rfl
  have q_t2 := B_t2.lt
  go_wp2_with fail
  refine (markRat_any _ _ _ _ _ _ _ _ _ _ _ _ _ R_t2_1 R_t2_2 ap_t2 hn0_1 hn0_2 (by omega) (by omega)).mono ?_
  rintro e w8 ⟨rfl, S_1, S_2, wm8_0, G_1, G_2⟩
  clear q_t2_0 q_t2_1 q_t2_2 q_t2
  clear R_t2_1
  have R_t2_1 := S_1
  clear S_1
  clear R_t2_2
  have R_t2_2 := S_2
  clear S_2
  replace R_w0_1 := Row.apart R_w0_1 G_1 lim_w0_1 low_w0_1 lim_t2_1 low_t2_1 (by omega)
  replace R_w0_2 := Row.apart R_w0_2 G_1 lim_w0_2 low_w0_2 lim_t2_1 low_t2_1 (by omega)
  replace R_g0_1 := Row.apart R_g0_1 G_1 lim_g0_1 low_g0_1 lim_t2_1 low_t2_1 (by omega)
  replace R_g0_2 := Row.apart R_g0_2 G_1 lim_g0_2 low_g0_2 lim_t2_1 low_t2_1 (by omega)
  replace B_aR := B_aR.apart G_1 low_t2_1 lim_t2_1 (by omega)
  replace B_w0 := B_w0.apart G_1 low_t2_1 lim_t2_1 (by omega)
  replace B_t2 := B_t2.apart G_1 low_t2_1 lim_t2_1 (by omega)
  replace B_g0 := B_g0.apart G_1 low_t2_1 lim_t2_1 (by omega)
  replace O := Below.grown O G_1 O.size (low_t2_1.own (by omega))
  have z8_0 := G_1.size
  clear G_1
  replace R_w0_1 := Row.apart R_w0_1 G_2 lim_w0_1 low_w0_1 lim_t2_2 low_t2_2 (by omega)
  replace R_w0_2 := Row.apart R_w0_2 G_2 lim_w0_2 low_w0_2 lim_t2_2 low_t2_2 (by omega)
  replace R_g0_1 := Row.apart R_g0_1 G_2 lim_g0_1 low_g0_1 lim_t2_2 low_t2_2 (by omega)
  replace R_g0_2 := Row.apart R_g0_2 G_2 lim_g0_2 low_g0_2 lim_t2_2 low_t2_2 (by omega)
  replace B_aR := B_aR.apart G_2 low_t2_2 lim_t2_2 (by omega)
  replace B_w0 := B_w0.apart G_2 low_t2_2 lim_t2_2 (by omega)
  replace B_t2 := B_t2.apart G_2 low_t2_2 lim_t2_2 (by omega)
  replace B_g0 := B_g0.apart G_2 low_t2_2 lim_t2_2 (by omega)
  replace O := Below.grown O G_2 O.size (low_t2_2.own (by omega))
  have z8_1 := G_2.size
  clear G_2
  clear R_t2_1 lim_t2_1 low_t2_1
  clear R_t2_2 lim_t2_2 low_t2_2
  clear B_t2
  have q_w0_0 := B_w0.cell 0 rfl
  have q_w0_1 := B_w0.cell 1 rfl
  have q_w0_2 := B_w0.cell 2 rfl
  have q_w0 := B_w0.lt
  have q_g0_0 := B_g0.cell 0 rfl
  have q_g0_1 := B_g0.cell 1 rfl
  have q_g0_2 := B_g0.cell 2 rfl
  have q_g0 := B_g0.lt
  go_wp2_with fail
  refine (eqRat_yes _ _ _ _ _ _ _ _ _ _ _ _ _ _ _ _ _ _ _ _ R_g0_1 R_w0_1 (fun _ _ => rfl) L_0_1 R_g0_2 R_w0_2 (fun _ _ => rfl) L_0_2).mono ?_
  rintro e w9 ⟨rfl, o9⟩
  clear q_w0_0 q_w0_1 q_w0_2 q_w0 q_g0_0 q_g0_1 q_g0_2 q_g0
  replace B_aR := B_aR.old o9
  replace B_w0 := B_w0.old o9
  replace B_g0 := B_g0.old o9
  replace R_w0_1 := Row.below R_w0_1 o9 (Nat.le_refl _)
  replace R_w0_2 := Row.below R_w0_2 o9 (Nat.le_refl _)
  replace R_g0_1 := Row.below R_g0_1 o9 (Nat.le_refl _)
  replace R_g0_2 := Row.below R_g0_2 o9 (Nat.le_refl _)
  replace O := Old.trans O o9
  have z9 := o9.size
  clear o9
  have q_g0_0 := B_g0.cell 0 rfl
  have q_g0_1 := B_g0.cell 1 rfl
  have q_g0_2 := B_g0.cell 2 rfl
  have q_g0 := B_g0.lt
  go_wp2_with fail
  refine (markRat_any _ _ _ _ _ _ _ _ _ _ _ _ _ R_g0_1 R_g0_2 ap_g0 L_0_1 L_0_2 (by omega) (by omega)).mono ?_
  rintro e w10 ⟨rfl, S_1, S_2, wm10_0, G_1, G_2⟩
  clear q_g0_0 q_g0_1 q_g0_2 q_g0
  clear R_g0_1
  have R_g0_1 := S_1
  clear S_1
  clear R_g0_2
  have R_g0_2 := S_2
  clear S_2
  replace R_w0_1 := Row.apart R_w0_1 G_1 lim_w0_1 low_w0_1 lim_g0_1 low_g0_1 (by omega)
  replace R_w0_2 := Row.apart R_w0_2 G_1 lim_w0_2 low_w0_2 lim_g0_1 low_g0_1 (by omega)
  replace B_aR := B_aR.apart G_1 low_g0_1 lim_g0_1 (by omega)
  replace B_w0 := B_w0.apart G_1 low_g0_1 lim_g0_1 (by omega)
  replace B_g0 := B_g0.apart G_1 low_g0_1 lim_g0_1 (by omega)
  replace O := Below.grown O G_1 O.size (low_g0_1.own (by omega))
  have z10_0 := G_1.size
  clear G_1
  replace R_w0_1 := Row.apart R_w0_1 G_2 lim_w0_1 low_w0_1 lim_g0_2 low_g0_2 (by omega)
  replace R_w0_2 := Row.apart R_w0_2 G_2 lim_w0_2 low_w0_2 lim_g0_2 low_g0_2 (by omega)
  replace B_aR := B_aR.apart G_2 low_g0_2 lim_g0_2 (by omega)
  replace B_w0 := B_w0.apart G_2 low_g0_2 lim_g0_2 (by omega)
  replace B_g0 := B_g0.apart G_2 low_g0_2 lim_g0_2 (by omega)
  replace O := Below.grown O G_2 O.size (low_g0_2.own (by omega))
  have z10_1 := G_2.size
  clear G_2
  have q_g0_0 := B_g0.cell 0 rfl
  have q_g0_1 := B_g0.cell 1 rfl
  have q_g0_2 := B_g0.cell 2 rfl
  have q_g0 := B_g0.lt
  go_wp2_with fail
  refine (heldRat_yes _ _ _ _ _ _ _ _ _ _ _ _ _ R_g0_1 (fun _ _ => rfl) L_0_1 R_g0_2 (fun _ _ => rfl) L_0_2 (by omega) (by omega)).mono ?_
  rintro e w11 ⟨rfl, o11⟩
  clear q_g0_0 q_g0_1 q_g0_2 q_g0
  replace B_aR := B_aR.old o11
  replace B_w0 := B_w0.old o11
  replace B_g0 := B_g0.old o11
  replace R_w0_1 := Row.below R_w0_1 o11 (Nat.le_refl _)
  replace R_w0_2 := Row.below R_w0_2 o11 (Nat.le_refl _)
  replace R_g0_1 := Row.below R_g0_1 o11 (Nat.le_refl _)
  replace R_g0_2 := Row.below R_g0_2 o11 (Nat.le_refl _)
  replace O := Old.trans O o11
  have z11 := o11.size
  clear o11
  have q_aR_0 := B_aR.cell 0 rfl
  have q_aR_1 := B_aR.cell 1 rfl
  have q_aR_2 := B_aR.cell 2 rfl
  have q_aR := B_aR.lt
  go_wp2_with fail
  refine (toRat_any _ _ _ _ _ _ _ _ _ _ (h0_1.below (B := w.heap.size) (Below.trans (b := w11) O oldA) (Nat.le_refl _)) (h0_2.below (B := w.heap.size) (Below.trans (b := w11) O oldA) (Nat.le_refl _)) hn0_1 hn0_2).mono ?_
  rintro e w12 ⟨A_t3_1, A_t3_2, rfl, R_t3_1, R_t3_2, ap_t3, o12⟩
  clear q_aR_0 q_aR_1 q_aR_2 q_aR
  replace B_aR := B_aR.old o12
  replace B_w0 := B_w0.old o12
  replace B_g0 := B_g0.old o12
  replace R_w0_1 := Row.below R_w0_1 o12 (Nat.le_refl _)
  replace R_w0_2 := Row.below R_w0_2 o12 (Nat.le_refl _)
  replace R_g0_1 := Row.below R_g0_1 o12 (Nat.le_refl _)
  replace R_g0_2 := Row.below R_g0_2 o12 (Nat.le_refl _)
  replace O := Old.trans O o12
  have z12 := o12.size
  clear o12
  have lim_t3_1 := R_t3_1.lim
  have low_t3_1 := Low.mono (lo' := w11.heap.size + 0) R_t3_1.low (by first | exact Nat.le_refl _ | (simp <;> omega))
  have lim_t3_2 := R_t3_2.lim
  have low_t3_2 := Low.mono (lo' := w11.heap.size + 0) R_t3_2.low (by first | exact Nat.le_refl _ | (simp <;> omega))
  go_wp2_with fail
  refine (impl_RatNeg _ _ _ _ _ _ _ _ _ _ _ _ R_t3_1 R_t3_2 hn0_1 hn0_2).mono ?_
  rintro e w13 ⟨⟨x0, x1, A_h0_1, c_h0_1, A_h0_2, c_h0_2, hv, he, R_h0_1, R_h0_2, ap_h0⟩, o13⟩
  rw [HV0.out] at hv
  obtain ⟨rfl, rfl⟩ := Prod.mk.inj hv
  subst he
  clear R_t3_1 lim_t3_1 low_t3_1
  clear R_t3_2 lim_t3_2 low_t3_2
  replace B_aR := B_aR.old o13
  replace B_w0 := B_w0.old o13
  replace B_g0 := B_g0.old o13
  replace R_w0_1 := Row.below R_w0_1 o13 (Nat.le_refl _)
  replace R_w0_2 := Row.below R_w0_2 o13 (Nat.le_refl _)
  replace R_g0_1 := Row.below R_g0_1 o13 (Nat.le_refl _)
  replace R_g0_2 := Row.below R_g0_2 o13 (Nat.le_refl _)
  replace O := Old.trans O o13
  have z13 := o13.size
  clear o13
  have lim_h0_1 := R_h0_1.lim
  have low_h0_1 := Low.mono (lo' := w12.heap.size + 0) R_h0_1.low (by first | exact Nat.le_refl _ | (simp <;> omega))
  have lim_h0_2 := R_h0_2.lim
  have low_h0_2 := Low.mono (lo' := w12.heap.size + 0) R_h0_2.low (by first | exact Nat.le_refl _ | (simp <;> omega))
  clear B_aR
  have q_w0_0 := B_w0.cell 0 rfl
  have q_w0_1 := B_w0.cell 1 rfl
  have q_w0_2 := B_w0.cell 2 rfl
  have q_w0 := B_w0.lt
  go_wp2_with fail
  refine (eqRat_yes _ _ _ _ _ _ _ _ _ _ _ _ _ _ _ _ _ _ _ _ (Row.below (B := w13.heap.size) R_h0_1 oldA (Nat.le_refl _)) (Row.below (B := w13.heap.size) R_w0_1 oldA (Nat.le_refl _)) (fun _ _ => rfl) L_0_1 (Row.below (B := w13.heap.size) R_h0_2 oldA (Nat.le_refl _)) (Row.below (B := w13.heap.size) R_w0_2 oldA (Nat.le_refl _)) (fun _ _ => rfl) L_0_2).mono ?_
  rintro e w14 ⟨rfl, o14⟩
  clear q_w0_0 q_w0_1 q_w0_2 q_w0
  have B_h0 : Bx w14 w13.heap.size #[.bool (sgnZ Z0), .slice A_h0_1 (Num.len (magZ Z0)) c_h0_1, .slice A_h0_2 (Num.len D0) c_h0_2] := Bx.old (Bx.new _ _ _) o14
  have zb14 := B_h0.lt
  replace o14 : Old w13 w14 := Below.trans (b := _) oldA (Below.mono o14 (by simp <;> omega))
  replace B_w0 := B_w0.old o14
  replace B_g0 := B_g0.old o14
  replace R_w0_1 := Row.below R_w0_1 o14 (Nat.le_refl _)
  replace R_w0_2 := Row.below R_w0_2 o14 (Nat.le_refl _)
  replace R_g0_1 := Row.below R_g0_1 o14 (Nat.le_refl _)
  replace R_g0_2 := Row.below R_g0_2 o14 (Nat.le_refl _)
  replace R_h0_1 := Row.below R_h0_1 o14 (Nat.le_refl _)
  replace R_h0_2 := Row.below R_h0_2 o14 (Nat.le_refl _)
  replace O := Old.trans O o14
  have z14 := o14.size
  clear o14
  have q_g0_0 := B_g0.cell 0 rfl
  have q_g0_1 := B_g0.cell 1 rfl
  have q_g0_2 := B_g0.cell 2 rfl
  have q_g0 := B_g0.lt
  go_wp2_with fail
  refine (heldRat_yes _ _ _ _ _ _ _ _ _ _ _ _ _ R_g0_1 (fun _ _ => rfl) L_0_1 R_g0_2 (fun _ _ => rfl) L_0_2 (by omega) (by omega)).mono ?_
  rintro e w15 ⟨rfl, o15⟩
  clear q_g0_0 q_g0_1 q_g0_2 q_g0
  replace B_w0 := B_w0.old o15
  replace B_g0 := B_g0.old o15
  replace B_h0 := B_h0.old o15
  replace R_w0_1 := Row.below R_w0_1 o15 (Nat.le_refl _)
  replace R_w0_2 := Row.below R_w0_2 o15 (Nat.le_refl _)
  replace R_g0_1 := Row.below R_g0_1 o15 (Nat.le_refl _)
  replace R_g0_2 := Row.below R_g0_2 o15 (Nat.le_refl _)
  replace R_h0_1 := Row.below R_h0_1 o15 (Nat.le_refl _)
  replace R_h0_2 := Row.below R_h0_2 o15 (Nat.le_refl _)
  replace O := Old.trans O o15
  have z15 := o15.size
  clear o15
  go_wp2
  go_ret
  exact ⟨rfl, O⟩

set_option maxRecDepth 100000 in
theorem liftedRatNeg (os : Os) (started : os.Started) (H : Type) (enc : TypeId × Value → H) :
    ReturnsInHanded {} Try.checked os 12 .any (Rows.fnExactRatNegSpec.pre6 enc Try.prog Try.f12 Rows.fnExactRatNegRow.domain false) (Rows.fnExactRatNegSpec.post enc Try.prog Try.f12 false true false false) := by
  refine returnsInHanded_of_change (C := Try.checked) ownKnob_none started (by kernel_rfl) Try.func12
    (ChangeSpec.witness6 (enc := enc) (C := Try.checked) false ⟨#[], #[.agg #[.bool false, .slice none 0 0, .slice none 0 0]], []⟩ 8 (by kernel_rfl) (by kernel_rfl) (by kernel_rfl) (by kernel_rfl)) ?_
  intro W base args ds gs before hval0 hW hcnd _
  have hval : ∀ (j : Nat) t v, Try.f12.params[j]? = some t → args[j]? = some v → Value.okWide Try.prog W .any base t v := hval0
  have hW' := hW
  obtain ⟨p, q, hA0, hV, rfl, hfz, hnd⟩ := hW
  have hA : DataW.TrodAll enc Try.prog W 0 (fun _ => true) true Try.f12.params.toList args.toList ds p := hA0
  rw [Try.params12] at hA hval
  obtain ⟨v0, vs0, d0, ds0, p0, q0, hargs, rfl, rfl, h0, r0⟩ := trodAll_cons hA
  obtain ⟨rfl, rfl, rfl⟩ := trodAll_nil r0
  obtain rfl : args = #[v0] := by cases args; simp_all
  obtain ⟨rfl, rfl⟩ := trodVars_none hV
  have k0 := h0
  have lt0 : ∀ x ∈ p0, x.block < W.heap.size := by obtain ⟨m, hm⟩ := k0; exact DataW.trod_lt m _ _ _ hm
  obtain ⟨x0_0, A0_1, n0_1, c0_1, f0_1, A0_2, n0_2, c0_2, f0_2, rfl, g0_1, m0_1, g0_2, m0_2⟩ := open_rat (hval 0 26 v0 rfl rfl) h0
  clear hA0 hval0
  refine (walkRatNeg x0_0 A0_1 n0_1 c0_1 f0_1 A0_2 n0_2 c0_2 f0_2 W g0_1 g0_2 m0_1 m0_2).mono fun e W' ⟨he, bel⟩ => ?_
  subst he
  exact ⟨_, rfl, _, _, _, [], _, [], hW', trodAll_mk1 (shut_bool Try.underlying4 _), (trodAll_cons_mk (Below.trod laidOut (by kernel_rfl) (of_decide_eq_true (by kernel_rfl)) k0 bel lt0) trodAll_mk0), rfl, bel.frame _, fun h => by cases h⟩

theorem inPlaceRatNeg : (Rows.fnExactRatNegRow.inPlace == Try.prog.inPlace 12) = true := by kernel_rfl
theorem unfollowedRatNeg : (Rows.fnExactRatNegRow.unfollowed == Try.prog.unfollowed 12) = true := by kernel_rfl
theorem recursesRatNeg : (Rows.fnExactRatNegRow.recurses == Try.prog.recurses 12) = true := by kernel_rfl
theorem namedRatNeg : (Rows.fnExactRatNegRow.named == Try.prog.varsNamed 12) = true := by kernel_rfl
theorem closedRatNeg : joinedFacts Try.prog 12 Try.f12 Rows.fnExactRatNegSpec Rows.fnExactRatNegRow = true :=
  joined_of (by kernel_rfl) laidOut mapsRowed_yes (by kernel_rfl) (by kernel_rfl) (by kernel_rfl) stops_none (by kernel_rfl) knobs_none inPlaceRatNeg unfollowedRatNeg recursesRatNeg namedRatNeg
    (by kernel_rfl) (by kernel_rfl) (by kernel_rfl) (by kernel_rfl) (by kernel_rfl) (by kernel_rfl) (by kernel_rfl) (by kernel_rfl) (by kernel_rfl) plainKeys_yes (by kernel_rfl) (by kernel_rfl) stopsHeard_yes mayEnter_yes liftsFinal_no (by kernel_rfl) make_cut (by kernel_rfl)
    (by kernel_rfl) (by kernel_rfl) (by kernel_rfl) (by kernel_rfl) (by kernel_rfl)

/-- The statement. -/
theorem fnExactRatNeg_holds : Rows.FnExactRatNegSaid :=
  OpenClaim.holds_of_wide 12 Try.f12 rfl rfl rfl rfl rfl rfl rfl ⟨rfl, rfl, rfl, rfl, rfl⟩ rfl rfl rfl rfl rfl (by kernel_rfl) Try.func12 closedRatNeg
    (of_decide_eq_true (by kernel_rfl)) (by unfold Func.isWrapper; first | (rw [if_pos (by decide +kernel)]; kernel_rfl) | (rw [if_neg (by decide +kernel)]; exact ⟨rfl, rfl⟩))
    (fun os started H enc _ => liftedRatNeg os started H enc)
end Go.Proofs.Ytnkeenejcpkelaa
