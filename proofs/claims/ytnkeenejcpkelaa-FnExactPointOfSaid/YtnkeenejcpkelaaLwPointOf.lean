/-
  The law FnExactPointOf: the program's function and the reference's return the same, the arguments are left as they were, and the result is memory of its own.
-/
import Derived.Test.YtnkeenejcpkelaaArgs
import Derived.Deep.DeepCutAuto
import Derived.Deep.RegionHeld3
import Derived.Deep.DrawnRows
import Derived.Test.YtnkeenejcpkelaaBoxes
import Derived.Test.YtnkeenejcpkelaaPointLaw
import Derived.Test.YtnkeenejcpkelaaRatIntE
import Derived.Test.YtnkeenejcpkelaaRatArgs
import Derived.Test.YtnkeenejcpkelaaVec
namespace Go.Proofs.Ytnkeenejcpkelaa
set_option linter.unusedVariables false
open Go.ChangeShapes Go.WideShapes Go.ChangeAt Go.RowKit
open Go.ChangeMaps (open_string shut_string)
attribute [local go_sem ↓] Go.wp_at_zero Go.wp_at_succ
set_option maxRecDepth 100000 in
set_option maxHeartbeats 8000000 in
theorem walkPointOf (a0_0 : Int) (a0_1 : Int) (w : World) (b0_0 : -9223372036854775808 ≤ a0_0 ∧ a0_0 ≤ 9223372036854775807) (b0_1 : -9223372036854775808 ≤ a0_1 ∧ a0_1 ≤ 9223372036854775807) :
    Calls Try.prog 6 #[.agg #[.int .i64 a0_0, .int .i64 a0_1]] w fun e w' => e = .returned (.bool true) ∧ Old w w' := by
  have NV := vPointOf_norm a0_0 a0_1
  obtain ⟨Z1, D1, Z2, D2, hV0⟩ : ∃ z d z' d', vPointOf a0_0 a0_1 = ((z, d), (z', d')) := ⟨_, _, _, _, rfl⟩
  rw [hV0] at NV
  have HV0 := Lib.hid hV0
  have NL1 := norm_len NV.1
  have NL2 := norm_len NV.2
  simp only at NL1 NL2
  have L_0_1 : Num.len (magZ Z1) ≤ 1048576 := by omega
  have L_0_2 : Num.len D1 ≤ 1048576 := by omega
  have L_0_4 : Num.len (magZ Z2) ≤ 1048576 := by omega
  have L_0_5 : Num.len D2 ≤ 1048576 := by omega
  clear NV NL1 NL2 hV0
  have O := Old.refl w
  go_enter Try.func6, Try.ntmps6
  go_wp2_with fail
  refine (toVec_any _ _ _).mono ?_
  rintro e w1 ⟨rfl, o1⟩
  have B_aV : Bx w1 w.heap.size #[.int .i64 a0_0, .int .i64 a0_1] := Bx.old (Bx.new _ _ _) o1
  have zb1 := B_aV.lt
  replace o1 : Old w w1 := Below.trans (b := _) oldA (Below.mono o1 (by simp <;> omega))
  replace O := Old.trans O o1
  have z1 := o1.size
  clear o1
  go_wp2_with fail
  refine (spec_PointOf a0_0 a0_1 _ b0_0 b0_1).mono ?_
  rintro e w2 ⟨⟨x0, x1, x2, x3, A_w0_1, c_w0_1, A_w0_2, c_w0_2, A_w0_4, c_w0_4, A_w0_5, c_w0_5, hv, he, R_w0_1, R_w0_2, R_w0_4, R_w0_5, ap_w0⟩, o2⟩
  rw [HV0.out] at hv
  obtain ⟨hv1, hv2⟩ := Prod.mk.inj hv
  obtain ⟨rfl, rfl⟩ := Prod.mk.inj hv1
  obtain ⟨rfl, rfl⟩ := Prod.mk.inj hv2
  subst he
  clear hv
  replace B_aV := B_aV.old o2
  replace O := Old.trans O o2
  have z2 := o2.size
  clear o2
  have lim_w0_1 := R_w0_1.lim
  have low_w0_1 := Low.mono (lo' := w1.heap.size + 0) R_w0_1.low (by first | exact Nat.le_refl _ | (simp <;> omega))
  have lim_w0_2 := R_w0_2.lim
  have low_w0_2 := Low.mono (lo' := w1.heap.size + 0) R_w0_2.low (by first | exact Nat.le_refl _ | (simp <;> omega))
  have lim_w0_4 := R_w0_4.lim
  have low_w0_4 := Low.mono (lo' := w1.heap.size + 0) R_w0_4.low (by first | exact Nat.le_refl _ | (simp <;> omega))
  have lim_w0_5 := R_w0_5.lim
  have low_w0_5 := Low.mono (lo' := w1.heap.size + 0) R_w0_5.low (by first | exact Nat.le_refl _ | (simp <;> omega))
  have q_aV_0 := B_aV.cell 0 rfl
  have q_aV_1 := B_aV.cell 1 rfl
  have q_aV := B_aV.lt
  go_wp2_with fail
  refine (toVec_any _ _ _).mono ?_
  rintro e w3 ⟨rfl, o3⟩
  clear q_aV_0 q_aV_1 q_aV
  have B_w0 : Bx w3 w2.heap.size #[.bool (sgnZ Z1), .slice A_w0_1 (Num.len (magZ Z1)) c_w0_1, .slice A_w0_2 (Num.len D1) c_w0_2, .bool (sgnZ Z2), .slice A_w0_4 (Num.len (magZ Z2)) c_w0_4, .slice A_w0_5 (Num.len D2) c_w0_5] := Bx.old (Bx.new _ _ _) o3
  have zb3 := B_w0.lt
  replace o3 : Old w2 w3 := Below.trans (b := _) oldA (Below.mono o3 (by simp <;> omega))
  replace B_aV := B_aV.old o3
  replace R_w0_1 := Row.below R_w0_1 o3 (Nat.le_refl _)
  replace R_w0_2 := Row.below R_w0_2 o3 (Nat.le_refl _)
  replace R_w0_4 := Row.below R_w0_4 o3 (Nat.le_refl _)
  replace R_w0_5 := Row.below R_w0_5 o3 (Nat.le_refl _)
  replace O := Old.trans O o3
  have z3 := o3.size
  clear o3
  go_wp2_with fail
  refine (impl_PointOf a0_0 a0_1 _ b0_0 b0_1).mono ?_
  rintro e w4 ⟨⟨x0, x1, x2, x3, A_g0_1, c_g0_1, A_g0_2, c_g0_2, A_g0_4, c_g0_4, A_g0_5, c_g0_5, hv, he, R_g0_1, R_g0_2, R_g0_4, R_g0_5, ap_g0⟩, o4⟩
  rw [HV0.out] at hv
  obtain ⟨hv1, hv2⟩ := Prod.mk.inj hv
  obtain ⟨rfl, rfl⟩ := Prod.mk.inj hv1
  obtain ⟨rfl, rfl⟩ := Prod.mk.inj hv2
  subst he
  clear hv
  replace B_aV := B_aV.old o4
  replace B_w0 := B_w0.old o4
  replace R_w0_1 := Row.below R_w0_1 o4 (Nat.le_refl _)
  replace R_w0_2 := Row.below R_w0_2 o4 (Nat.le_refl _)
  replace R_w0_4 := Row.below R_w0_4 o4 (Nat.le_refl _)
  replace R_w0_5 := Row.below R_w0_5 o4 (Nat.le_refl _)
  replace O := Old.trans O o4
  have z4 := o4.size
  clear o4
  have lim_g0_1 := R_g0_1.lim
  have low_g0_1 := Low.mono (lo' := w3.heap.size + 0) R_g0_1.low (by first | exact Nat.le_refl _ | (simp <;> omega))
  have lim_g0_2 := R_g0_2.lim
  have low_g0_2 := Low.mono (lo' := w3.heap.size + 0) R_g0_2.low (by first | exact Nat.le_refl _ | (simp <;> omega))
  have lim_g0_4 := R_g0_4.lim
  have low_g0_4 := Low.mono (lo' := w3.heap.size + 0) R_g0_4.low (by first | exact Nat.le_refl _ | (simp <;> omega))
  have lim_g0_5 := R_g0_5.lim
  have low_g0_5 := Low.mono (lo' := w3.heap.size + 0) R_g0_5.low (by first | exact Nat.le_refl _ | (simp <;> omega))
  have q_w0_0 := B_w0.cell 0 rfl
  have q_w0_1 := B_w0.cell 1 rfl
  have q_w0_2 := B_w0.cell 2 rfl
  have q_w0_3 := B_w0.cell 3 rfl
  have q_w0_4 := B_w0.cell 4 rfl
  have q_w0_5 := B_w0.cell 5 rfl
  have q_w0 := B_w0.lt
  go_wp2_with fail
  refine (eqPoint_yes _ _ _ _ _ _ _ _ _ _ _ _ _ _ _ _ _ _ _ _ _ _ _ _ _ _ _ _ _ _ _ _ _ _ _ _ _ _ _ (Row.below (B := w4.heap.size) R_g0_1 oldA (Nat.le_refl _)) (Row.below (B := w4.heap.size) R_w0_1 oldA (Nat.le_refl _)) (fun _ _ => rfl) L_0_1 (Row.below (B := w4.heap.size) R_g0_2 oldA (Nat.le_refl _)) (Row.below (B := w4.heap.size) R_w0_2 oldA (Nat.le_refl _)) (fun _ _ => rfl) L_0_2 (Row.below (B := w4.heap.size) R_g0_4 oldA (Nat.le_refl _)) (Row.below (B := w4.heap.size) R_w0_4 oldA (Nat.le_refl _)) (fun _ _ => rfl) L_0_4 (Row.below (B := w4.heap.size) R_g0_5 oldA (Nat.le_refl _)) (Row.below (B := w4.heap.size) R_w0_5 oldA (Nat.le_refl _)) (fun _ _ => rfl) L_0_5).mono ?_
  rintro e w5 ⟨rfl, o5⟩
  clear q_w0_0 q_w0_1 q_w0_2 q_w0_3 q_w0_4 q_w0_5 q_w0
  have B_g0 : Bx w5 w4.heap.size #[.bool (sgnZ Z1), .slice A_g0_1 (Num.len (magZ Z1)) c_g0_1, .slice A_g0_2 (Num.len D1) c_g0_2, .bool (sgnZ Z2), .slice A_g0_4 (Num.len (magZ Z2)) c_g0_4, .slice A_g0_5 (Num.len D2) c_g0_5] := Bx.old (Bx.new _ _ _) o5
  have zb5 := B_g0.lt
  replace o5 : Old w4 w5 := Below.trans (b := _) oldA (Below.mono o5 (by simp <;> omega))
  replace B_aV := B_aV.old o5
  replace B_w0 := B_w0.old o5
  replace R_w0_1 := Row.below R_w0_1 o5 (Nat.le_refl _)
  replace R_w0_2 := Row.below R_w0_2 o5 (Nat.le_refl _)
  replace R_w0_4 := Row.below R_w0_4 o5 (Nat.le_refl _)
  replace R_w0_5 := Row.below R_w0_5 o5 (Nat.le_refl _)
  replace R_g0_1 := Row.below R_g0_1 o5 (Nat.le_refl _)
  replace R_g0_2 := Row.below R_g0_2 o5 (Nat.le_refl _)
  replace R_g0_4 := Row.below R_g0_4 o5 (Nat.le_refl _)
  replace R_g0_5 := Row.below R_g0_5 o5 (Nat.le_refl _)
  replace O := Old.trans O o5
  have z5 := o5.size
  clear o5
  have q_g0_0 := B_g0.cell 0 rfl
  have q_g0_1 := B_g0.cell 1 rfl
  have q_g0_2 := B_g0.cell 2 rfl
  have q_g0_3 := B_g0.cell 3 rfl
  have q_g0_4 := B_g0.cell 4 rfl
  have q_g0_5 := B_g0.cell 5 rfl
  have q_g0 := B_g0.lt
  go_wp2_with fail
  refine (markPoint_any _ _ _ _ _ _ _ _ _ _ _ _ _ _ _ _ _ _ _ _ _ _ _ _ R_g0_1 R_g0_2 R_g0_4 R_g0_5 ap_g0 L_0_1 L_0_2 L_0_4 L_0_5 (by omega) (by omega)).mono ?_
  rintro e w6 ⟨rfl, S_1, S_2, S_4, S_5, wm6_0, wm6_1, wm6_2, G_1, G_2, G_4, G_5⟩
  clear q_g0_0 q_g0_1 q_g0_2 q_g0_3 q_g0_4 q_g0_5 q_g0
  clear R_g0_1
  have R_g0_1 := S_1
  clear S_1
  clear R_g0_2
  have R_g0_2 := S_2
  clear S_2
  clear R_g0_4
  have R_g0_4 := S_4
  clear S_4
  clear R_g0_5
  have R_g0_5 := S_5
  clear S_5
  replace R_w0_1 := Row.apart R_w0_1 G_1 lim_w0_1 low_w0_1 lim_g0_1 low_g0_1 (by omega)
  replace R_w0_2 := Row.apart R_w0_2 G_1 lim_w0_2 low_w0_2 lim_g0_1 low_g0_1 (by omega)
  replace R_w0_4 := Row.apart R_w0_4 G_1 lim_w0_4 low_w0_4 lim_g0_1 low_g0_1 (by omega)
  replace R_w0_5 := Row.apart R_w0_5 G_1 lim_w0_5 low_w0_5 lim_g0_1 low_g0_1 (by omega)
  replace B_aV := B_aV.apart G_1 low_g0_1 lim_g0_1 (by omega)
  replace B_w0 := B_w0.apart G_1 low_g0_1 lim_g0_1 (by omega)
  replace B_g0 := B_g0.apart G_1 low_g0_1 lim_g0_1 (by omega)
  replace O := Below.grown O G_1 O.size (low_g0_1.own (by omega))
  have z6_0 := G_1.size
  clear G_1
  replace R_w0_1 := Row.apart R_w0_1 G_2 lim_w0_1 low_w0_1 lim_g0_2 low_g0_2 (by omega)
  replace R_w0_2 := Row.apart R_w0_2 G_2 lim_w0_2 low_w0_2 lim_g0_2 low_g0_2 (by omega)
  replace R_w0_4 := Row.apart R_w0_4 G_2 lim_w0_4 low_w0_4 lim_g0_2 low_g0_2 (by omega)
  replace R_w0_5 := Row.apart R_w0_5 G_2 lim_w0_5 low_w0_5 lim_g0_2 low_g0_2 (by omega)
  replace B_aV := B_aV.apart G_2 low_g0_2 lim_g0_2 (by omega)
  replace B_w0 := B_w0.apart G_2 low_g0_2 lim_g0_2 (by omega)
  replace B_g0 := B_g0.apart G_2 low_g0_2 lim_g0_2 (by omega)
  replace O := Below.grown O G_2 O.size (low_g0_2.own (by omega))
  have z6_1 := G_2.size
  clear G_2
  replace R_w0_1 := Row.apart R_w0_1 G_4 lim_w0_1 low_w0_1 lim_g0_4 low_g0_4 (by omega)
  replace R_w0_2 := Row.apart R_w0_2 G_4 lim_w0_2 low_w0_2 lim_g0_4 low_g0_4 (by omega)
  replace R_w0_4 := Row.apart R_w0_4 G_4 lim_w0_4 low_w0_4 lim_g0_4 low_g0_4 (by omega)
  replace R_w0_5 := Row.apart R_w0_5 G_4 lim_w0_5 low_w0_5 lim_g0_4 low_g0_4 (by omega)
  replace B_aV := B_aV.apart G_4 low_g0_4 lim_g0_4 (by omega)
  replace B_w0 := B_w0.apart G_4 low_g0_4 lim_g0_4 (by omega)
  replace B_g0 := B_g0.apart G_4 low_g0_4 lim_g0_4 (by omega)
  replace O := Below.grown O G_4 O.size (low_g0_4.own (by omega))
  have z6_2 := G_4.size
  clear G_4
  replace R_w0_1 := Row.apart R_w0_1 G_5 lim_w0_1 low_w0_1 lim_g0_5 low_g0_5 (by omega)
  replace R_w0_2 := Row.apart R_w0_2 G_5 lim_w0_2 low_w0_2 lim_g0_5 low_g0_5 (by omega)
  replace R_w0_4 := Row.apart R_w0_4 G_5 lim_w0_4 low_w0_4 lim_g0_5 low_g0_5 (by omega)
  replace R_w0_5 := Row.apart R_w0_5 G_5 lim_w0_5 low_w0_5 lim_g0_5 low_g0_5 (by omega)
  replace B_aV := B_aV.apart G_5 low_g0_5 lim_g0_5 (by omega)
  replace B_w0 := B_w0.apart G_5 low_g0_5 lim_g0_5 (by omega)
  replace B_g0 := B_g0.apart G_5 low_g0_5 lim_g0_5 (by omega)
  replace O := Below.grown O G_5 O.size (low_g0_5.own (by omega))
  have z6_3 := G_5.size
  clear G_5
  have q_g0_0 := B_g0.cell 0 rfl
  have q_g0_1 := B_g0.cell 1 rfl
  have q_g0_2 := B_g0.cell 2 rfl
  have q_g0_3 := B_g0.cell 3 rfl
  have q_g0_4 := B_g0.cell 4 rfl
  have q_g0_5 := B_g0.cell 5 rfl
  have q_g0 := B_g0.lt
  go_wp2_with fail
  refine (heldPoint_yes _ _ _ _ _ _ _ _ _ _ _ _ _ _ _ _ _ _ _ _ _ _ _ _ R_g0_1 (fun _ _ => rfl) L_0_1 R_g0_2 (fun _ _ => rfl) L_0_2 R_g0_4 (fun _ _ => rfl) L_0_4 R_g0_5 (fun _ _ => rfl) L_0_5 (by omega) (by omega)).mono ?_
  rintro e w7 ⟨rfl, o7⟩
  clear q_g0_0 q_g0_1 q_g0_2 q_g0_3 q_g0_4 q_g0_5 q_g0
  replace B_aV := B_aV.old o7
  replace B_w0 := B_w0.old o7
  replace B_g0 := B_g0.old o7
  replace R_w0_1 := Row.below R_w0_1 o7 (Nat.le_refl _)
  replace R_w0_2 := Row.below R_w0_2 o7 (Nat.le_refl _)
  replace R_w0_4 := Row.below R_w0_4 o7 (Nat.le_refl _)
  replace R_w0_5 := Row.below R_w0_5 o7 (Nat.le_refl _)
  replace R_g0_1 := Row.below R_g0_1 o7 (Nat.le_refl _)
  replace R_g0_2 := Row.below R_g0_2 o7 (Nat.le_refl _)
  replace R_g0_4 := Row.below R_g0_4 o7 (Nat.le_refl _)
  replace R_g0_5 := Row.below R_g0_5 o7 (Nat.le_refl _)
  replace O := Old.trans O o7
  have z7 := o7.size
  clear o7
  have q_aV_0 := B_aV.cell 0 rfl
  have q_aV_1 := B_aV.cell 1 rfl
  have q_aV := B_aV.lt
  go_wp2_with fail
  refine (toVec_any _ _ _).mono ?_
  rintro e w8 ⟨rfl, o8⟩
  clear q_aV_0 q_aV_1 q_aV
  replace B_aV := B_aV.old o8
  replace B_w0 := B_w0.old o8
  replace B_g0 := B_g0.old o8
  replace R_w0_1 := Row.below R_w0_1 o8 (Nat.le_refl _)
  replace R_w0_2 := Row.below R_w0_2 o8 (Nat.le_refl _)
  replace R_w0_4 := Row.below R_w0_4 o8 (Nat.le_refl _)
  replace R_w0_5 := Row.below R_w0_5 o8 (Nat.le_refl _)
  replace R_g0_1 := Row.below R_g0_1 o8 (Nat.le_refl _)
  replace R_g0_2 := Row.below R_g0_2 o8 (Nat.le_refl _)
  replace R_g0_4 := Row.below R_g0_4 o8 (Nat.le_refl _)
  replace R_g0_5 := Row.below R_g0_5 o8 (Nat.le_refl _)
  replace O := Old.trans O o8
  have z8 := o8.size
  clear o8
  go_wp2_with fail
  refine (impl_PointOf a0_0 a0_1 _ b0_0 b0_1).mono ?_
  rintro e w9 ⟨⟨x0, x1, x2, x3, A_h0_1, c_h0_1, A_h0_2, c_h0_2, A_h0_4, c_h0_4, A_h0_5, c_h0_5, hv, he, R_h0_1, R_h0_2, R_h0_4, R_h0_5, ap_h0⟩, o9⟩
  rw [HV0.out] at hv
  obtain ⟨hv1, hv2⟩ := Prod.mk.inj hv
  obtain ⟨rfl, rfl⟩ := Prod.mk.inj hv1
  obtain ⟨rfl, rfl⟩ := Prod.mk.inj hv2
  subst he
  clear hv
  replace B_aV := B_aV.old o9
  replace B_w0 := B_w0.old o9
  replace B_g0 := B_g0.old o9
  replace R_w0_1 := Row.below R_w0_1 o9 (Nat.le_refl _)
  replace R_w0_2 := Row.below R_w0_2 o9 (Nat.le_refl _)
  replace R_w0_4 := Row.below R_w0_4 o9 (Nat.le_refl _)
  replace R_w0_5 := Row.below R_w0_5 o9 (Nat.le_refl _)
  replace R_g0_1 := Row.below R_g0_1 o9 (Nat.le_refl _)
  replace R_g0_2 := Row.below R_g0_2 o9 (Nat.le_refl _)
  replace R_g0_4 := Row.below R_g0_4 o9 (Nat.le_refl _)
  replace R_g0_5 := Row.below R_g0_5 o9 (Nat.le_refl _)
  replace O := Old.trans O o9
  have z9 := o9.size
  clear o9
  have lim_h0_1 := R_h0_1.lim
  have low_h0_1 := Low.mono (lo' := w8.heap.size + 0) R_h0_1.low (by first | exact Nat.le_refl _ | (simp <;> omega))
  have lim_h0_2 := R_h0_2.lim
  have low_h0_2 := Low.mono (lo' := w8.heap.size + 0) R_h0_2.low (by first | exact Nat.le_refl _ | (simp <;> omega))
  have lim_h0_4 := R_h0_4.lim
  have low_h0_4 := Low.mono (lo' := w8.heap.size + 0) R_h0_4.low (by first | exact Nat.le_refl _ | (simp <;> omega))
  have lim_h0_5 := R_h0_5.lim
  have low_h0_5 := Low.mono (lo' := w8.heap.size + 0) R_h0_5.low (by first | exact Nat.le_refl _ | (simp <;> omega))
  clear B_aV
  have q_w0_0 := B_w0.cell 0 rfl
  have q_w0_1 := B_w0.cell 1 rfl
  have q_w0_2 := B_w0.cell 2 rfl
  have q_w0_3 := B_w0.cell 3 rfl
  have q_w0_4 := B_w0.cell 4 rfl
  have q_w0_5 := B_w0.cell 5 rfl
  have q_w0 := B_w0.lt
  go_wp2_with fail
  refine (eqPoint_yes _ _ _ _ _ _ _ _ _ _ _ _ _ _ _ _ _ _ _ _ _ _ _ _ _ _ _ _ _ _ _ _ _ _ _ _ _ _ _ (Row.below (B := w9.heap.size) R_h0_1 oldA (Nat.le_refl _)) (Row.below (B := w9.heap.size) R_w0_1 oldA (Nat.le_refl _)) (fun _ _ => rfl) L_0_1 (Row.below (B := w9.heap.size) R_h0_2 oldA (Nat.le_refl _)) (Row.below (B := w9.heap.size) R_w0_2 oldA (Nat.le_refl _)) (fun _ _ => rfl) L_0_2 (Row.below (B := w9.heap.size) R_h0_4 oldA (Nat.le_refl _)) (Row.below (B := w9.heap.size) R_w0_4 oldA (Nat.le_refl _)) (fun _ _ => rfl) L_0_4 (Row.below (B := w9.heap.size) R_h0_5 oldA (Nat.le_refl _)) (Row.below (B := w9.heap.size) R_w0_5 oldA (Nat.le_refl _)) (fun _ _ => rfl) L_0_5).mono ?_
  rintro e w10 ⟨rfl, o10⟩
  clear q_w0_0 q_w0_1 q_w0_2 q_w0_3 q_w0_4 q_w0_5 q_w0
  have B_h0 : Bx w10 w9.heap.size #[.bool (sgnZ Z1), .slice A_h0_1 (Num.len (magZ Z1)) c_h0_1, .slice A_h0_2 (Num.len D1) c_h0_2, .bool (sgnZ Z2), .slice A_h0_4 (Num.len (magZ Z2)) c_h0_4, .slice A_h0_5 (Num.len D2) c_h0_5] := Bx.old (Bx.new _ _ _) o10
  have zb10 := B_h0.lt
  replace o10 : Old w9 w10 := Below.trans (b := _) oldA (Below.mono o10 (by simp <;> omega))
  replace B_w0 := B_w0.old o10
  replace B_g0 := B_g0.old o10
  replace R_w0_1 := Row.below R_w0_1 o10 (Nat.le_refl _)
  replace R_w0_2 := Row.below R_w0_2 o10 (Nat.le_refl _)
  replace R_w0_4 := Row.below R_w0_4 o10 (Nat.le_refl _)
  replace R_w0_5 := Row.below R_w0_5 o10 (Nat.le_refl _)
  replace R_g0_1 := Row.below R_g0_1 o10 (Nat.le_refl _)
  replace R_g0_2 := Row.below R_g0_2 o10 (Nat.le_refl _)
  replace R_g0_4 := Row.below R_g0_4 o10 (Nat.le_refl _)
  replace R_g0_5 := Row.below R_g0_5 o10 (Nat.le_refl _)
  replace R_h0_1 := Row.below R_h0_1 o10 (Nat.le_refl _)
  replace R_h0_2 := Row.below R_h0_2 o10 (Nat.le_refl _)
  replace R_h0_4 := Row.below R_h0_4 o10 (Nat.le_refl _)
  replace R_h0_5 := Row.below R_h0_5 o10 (Nat.le_refl _)
  replace O := Old.trans O o10
  have z10 := o10.size
  clear o10
  have q_g0_0 := B_g0.cell 0 rfl
  have q_g0_1 := B_g0.cell 1 rfl
  have q_g0_2 := B_g0.cell 2 rfl
  have q_g0_3 := B_g0.cell 3 rfl
  have q_g0_4 := B_g0.cell 4 rfl
  have q_g0_5 := B_g0.cell 5 rfl
  have q_g0 := B_g0.lt
  go_wp2_with fail
  refine (heldPoint_yes _ _ _ _ _ _ _ _ _ _ _ _ _ _ _ _ _ _ _ _ _ _ _ _ R_g0_1 (fun _ _ => rfl) L_0_1 R_g0_2 (fun _ _ => rfl) L_0_2 R_g0_4 (fun _ _ => rfl) L_0_4 R_g0_5 (fun _ _ => rfl) L_0_5 (by omega) (by omega)).mono ?_
  rintro e w11 ⟨rfl, o11⟩
  clear q_g0_0 q_g0_1 q_g0_2 q_g0_3 q_g0_4 q_g0_5 q_g0
  replace B_w0 := B_w0.old o11
  replace B_g0 := B_g0.old o11
  replace B_h0 := B_h0.old o11
  replace R_w0_1 := Row.below R_w0_1 o11 (Nat.le_refl _)
  replace R_w0_2 := Row.below R_w0_2 o11 (Nat.le_refl _)
  replace R_w0_4 := Row.below R_w0_4 o11 (Nat.le_refl _)
  replace R_w0_5 := Row.below R_w0_5 o11 (Nat.le_refl _)
  replace R_g0_1 := Row.below R_g0_1 o11 (Nat.le_refl _)
  replace R_g0_2 := Row.below R_g0_2 o11 (Nat.le_refl _)
  replace R_g0_4 := Row.below R_g0_4 o11 (Nat.le_refl _)
  replace R_g0_5 := Row.below R_g0_5 o11 (Nat.le_refl _)
  replace R_h0_1 := Row.below R_h0_1 o11 (Nat.le_refl _)
  replace R_h0_2 := Row.below R_h0_2 o11 (Nat.le_refl _)
  replace R_h0_4 := Row.below R_h0_4 o11 (Nat.le_refl _)
  replace R_h0_5 := Row.below R_h0_5 o11 (Nat.le_refl _)
  replace O := Old.trans O o11
  have z11 := o11.size
  clear o11
  go_wp2
  go_ret
  exact ⟨rfl, O⟩

set_option maxRecDepth 100000 in
theorem liftedPointOf (os : Os) (started : os.Started) (H : Type) (enc : TypeId × Value → H) :
    ReturnsInHanded {} Try.checked os 6 .any (Rows.fnExactPointOfSpec.pre6 enc Try.prog Try.f6 Rows.fnExactPointOfRow.domain false) (Rows.fnExactPointOfSpec.post enc Try.prog Try.f6 false true false false) := by
  refine returnsInHanded_of_change (C := Try.checked) ownKnob_none started (by kernel_rfl) Try.func6
    (ChangeSpec.witness6 (enc := enc) (C := Try.checked) false ⟨#[], #[.agg #[.int .i64 0, .int .i64 0]], []⟩ 8 (by kernel_rfl) (by kernel_rfl) (by kernel_rfl) (by kernel_rfl)) ?_
  intro W base args ds gs before hval0 hW hcnd _
  have hval : ∀ (j : Nat) t v, Try.f6.params[j]? = some t → args[j]? = some v → Value.okWide Try.prog W .any base t v := hval0
  have hW' := hW
  obtain ⟨p, q, hA0, hV, rfl, hfz, hnd⟩ := hW
  have hA : DataW.TrodAll enc Try.prog W 0 (fun _ => true) true Try.f6.params.toList args.toList ds p := hA0
  rw [Try.params6] at hA hval
  obtain ⟨v0, vs0, d0, ds0, p0, q0, hargs, rfl, rfl, h0, r0⟩ := trodAll_cons hA
  obtain ⟨rfl, rfl, rfl⟩ := trodAll_nil r0
  obtain rfl : args = #[v0] := by cases args; simp_all
  obtain ⟨rfl, rfl⟩ := trodVars_none hV
  have k0 := h0
  have lt0 : ∀ x ∈ p0, x.block < W.heap.size := by obtain ⟨m, hm⟩ := k0; exact DataW.trod_lt m _ _ _ hm
  obtain ⟨a0_0, a0_1, rfl, g0_0, g0_1⟩ := open_vec (hval 0 46 v0 rfl rfl) h0
  clear hA0 hval0
  refine (walkPointOf a0_0 a0_1 W g0_0 g0_1).mono fun e W' ⟨he, bel⟩ => ?_
  subst he
  exact ⟨_, rfl, _, _, _, [], _, [], hW', trodAll_mk1 (shut_bool Try.underlying4 _), (trodAll_cons_mk (Below.trod laidOut (by kernel_rfl) (of_decide_eq_true (by kernel_rfl)) k0 bel lt0) trodAll_mk0), rfl, bel.frame _, fun h => by cases h⟩

theorem inPlacePointOf : (Rows.fnExactPointOfRow.inPlace == Try.prog.inPlace 6) = true := by kernel_rfl
theorem unfollowedPointOf : (Rows.fnExactPointOfRow.unfollowed == Try.prog.unfollowed 6) = true := by kernel_rfl
theorem recursesPointOf : (Rows.fnExactPointOfRow.recurses == Try.prog.recurses 6) = true := by kernel_rfl
theorem namedPointOf : (Rows.fnExactPointOfRow.named == Try.prog.varsNamed 6) = true := by kernel_rfl
theorem closedPointOf : joinedFacts Try.prog 6 Try.f6 Rows.fnExactPointOfSpec Rows.fnExactPointOfRow = true :=
  joined_of (by kernel_rfl) laidOut mapsRowed_yes (by kernel_rfl) (by kernel_rfl) (by kernel_rfl) stops_none (by kernel_rfl) knobs_none inPlacePointOf unfollowedPointOf recursesPointOf namedPointOf
    (by kernel_rfl) (by kernel_rfl) (by kernel_rfl) (by kernel_rfl) (by kernel_rfl) (by kernel_rfl) (by kernel_rfl) (by kernel_rfl) (by kernel_rfl) plainKeys_yes (by kernel_rfl) (by kernel_rfl) stopsHeard_yes mayEnter_yes liftsFinal_no (by kernel_rfl) make_cut (by kernel_rfl)
    (by kernel_rfl) (by kernel_rfl) (by kernel_rfl) (by kernel_rfl) (by kernel_rfl)

/-- The statement. -/
theorem fnExactPointOf_holds : Rows.FnExactPointOfSaid :=
  OpenClaim.holds_of_wide 6 Try.f6 rfl rfl rfl rfl rfl rfl rfl ⟨rfl, rfl, rfl, rfl, rfl⟩ rfl rfl rfl rfl rfl (by kernel_rfl) Try.func6 closedPointOf
    (of_decide_eq_true (by kernel_rfl)) (by unfold Func.isWrapper; first | (rw [if_pos (by decide +kernel)]; kernel_rfl) | (rw [if_neg (by decide +kernel)]; exact ⟨rfl, rfl⟩))
    (fun os started H enc _ => liftedPointOf os started H enc)
end Go.Proofs.Ytnkeenejcpkelaa
