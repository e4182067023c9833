/-
  The law FnExactBigIntFloorDiv: the program's function and the reference's return the same, the arguments are left as they were, and the result is memory of its own.
-/
import Derived.Test.YtemjhmmbbjppkaaArgs
import Derived.Deep.DeepCutAuto
import Derived.Deep.RegionHeld3
import Derived.Deep.DrawnRows
import Derived.Test.YtemjhmmbbjppkaaBoxes
import Derived.Test.YtemjhmmbbjppkaaBigLaw
import Derived.Test.YtemjhmmbbjppkaaFloor
namespace Go.Proofs.Ytemjhmmbbjppkaa
set_option linter.unusedVariables false
open Go.ChangeShapes Go.WideShapes Go.ChangeAt Go.RowKit
open Go.ChangeMaps (open_string shut_string)
attribute [local go_sem ↓] Go.wp_at_zero Go.wp_at_succ
set_option maxRecDepth 100000 in
set_option maxHeartbeats 1000000 in
theorem walkBigIntFloorDiv (v0_0 : Bool) (A0_1 : Option Addr) (n0_1 c0_1 : Nat) (f0_1 : Nat → Int) (A1_0 : Option Addr) (n1_0 c1_0 : Nat) (f1_0 : Nat → Int) (w : World) (h0_1 : Rd w A0_1 n0_1 c0_1 f0_1) (h1_0 : Rd w A1_0 n1_0 c1_0 f1_0) (hm0_1 : n0_1 ≤ 9223372036854775807) :
    Calls Try.prog 16 #[.agg #[.bool v0_0, .slice A0_1 n0_1 c0_1], .slice A1_0 n1_0 c1_0] w fun e w' => e = .returned (.bool true) ∧ Old w w' := by
  by_cases hn1_0 : n1_0 ≤ 1048576
  · skip
    have L_0_1 : Num.len (magZ (zBigIntFloorDiv0 v0_0 n0_1 f0_1 n1_0 f1_0)) ≤ 1048576 := by have := zBigIntFloorDiv0_len v0_0 n0_1 f0_1 n1_0 f1_0; omega
    have L_1_0 : Num.len (rBigIntFloorDiv1 v0_0 n0_1 f0_1 n1_0 f1_0) ≤ 1048576 := by have := rBigIntFloorDiv1_len v0_0 n0_1 f0_1 n1_0 f1_0; omega
    have O := Old.refl w
    go_enter Try.func16, Try.ntmps16
    go_wp2_with fail
    by_cases hs0 : (n0_1 : Int) ≤ 1048576
    case neg =>
      refine (szBigInt_no _ _ _ _ _ _ hm0_1 (by omega) (by omega) hs0).mono ?_
      rintro e w1 ⟨rfl, o1⟩
      go_wp2
      go_ret
      exact ⟨rfl, Old.trans O (Below.trans (b := _) oldA (Below.mono o1 (by simp <;> omega)))⟩
    have hn0_1 : n0_1 ≤ 1048576 := by omega
    refine (szBigInt_yes _ _ _ _ _ _ hm0_1 (by omega) (by omega) hs0).mono ?_
    rintro e w1 ⟨rfl, o1⟩
    have B_aX : Bx w1 w.heap.size #[.bool v0_0, .slice A0_1 n0_1 c0_1] := Bx.old (Bx.new _ _ _) o1
    have zb1 := B_aX.lt
    replace o1 : Old w w1 := Below.trans (b := _) oldA (Below.mono o1 (by simp <;> omega))
    replace O := Old.trans O o1
    have z1 := o1.size
    clear o1
    have hl0 : ¬ 1048576 - (n0_1 : Int) < 0 := by omega
    have q_aX_0 := B_aX.cell 0 rfl
    have q_aX_1 := B_aX.cell 1 rfl
    have q_aX := B_aX.lt
    go_wp2_with fail
    refine (toBigInt_any _ _ _ _ _ _ (h0_1.below (B := w.heap.size) (Below.trans (b := w1) O oldA) (Nat.le_refl _)) hn0_1).mono ?_
    rintro e w2 ⟨A_t1_1, rfl, R_t1_1, o2⟩
    clear q_aX_0 q_aX_1 q_aX
    replace B_aX := B_aX.old o2
    replace O := Old.trans O o2
    have z2 := o2.size
    clear o2
    have lim_t1_1 := R_t1_1.lim
    have low_t1_1 := Low.mono (lo' := w1.heap.size + 0) R_t1_1.low (by first | exact Nat.le_refl _ | (simp <;> omega))
    have q_aX_0 := B_aX.cell 0 rfl
    have q_aX_1 := B_aX.cell 1 rfl
    have q_aX := B_aX.lt
    go_wp2_with fail
    refine (toIntS_ex _ _ _ _ _ (h1_0.below (B := w.heap.size) (Below.trans (b := w2) O oldA) (Nat.le_refl _)) hn1_0).mono ?_
    rintro e w3 ⟨A_t2_0, rfl, R_t2_0, o3⟩
    clear q_aX_0 q_aX_1 q_aX
    replace B_aX := B_aX.old o3
    replace R_t1_1 := Row.below R_t1_1 o3 (Nat.le_refl _)
    replace O := Old.trans O o3
    have z3 := o3.size
    clear o3
    have lim_t2_0 := R_t2_0.lim
    have low_t2_0 := Low.mono (lo' := w2.heap.size + 0) R_t2_0.low (by first | exact Nat.le_refl _ | (simp <;> omega))
    have q_aX_0 := B_aX.cell 0 rfl
    have q_aX_1 := B_aX.cell 1 rfl
    have q_aX := B_aX.lt
    go_wp2_with fail
    refine (spec_BigIntFloorDiv _ _ _ _ _ _ _ _ _ _ _ _ R_t1_1 R_t2_0 hn0_1 hn1_0).mono ?_
    rintro e w4 ⟨⟨A_w0_1, c_w0_1, A_w1_0, c_w1_0, rfl, R_w0_1, R_w1_0⟩, o4⟩
    clear q_aX_0 q_aX_1 q_aX
    clear R_t1_1 lim_t1_1 low_t1_1
    clear R_t2_0 lim_t2_0 low_t2_0
    replace B_aX := B_aX.old o4
    replace O := Old.trans O o4
    have z4 := o4.size
    clear o4
    have lim_w0_1 := R_w0_1.lim
    have low_w0_1 := Low.mono (lo' := w3.heap.size + 0) R_w0_1.low (by first | exact Nat.le_refl _ | (simp <;> omega))
    have lim_w1_0 := R_w1_0.lim
    have low_w1_0 := Low.mono (lo' := w3.heap.size + 0) R_w1_0.low (by first | exact Nat.le_refl _ | (simp <;> omega))
    have q_aX_0 := B_aX.cell 0 rfl
    have q_aX_1 := B_aX.cell 1 rfl
    have q_aX := B_aX.lt
    go_wp2_with fail
    refine (toBigInt_any _ _ _ _ _ _ (h0_1.below (B := w.heap.size) (Below.trans (b := w4) O oldA) (Nat.le_refl _)) hn0_1).mono ?_
    rintro e w5 ⟨A_t3_1, rfl, R_t3_1, o5⟩
    clear q_aX_0 q_aX_1 q_aX
    have B_w0 : Bx w5 w4.heap.size #[.bool (sgnZ (zBigIntFloorDiv0 v0_0 n0_1 f0_1 n1_0 f1_0)), .slice A_w0_1 (Num.len (magZ (zBigIntFloorDiv0 v0_0 n0_1 f0_1 n1_0 f1_0))) c_w0_1] := Bx.old (Bx.new _ _ _) o5
    have zb5 := B_w0.lt
    replace o5 : Old w4 w5 := Below.trans (b := _) oldA (Below.mono o5 (by simp <;> omega))
    replace B_aX := B_aX.old o5
    replace R_w0_1 := Row.below R_w0_1 o5 (Nat.le_refl _)
    replace R_w1_0 := Row.below R_w1_0 o5 (Nat.le_refl _)
    replace O := Old.trans O o5
    have z5 := o5.size
    clear o5
    have lim_t3_1 := R_t3_1.lim
    have low_t3_1 := Low.mono (lo' := w4.heap.size + 1) R_t3_1.low (by first | exact Nat.le_refl _ | (simp <;> omega))
    have q_aX_0 := B_aX.cell 0 rfl
    have q_aX_1 := B_aX.cell 1 rfl
    have q_aX := B_aX.lt
    have q_w0_0 := B_w0.cell 0 rfl
    have q_w0_1 := B_w0.cell 1 rfl
    have q_w0 := B_w0.lt
    go_wp2_with fail
    refine (toIntS_ex _ _ _ _ _ (h1_0.below (B := w.heap.size) (Below.trans (b := w5) O oldA) (Nat.le_refl _)) hn1_0).mono ?_
    rintro e w6 ⟨A_t4_0, rfl, R_t4_0, o6⟩
    clear q_aX_0 q_aX_1 q_aX q_w0_0 q_w0_1 q_w0
    have B_t3 : Bx w6 w5.heap.size #[.bool v0_0, .slice A_t3_1 n0_1 n0_1] := Bx.old (Bx.new _ _ _) o6
    have zb6 := B_t3.lt
    replace o6 : Old w5 w6 := Below.trans (b := _) oldA (Below.mono o6 (by simp <;> omega))
    replace B_aX := B_aX.old o6
    replace B_w0 := B_w0.old o6
    replace R_w0_1 := Row.below R_w0_1 o6 (Nat.le_refl _)
    replace R_w1_0 := Row.below R_w1_0 o6 (Nat.le_refl _)
    replace R_t3_1 := Row.below R_t3_1 o6 (Nat.le_refl _)
    replace O := Old.trans O o6
    have z6 := o6.size
    clear o6
    have lim_t4_0 := R_t4_0.lim
    have low_t4_0 := Low.mono (lo' := w5.heap.size + 1) R_t4_0.low (by first | exact Nat.le_refl _ | (simp <;> omega))
    have q_aX_0 := B_aX.cell 0 rfl
    have q_aX_1 := B_aX.cell 1 rfl
    have q_aX := B_aX.lt
    have q_w0_0 := B_w0.cell 0 rfl
    have q_w0_1 := B_w0.cell 1 rfl
    have q_w0 := B_w0.lt
    have q_t3_0 := B_t3.cell 0 rfl
    have q_t3_1 := B_t3.cell 1 rfl
    have q_t3 := B_t3.lt
    go_wp2_with fail
    refine (impl_BigIntFloorDiv _ _ _ _ _ _ _ _ _ _ _ _ R_t3_1 R_t4_0 hn0_1 hn1_0).mono ?_
    rintro e w7 ⟨⟨A_g0_1, c_g0_1, A_g1_0, c_g1_0, rfl, R_g0_1, R_g1_0, ap_g0⟩, o7⟩
    clear q_aX_0 q_aX_1 q_aX q_w0_0 q_w0_1 q_w0 q_t3_0 q_t3_1 q_t3
    replace B_aX := B_aX.old o7
    replace B_w0 := B_w0.old o7
    replace B_t3 := B_t3.old o7
    replace R_w0_1 := Row.below R_w0_1 o7 (Nat.le_refl _)
    replace R_w1_0 := Row.below R_w1_0 o7 (Nat.le_refl _)
    replace R_t3_1 := Row.below R_t3_1 o7 (Nat.le_refl _)
    replace R_t4_0 := Row.below R_t4_0 o7 (Nat.le_refl _)
    replace O := Old.trans O o7
    have z7 := o7.size
    clear o7
    have lim_g0_1 := R_g0_1.lim
    have low_g0_1 := Low.mono (lo' := w6.heap.size + 0) R_g0_1.low (by first | exact Nat.le_refl _ | (simp <;> omega))
    have lim_g1_0 := R_g1_0.lim
    have low_g1_0 := Low.mono (lo' := w6.heap.size + 0) R_g1_0.low (by first | exact Nat.le_refl _ | (simp <;> omega))
    have q_aX_0 := B_aX.cell 0 rfl
    have q_aX_1 := B_aX.cell 1 rfl
    have q_aX := B_aX.lt
    have q_w0_0 := B_w0.cell 0 rfl
    have q_w0_1 := B_w0.cell 1 rfl
    have q_w0 := B_w0.lt
    have q_t3_0 := B_t3.cell 0 rfl
    have q_t3_1 := B_t3.cell 1 rfl
    have q_t3 := B_t3.lt
    go_wp2_with fail
    refine (eqBigInt_yes _ _ _ _ _ _ _ _ _ _ _ (Row.below (B := w7.heap.size) R_g0_1 oldA (Nat.le_refl _)) (Row.below (B := w7.heap.size) R_w0_1 oldA (Nat.le_refl _)) (fun _ _ => rfl) L_0_1).mono ?_
    rintro e w8 ⟨rfl, o8⟩
    clear q_aX_0 q_aX_1 q_aX q_w0_0 q_w0_1 q_w0 q_t3_0 q_t3_1 q_t3
    have B_g0 : Bx w8 w7.heap.size #[.bool (sgnZ (zBigIntFloorDiv0 v0_0 n0_1 f0_1 n1_0 f1_0)), .slice A_g0_1 (Num.len (magZ (zBigIntFloorDiv0 v0_0 n0_1 f0_1 n1_0 f1_0))) c_g0_1] := Bx.old (Bx.new _ _ _) o8
    have zb8 := B_g0.lt
    replace o8 : Old w7 w8 := Below.trans (b := _) oldA (Below.mono o8 (by simp <;> omega))
    replace B_aX := B_aX.old o8
    replace B_w0 := B_w0.old o8
    replace B_t3 := B_t3.old o8
    replace R_w0_1 := Row.below R_w0_1 o8 (Nat.le_refl _)
    replace R_w1_0 := Row.below R_w1_0 o8 (Nat.le_refl _)
    replace R_t3_1 := Row.below R_t3_1 o8 (Nat.le_refl _)
    replace R_t4_0 := Row.below R_t4_0 o8 (Nat.le_refl _)
    replace R_g0_1 := Row.below R_g0_1 o8 (Nat.le_refl _)
    replace R_g1_0 := Row.below R_g1_0 o8 (Nat.le_refl _)
    replace O := Old.trans O o8
    have z8 := o8.size
    clear o8
    have q_aX_0 := B_aX.cell 0 rfl
    have q_aX_1 := B_aX.cell 1 rfl
    have q_aX := B_aX.lt
    have q_w0_0 := B_w0.cell 0 rfl
    have q_w0_1 := B_w0.cell 1 rfl
    have q_w0 := B_w0.lt
    have q_t3_0 := B_t3.cell 0 rfl
    have q_t3_1 := B_t3.cell 1 rfl
    have q_t3 := B_t3.lt
    have q_g0_0 := B_g0.cell 0 rfl
    have q_g0_1 := B_g0.cell 1 rfl
    have q_g0 := B_g0.lt
    go_wp2_with fail
    refine (eqIntS_yes _ _ _ _ _ _ _ _ _ _ R_g1_0 R_w1_0 (fun _ _ => rfl) L_1_0).mono ?_
    rintro e w9 ⟨rfl, o9⟩
    clear q_aX_0 q_aX_1 q_aX q_w0_0 q_w0_1 q_w0 q_t3_0 q_t3_1 q_t3 q_g0_0 q_g0_1 q_g0
    replace B_aX := B_aX.old o9
    replace B_w0 := B_w0.old o9
    replace B_t3 := B_t3.old o9
    replace B_g0 := B_g0.old o9
    replace R_w0_1 := Row.below R_w0_1 o9 (Nat.le_refl _)
    replace R_w1_0 := Row.below R_w1_0 o9 (Nat.le_refl _)
    replace R_t3_1 := Row.below R_t3_1 o9 (Nat.le_refl _)
    replace R_t4_0 := Row.below R_t4_0 o9 (Nat.le_refl _)
    replace R_g0_1 := Row.below R_g0_1 o9 (Nat.le_refl _)
    replace R_g1_0 := Row.below R_g1_0 o9 (Nat.le_refl _)
    replace O := Old.trans O o9
    have z9 := o9.size
    clear o9
    have q_aX_0 := B_aX.cell 0 rfl
    have q_aX_1 := B_aX.cell 1 rfl
    have q_aX := B_aX.lt
    have q_w0_0 := B_w0.cell 0 rfl
    have q_w0_1 := B_w0.cell 1 rfl
    have q_w0 := B_w0.lt
    have q_t3_0 := B_t3.cell 0 rfl
    have q_t3_1 := B_t3.cell 1 rfl
    have q_t3 := B_t3.lt
    have q_g0_0 := B_g0.cell 0 rfl
    have q_g0_1 := B_g0.cell 1 rfl
    have q_g0 := B_g0.lt
    go_upto_region 13 with fail
    go_cut [57] (fun sl wx => sl = .bool false ∧ Old w9 wx)
    case first =>
      go_region_held3 (fun w' => w'.cell? ⟨w.heap.size, 0, none⟩ = some (.bool v0_0) ∧ w'.cell? ⟨w.heap.size, 1, none⟩ = some (.slice A0_1 n0_1 c0_1) ∧ w'.cell? ⟨w5.heap.size, 0, none⟩ = some (.bool v0_0) ∧ w'.cell? ⟨w5.heap.size, 1, none⟩ = some (.slice A_t3_1 n0_1 n0_1)) (go_keep)
        (first
        | (go_at_call 38; refine (toBigInt_any v0_0 A0_1 n0_1 c0_1 f0_1 _ (h0_1.below (B := w.heap.size) (Below.trans (b := w9) O oldA) (Nat.le_refl _)) hn0_1).mono ?_; rintro e wt ⟨A_t_1, rfl, R_t_1, o6⟩; replace o6 : Old w9 wt := Below.trans (b := _) oldA (Below.mono o6 leA); clear q_aX_0 q_aX_1 q_aX q_w0_0 q_w0_1 q_w0 q_t3_0 q_t3_1 q_t3 q_g0_0 q_g0_1 q_g0; have D_aX := B_aX.old o6; have q_aX_0 := D_aX.cell 0 rfl; have q_aX_1 := D_aX.cell 1 rfl; have q_aX := D_aX.lt; have D_t3 := B_t3.old o6; have q_t3_0 := D_t3.cell 0 rfl; have q_t3_1 := D_t3.cell 1 rfl; have q_t3 := D_t3.lt)
        | (go_at_call 33; refine (eqBigInt_yes _ _ _ _ _ _ _ _ _ _ _ (Row.below (B := w9.heap.size) R_t3_1 (Below.trans (b := wt) o6 oldA) (Nat.le_refl _)) (Row.below (B := wt.heap.size) R_t_1 oldA (Nat.le_refl _)) (fun _ _ => rfl) hn0_1).mono ?_; rintro e wu ⟨rfl, o7⟩; replace o7 : Old wt wu := Below.trans (b := _) oldA (Below.mono o7 leA); clear q_aX_0 q_aX_1 q_aX q_t3_0 q_t3_1 q_t3; have E_aX := D_aX.old o7; have q_aX_0 := E_aX.cell 0 rfl; have q_aX_1 := E_aX.cell 1 rfl; have q_aX := E_aX.lt; have E_t3 := D_t3.old o7; have q_t3_0 := E_t3.cell 0 rfl; have q_t3_1 := E_t3.cell 1 rfl; have q_t3 := E_t3.lt))
      all_goals (go_wp2_with fail; go_meet; exact ⟨rfl, Old.trans o6 (Below.trans (b := _) o7 oldA)⟩)
    case rest =>
    obtain ⟨rfl, o10⟩ := hcut
    obtain ⟨w10, hw⟩ : ∃ x, x = wc := ⟨_, rfl⟩
    subst hw
    clear q_aX_0 q_aX_1 q_aX q_w0_0 q_w0_1 q_w0 q_t3_0 q_t3_1 q_t3 q_g0_0 q_g0_1 q_g0
    replace B_aX := B_aX.old o10
    replace B_w0 := B_w0.old o10
    replace B_t3 := B_t3.old o10
    replace B_g0 := B_g0.old o10
    replace R_w0_1 := Row.below R_w0_1 o10 (Nat.le_refl _)
    replace R_w1_0 := Row.below R_w1_0 o10 (Nat.le_refl _)
    replace R_t3_1 := Row.below R_t3_1 o10 (Nat.le_refl _)
    replace R_t4_0 := Row.below R_t4_0 o10 (Nat.le_refl _)
    replace R_g0_1 := Row.below R_g0_1 o10 (Nat.le_refl _)
    replace R_g1_0 := Row.below R_g1_0 o10 (Nat.le_refl _)
    replace O := Old.trans O o10
    have z10 := o10.size
    clear o10
    have q_aX_0 := B_aX.cell 0 rfl
    have q_aX_1 := B_aX.cell 1 rfl
    have q_aX := B_aX.lt
    have q_w0_0 := B_w0.cell 0 rfl
    have q_w0_1 := B_w0.cell 1 rfl
    have q_w0 := B_w0.lt
    have q_t3_0 := B_t3.cell 0 rfl
    have q_t3_1 := B_t3.cell 1 rfl
    have q_t3 := B_t3.lt
    have q_g0_0 := B_g0.cell 0 rfl
    have q_g0_1 := B_g0.cell 1 rfl
    have q_g0 := B_g0.lt
    go_wp2_with fail
    refine (toIntS_ex _ _ _ _ _ (h1_0.below (B := w.heap.size) (Below.trans (b := w10) O oldA) (Nat.le_refl _)) hn1_0).mono ?_
    rintro e w11 ⟨A_t5_0, rfl, R_t5_0, o11⟩
    clear q_aX_0 q_aX_1 q_aX q_w0_0 q_w0_1 q_w0 q_t3_0 q_t3_1 q_t3 q_g0_0 q_g0_1 q_g0
    replace B_aX := B_aX.old o11
    replace B_w0 := B_w0.old o11
    replace B_t3 := B_t3.old o11
    replace B_g0 := B_g0.old o11
    replace R_w0_1 := Row.below R_w0_1 o11 (Nat.le_refl _)
    replace R_w1_0 := Row.below R_w1_0 o11 (Nat.le_refl _)
    replace R_t3_1 := Row.below R_t3_1 o11 (Nat.le_refl _)
    replace R_t4_0 := Row.below R_t4_0 o11 (Nat.le_refl _)
    replace R_g0_1 := Row.below R_g0_1 o11 (Nat.le_refl _)
    replace R_g1_0 := Row.below R_g1_0 o11 (Nat.le_refl _)
    replace O := Old.trans O o11
    have z11 := o11.size
    clear o11
    have lim_t5_0 := R_t5_0.lim
    have low_t5_0 := Low.mono (lo' := w10.heap.size + 0) R_t5_0.low (by first | exact Nat.le_refl _ | (simp <;> omega))
    have q_aX_0 := B_aX.cell 0 rfl
    have q_aX_1 := B_aX.cell 1 rfl
    have q_aX := B_aX.lt
    have q_w0_0 := B_w0.cell 0 rfl
    have q_w0_1 := B_w0.cell 1 rfl
    have q_w0 := B_w0.lt
    have q_t3_0 := B_t3.cell 0 rfl
    have q_t3_1 := B_t3.cell 1 rfl
    have q_t3 := B_t3.lt
    have q_g0_0 := B_g0.cell 0 rfl
    have q_g0_1 := B_g0.cell 1 rfl
    have q_g0 := B_g0.lt
    go_wp2_with fail
    refine (eqIntS_yes _ _ _ _ _ _ _ _ _ _ R_t4_0 R_t5_0 (fun _ _ => rfl) hn1_0).mono ?_
    rintro e w12 ⟨rfl, o12⟩
    clear q_aX_0 q_aX_1 q_aX q_w0_0 q_w0_1 q_w0 q_t3_0 q_t3_1 q_t3 q_g0_0 q_g0_1 q_g0
    clear R_t5_0 lim_t5_0 low_t5_0
    replace B_aX := B_aX.old o12
    replace B_w0 := B_w0.old o12
    replace B_t3 := B_t3.old o12
    replace B_g0 := B_g0.old o12
    replace R_w0_1 := Row.below R_w0_1 o12 (Nat.le_refl _)
    replace R_w1_0 := Row.below R_w1_0 o12 (Nat.le_refl _)
    replace R_t3_1 := Row.below R_t3_1 o12 (Nat.le_refl _)
    replace R_t4_0 := Row.below R_t4_0 o12 (Nat.le_refl _)
    replace R_g0_1 := Row.below R_g0_1 o12 (Nat.le_refl _)
    replace R_g1_0 := Row.below R_g1_0 o12 (Nat.le_refl _)
    replace O := Old.trans O o12
    have z12 := o12.size
    clear o12
    have q_aX_0 := B_aX.cell 0 rfl
    have q_aX_1 := B_aX.cell 1 rfl
    have q_aX := B_aX.lt
    have q_w0_0 := B_w0.cell 0 rfl
    have q_w0_1 := B_w0.cell 1 rfl
    have q_w0 := B_w0.lt
    have q_t3_0 := B_t3.cell 0 rfl
    have q_t3_1 := B_t3.cell 1 rfl
    have q_t3 := B_t3.lt
    have q_g0_0 := B_g0.cell 0 rfl
    have q_g0_1 := B_g0.cell 1 rfl
    have q_g0 := B_g0.lt
    go_wp2_with fail
    refine (markBigInt_any _ _ _ _ _ _ _ _ R_t3_1 hn0_1 (by omega) (by omega)).mono ?_
    rintro e w13 ⟨rfl, S_1, G_1⟩
    clear q_aX_0 q_aX_1 q_aX q_w0_0 q_w0_1 q_w0 q_t3_0 q_t3_1 q_t3 q_g0_0 q_g0_1 q_g0
    clear R_t3_1
    have R_t3_1 := S_1
    clear S_1
    replace R_w0_1 := Row.apart R_w0_1 G_1 lim_w0_1 low_w0_1 lim_t3_1 low_t3_1 (by omega)
    replace R_w1_0 := Row.apart R_w1_0 G_1 lim_w1_0 low_w1_0 lim_t3_1 low_t3_1 (by omega)
    replace R_t4_0 := Row.apart R_t4_0 G_1 lim_t4_0 low_t4_0 lim_t3_1 low_t3_1 (by omega)
    replace R_g0_1 := Row.apart R_g0_1 G_1 lim_g0_1 low_g0_1 lim_t3_1 low_t3_1 (by omega)
    replace R_g1_0 := Row.apart R_g1_0 G_1 lim_g1_0 low_g1_0 lim_t3_1 low_t3_1 (by omega)
    replace B_aX := B_aX.apart G_1 low_t3_1 lim_t3_1 (by omega)
    replace B_w0 := B_w0.apart G_1 low_t3_1 lim_t3_1 (by omega)
    replace B_t3 := B_t3.apart G_1 low_t3_1 lim_t3_1 (by omega)
    replace B_g0 := B_g0.apart G_1 low_t3_1 lim_t3_1 (by omega)
    replace O := Below.grown O G_1 O.size (low_t3_1.own (by omega))
    have z13 := G_1.size
    clear G_1
    clear R_t3_1 lim_t3_1 low_t3_1
    clear B_t3
    have q_aX_0 := B_aX.cell 0 rfl
    have q_aX_1 := B_aX.cell 1 rfl
    have q_aX := B_aX.lt
    have q_w0_0 := B_w0.cell 0 rfl
    have q_w0_1 := B_w0.cell 1 rfl
    have q_w0 := B_w0.lt
    have q_g0_0 := B_g0.cell 0 rfl
    have q_g0_1 := B_g0.cell 1 rfl
    have q_g0 := B_g0.lt
    go_wp2_with fail
    refine (markIntS_any _ _ _ _ _ _ _ R_t4_0 hn1_0 (by omega) (by omega)).mono ?_
    rintro e w14 ⟨rfl, S_0, G_0⟩
    clear q_aX_0 q_aX_1 q_aX q_w0_0 q_w0_1 q_w0 q_g0_0 q_g0_1 q_g0
    clear R_t4_0
    have R_t4_0 := S_0
    clear S_0
    replace R_w0_1 := Row.apart R_w0_1 G_0 lim_w0_1 low_w0_1 lim_t4_0 low_t4_0 (by omega)
    replace R_w1_0 := Row.apart R_w1_0 G_0 lim_w1_0 low_w1_0 lim_t4_0 low_t4_0 (by omega)
    replace R_g0_1 := Row.apart R_g0_1 G_0 lim_g0_1 low_g0_1 lim_t4_0 low_t4_0 (by omega)
    replace R_g1_0 := Row.apart R_g1_0 G_0 lim_g1_0 low_g1_0 lim_t4_0 low_t4_0 (by omega)
    replace B_aX := B_aX.apart G_0 low_t4_0 lim_t4_0 (by omega)
    replace B_w0 := B_w0.apart G_0 low_t4_0 lim_t4_0 (by omega)
    replace B_g0 := B_g0.apart G_0 low_t4_0 lim_t4_0 (by omega)
    replace O := Below.grown O G_0 O.size (low_t4_0.own (by omega))
    have z14 := G_0.size
    clear G_0
    have q_aX_0 := B_aX.cell 0 rfl
    have q_aX_1 := B_aX.cell 1 rfl
    have q_aX := B_aX.lt
    have q_w0_0 := B_w0.cell 0 rfl
    have q_w0_1 := B_w0.cell 1 rfl
    have q_w0 := B_w0.lt
    have q_g0_0 := B_g0.cell 0 rfl
    have q_g0_1 := B_g0.cell 1 rfl
    have q_g0 := B_g0.lt
    go_wp2_with fail
    refine (eqBigInt_yes _ _ _ _ _ _ _ _ _ _ _ R_g0_1 R_w0_1 (fun _ _ => rfl) L_0_1).mono ?_
    rintro e w15 ⟨rfl, o15⟩
    clear q_aX_0 q_aX_1 q_aX q_w0_0 q_w0_1 q_w0 q_g0_0 q_g0_1 q_g0
    replace B_aX := B_aX.old o15
    replace B_w0 := B_w0.old o15
    replace B_g0 := B_g0.old o15
    replace R_w0_1 := Row.below R_w0_1 o15 (Nat.le_refl _)
    replace R_w1_0 := Row.below R_w1_0 o15 (Nat.le_refl _)
    replace R_t4_0 := Row.below R_t4_0 o15 (Nat.le_refl _)
    replace R_g0_1 := Row.below R_g0_1 o15 (Nat.le_refl _)
    replace R_g1_0 := Row.below R_g1_0 o15 (Nat.le_refl _)
    replace O := Old.trans O o15
    have z15 := o15.size
    clear o15
    have q_aX_0 := B_aX.cell 0 rfl
    have q_aX_1 := B_aX.cell 1 rfl
    have q_aX := B_aX.lt
    have q_w0_0 := B_w0.cell 0 rfl
    have q_w0_1 := B_w0.cell 1 rfl
    have q_w0 := B_w0.lt
    have q_g0_0 := B_g0.cell 0 rfl
    have q_g0_1 := B_g0.cell 1 rfl
    have q_g0 := B_g0.lt
    go_wp2_with fail
    refine (eqIntS_yes _ _ _ _ _ _ _ _ _ _ R_g1_0 R_w1_0 (fun _ _ => rfl) L_1_0).mono ?_
    rintro e w16 ⟨rfl, o16⟩
    clear q_aX_0 q_aX_1 q_aX q_w0_0 q_w0_1 q_w0 q_g0_0 q_g0_1 q_g0
    replace B_aX := B_aX.old o16
    replace B_w0 := B_w0.old o16
    replace B_g0 := B_g0.old o16
    replace R_w0_1 := Row.below R_w0_1 o16 (Nat.le_refl _)
    replace R_w1_0 := Row.below R_w1_0 o16 (Nat.le_refl _)
    replace R_t4_0 := Row.below R_t4_0 o16 (Nat.le_refl _)
    replace R_g0_1 := Row.below R_g0_1 o16 (Nat.le_refl _)
    replace R_g1_0 := Row.below R_g1_0 o16 (Nat.le_refl _)
    replace O := Old.trans O o16
    have z16 := o16.size
    clear o16
    have q_aX_0 := B_aX.cell 0 rfl
    have q_aX_1 := B_aX.cell 1 rfl
    have q_aX := B_aX.lt
    have q_w0_0 := B_w0.cell 0 rfl
    have q_w0_1 := B_w0.cell 1 rfl
    have q_w0 := B_w0.lt
    have q_g0_0 := B_g0.cell 0 rfl
    have q_g0_1 := B_g0.cell 1 rfl
    have q_g0 := B_g0.lt
    go_wp2_with fail
    refine (markBigInt_any _ _ _ _ _ _ _ _ R_g0_1 L_0_1 (by omega) (by omega)).mono ?_
    rintro e w17 ⟨rfl, S_1, G_1⟩
    clear q_aX_0 q_aX_1 q_aX q_w0_0 q_w0_1 q_w0 q_g0_0 q_g0_1 q_g0
    clear R_g0_1
    have R_g0_1 := S_1
    clear S_1
    replace R_w0_1 := Row.apart R_w0_1 G_1 lim_w0_1 low_w0_1 lim_g0_1 low_g0_1 (by omega)
    replace R_w1_0 := Row.apart R_w1_0 G_1 lim_w1_0 low_w1_0 lim_g0_1 low_g0_1 (by omega)
    replace R_t4_0 := Row.apart R_t4_0 G_1 lim_t4_0 low_t4_0 lim_g0_1 low_g0_1 (by omega)
    replace R_g1_0 := Row.kept R_g1_0 G_1 fun a a' hn hm e e' => (ap_g0 a' a hm hn e' e).symm
    replace B_aX := B_aX.apart G_1 low_g0_1 lim_g0_1 (by omega)
    replace B_w0 := B_w0.apart G_1 low_g0_1 lim_g0_1 (by omega)
    replace B_g0 := B_g0.apart G_1 low_g0_1 lim_g0_1 (by omega)
    replace O := Below.grown O G_1 O.size (low_g0_1.own (by omega))
    have z17 := G_1.size
    clear G_1
    have q_aX_0 := B_aX.cell 0 rfl
    have q_aX_1 := B_aX.cell 1 rfl
    have q_aX := B_aX.lt
    have q_w0_0 := B_w0.cell 0 rfl
    have q_w0_1 := B_w0.cell 1 rfl
    have q_w0 := B_w0.lt
    have q_g0_0 := B_g0.cell 0 rfl
    have q_g0_1 := B_g0.cell 1 rfl
    have q_g0 := B_g0.lt
    go_wp2_with fail
    refine (markIntS_any _ _ _ _ _ _ _ R_g1_0 L_1_0 (by omega) (by omega)).mono ?_
    rintro e w18 ⟨rfl, S_0, G_0⟩
    clear q_aX_0 q_aX_1 q_aX q_w0_0 q_w0_1 q_w0 q_g0_0 q_g0_1 q_g0
    clear R_g1_0
    have R_g1_0 := S_0
    clear S_0
    replace R_w0_1 := Row.apart R_w0_1 G_0 lim_w0_1 low_w0_1 lim_g1_0 low_g1_0 (by omega)
    replace R_w1_0 := Row.apart R_w1_0 G_0 lim_w1_0 low_w1_0 lim_g1_0 low_g1_0 (by omega)
    replace R_t4_0 := Row.apart R_t4_0 G_0 lim_t4_0 low_t4_0 lim_g1_0 low_g1_0 (by omega)
    replace R_g0_1 := Row.kept R_g0_1 G_0 ap_g0
    replace B_aX := B_aX.apart G_0 low_g1_0 lim_g1_0 (by omega)
    replace B_w0 := B_w0.apart G_0 low_g1_0 lim_g1_0 (by omega)
    replace B_g0 := B_g0.apart G_0 low_g1_0 lim_g1_0 (by omega)
    replace O := Below.grown O G_0 O.size (low_g1_0.own (by omega))
    have z18 := G_0.size
    clear G_0
    have q_aX_0 := B_aX.cell 0 rfl
    have q_aX_1 := B_aX.cell 1 rfl
    have q_aX := B_aX.lt
    have q_w0_0 := B_w0.cell 0 rfl
    have q_w0_1 := B_w0.cell 1 rfl
    have q_w0 := B_w0.lt
    have q_g0_0 := B_g0.cell 0 rfl
    have q_g0_1 := B_g0.cell 1 rfl
    have q_g0 := B_g0.lt
    go_wp2_with fail
    refine (heldBigInt_yes _ _ _ _ _ _ _ _ R_g0_1 (fun _ _ => rfl) L_0_1 (by omega) (by omega)).mono ?_
    rintro e w19 ⟨rfl, o19⟩
    clear q_aX_0 q_aX_1 q_aX q_w0_0 q_w0_1 q_w0 q_g0_0 q_g0_1 q_g0
    replace B_aX := B_aX.old o19
    replace B_w0 := B_w0.old o19
    replace B_g0 := B_g0.old o19
    replace R_w0_1 := Row.below R_w0_1 o19 (Nat.le_refl _)
    replace R_w1_0 := Row.below R_w1_0 o19 (Nat.le_refl _)
    replace R_t4_0 := Row.below R_t4_0 o19 (Nat.le_refl _)
    replace R_g0_1 := Row.below R_g0_1 o19 (Nat.le_refl _)
    replace R_g1_0 := Row.below R_g1_0 o19 (Nat.le_refl _)
    replace O := Old.trans O o19
    have z19 := o19.size
    clear o19
    have q_aX_0 := B_aX.cell 0 rfl
    have q_aX_1 := B_aX.cell 1 rfl
    have q_aX := B_aX.lt
    have q_w0_0 := B_w0.cell 0 rfl
    have q_w0_1 := B_w0.cell 1 rfl
    have q_w0 := B_w0.lt
    have q_g0_0 := B_g0.cell 0 rfl
    have q_g0_1 := B_g0.cell 1 rfl
    have q_g0 := B_g0.lt
    go_wp2_with fail
    refine (heldIntS_yes _ _ _ _ _ _ _ R_g1_0 (fun _ _ => rfl) L_1_0 (by omega) (by omega)).mono ?_
    rintro e w' ⟨rfl, rfl⟩
    clear q_aX_0 q_aX_1 q_aX q_w0_0 q_w0_1 q_w0 q_g0_0 q_g0_1 q_g0
    have q_aX_0 := B_aX.cell 0 rfl
    have q_aX_1 := B_aX.cell 1 rfl
    have q_aX := B_aX.lt
    have q_w0_0 := B_w0.cell 0 rfl
    have q_w0_1 := B_w0.cell 1 rfl
    have q_w0 := B_w0.lt
    have q_g0_0 := B_g0.cell 0 rfl
    have q_g0_1 := B_g0.cell 1 rfl
    have q_g0 := B_g0.lt
    go_wp2_with fail
    refine (toBigInt_any _ _ _ _ _ _ (h0_1.below (B := w.heap.size) (Below.trans (b := w19) O oldA) (Nat.le_refl _)) hn0_1).mono ?_
    rintro e w20 ⟨A_t6_1, rfl, R_t6_1, o20⟩
    clear q_aX_0 q_aX_1 q_aX q_w0_0 q_w0_1 q_w0 q_g0_0 q_g0_1 q_g0
    replace B_aX := B_aX.old o20
    replace B_w0 := B_w0.old o20
    replace B_g0 := B_g0.old o20
    replace R_w0_1 := Row.below R_w0_1 o20 (Nat.le_refl _)
    replace R_w1_0 := Row.below R_w1_0 o20 (Nat.le_refl _)
    replace R_t4_0 := Row.below R_t4_0 o20 (Nat.le_refl _)
    replace R_g0_1 := Row.below R_g0_1 o20 (Nat.le_refl _)
    replace R_g1_0 := Row.below R_g1_0 o20 (Nat.le_refl _)
    replace O := Old.trans O o20
    have z20 := o20.size
    clear o20
    have lim_t6_1 := R_t6_1.lim
    have low_t6_1 := Low.mono (lo' := w19.heap.size + 0) R_t6_1.low (by first | exact Nat.le_refl _ | (simp <;> omega))
    have q_aX_0 := B_aX.cell 0 rfl
    have q_aX_1 := B_aX.cell 1 rfl
    have q_aX := B_aX.lt
    have q_w0_0 := B_w0.cell 0 rfl
    have q_w0_1 := B_w0.cell 1 rfl
    have q_w0 := B_w0.lt
    have q_g0_0 := B_g0.cell 0 rfl
    have q_g0_1 := B_g0.cell 1 rfl
    have q_g0 := B_g0.lt
    go_wp2_with fail
    refine (toIntS_ex _ _ _ _ _ (h1_0.below (B := w.heap.size) (Below.trans (b := w20) O oldA) (Nat.le_refl _)) hn1_0).mono ?_
    rintro e w21 ⟨A_t7_0, rfl, R_t7_0, o21⟩
    clear q_aX_0 q_aX_1 q_aX q_w0_0 q_w0_1 q_w0 q_g0_0 q_g0_1 q_g0
    replace B_aX := B_aX.old o21
    replace B_w0 := B_w0.old o21
    replace B_g0 := B_g0.old o21
    replace R_w0_1 := Row.below R_w0_1 o21 (Nat.le_refl _)
    replace R_w1_0 := Row.below R_w1_0 o21 (Nat.le_refl _)
    replace R_t4_0 := Row.below R_t4_0 o21 (Nat.le_refl _)
    replace R_g0_1 := Row.below R_g0_1 o21 (Nat.le_refl _)
    replace R_g1_0 := Row.below R_g1_0 o21 (Nat.le_refl _)
    replace R_t6_1 := Row.below R_t6_1 o21 (Nat.le_refl _)
    replace O := Old.trans O o21
    have z21 := o21.size
    clear o21
    have lim_t7_0 := R_t7_0.lim
    have low_t7_0 := Low.mono (lo' := w20.heap.size + 0) R_t7_0.low (by first | exact Nat.le_refl _ | (simp <;> omega))
    have q_aX_0 := B_aX.cell 0 rfl
    have q_aX_1 := B_aX.cell 1 rfl
    have q_aX := B_aX.lt
    have q_w0_0 := B_w0.cell 0 rfl
    have q_w0_1 := B_w0.cell 1 rfl
    have q_w0 := B_w0.lt
    have q_g0_0 := B_g0.cell 0 rfl
    have q_g0_1 := B_g0.cell 1 rfl
    have q_g0 := B_g0.lt
    go_wp2_with fail
    refine (impl_BigIntFloorDiv _ _ _ _ _ _ _ _ _ _ _ _ R_t6_1 R_t7_0 hn0_1 hn1_0).mono ?_
    rintro e w22 ⟨⟨A_h0_1, c_h0_1, A_h1_0, c_h1_0, rfl, R_h0_1, R_h1_0, ap_h0⟩, o22⟩
    clear q_aX_0 q_aX_1 q_aX q_w0_0 q_w0_1 q_w0 q_g0_0 q_g0_1 q_g0
    clear R_t6_1 lim_t6_1 low_t6_1
    clear R_t7_0 lim_t7_0 low_t7_0
    replace B_aX := B_aX.old o22
    replace B_w0 := B_w0.old o22
    replace B_g0 := B_g0.old o22
    replace R_w0_1 := Row.below R_w0_1 o22 (Nat.le_refl _)
    replace R_w1_0 := Row.below R_w1_0 o22 (Nat.le_refl _)
    replace R_t4_0 := Row.below R_t4_0 o22 (Nat.le_refl _)
    replace R_g0_1 := Row.below R_g0_1 o22 (Nat.le_refl _)
    replace R_g1_0 := Row.below R_g1_0 o22 (Nat.le_refl _)
    replace O := Old.trans O o22
    have z22 := o22.size
    clear o22
    have lim_h0_1 := R_h0_1.lim
    have low_h0_1 := Low.mono (lo' := w21.heap.size + 0) R_h0_1.low (by first | exact Nat.le_refl _ | (simp <;> omega))
    have lim_h1_0 := R_h1_0.lim
    have low_h1_0 := Low.mono (lo' := w21.heap.size + 0) R_h1_0.low (by first | exact Nat.le_refl _ | (simp <;> omega))
    clear B_aX
    have q_w0_0 := B_w0.cell 0 rfl
    have q_w0_1 := B_w0.cell 1 rfl
    have q_w0 := B_w0.lt
    have q_g0_0 := B_g0.cell 0 rfl
    have q_g0_1 := B_g0.cell 1 rfl
    have q_g0 := B_g0.lt
    go_wp2_with fail
    refine (eqBigInt_yes _ _ _ _ _ _ _ _ _ _ _ (Row.below (B := w22.heap.size) R_h0_1 oldA (Nat.le_refl _)) (Row.below (B := w22.heap.size) R_w0_1 oldA (Nat.le_refl _)) (fun _ _ => rfl) L_0_1).mono ?_
    rintro e w23 ⟨rfl, o23⟩
    clear q_w0_0 q_w0_1 q_w0 q_g0_0 q_g0_1 q_g0
    have B_h0 : Bx w23 w22.heap.size #[.bool (sgnZ (zBigIntFloorDiv0 v0_0 n0_1 f0_1 n1_0 f1_0)), .slice A_h0_1 (Num.len (magZ (zBigIntFloorDiv0 v0_0 n0_1 f0_1 n1_0 f1_0))) c_h0_1] := Bx.old (Bx.new _ _ _) o23
    have zb23 := B_h0.lt
    replace o23 : Old w22 w23 := Below.trans (b := _) oldA (Below.mono o23 (by simp <;> omega))
    replace B_w0 := B_w0.old o23
    replace B_g0 := B_g0.old o23
    replace R_w0_1 := Row.below R_w0_1 o23 (Nat.le_refl _)
    replace R_w1_0 := Row.below R_w1_0 o23 (Nat.le_refl _)
    replace R_t4_0 := Row.below R_t4_0 o23 (Nat.le_refl _)
    replace R_g0_1 := Row.below R_g0_1 o23 (Nat.le_refl _)
    replace R_g1_0 := Row.below R_g1_0 o23 (Nat.le_refl _)
    replace R_h0_1 := Row.below R_h0_1 o23 (Nat.le_refl _)
    replace R_h1_0 := Row.below R_h1_0 o23 (Nat.le_refl _)
    replace O := Old.trans O o23
    have z23 := o23.size
    clear o23
    have q_w0_0 := B_w0.cell 0 rfl
    have q_w0_1 := B_w0.cell 1 rfl
    have q_w0 := B_w0.lt
    have q_g0_0 := B_g0.cell 0 rfl
    have q_g0_1 := B_g0.cell 1 rfl
    have q_g0 := B_g0.lt
    have q_h0_0 := B_h0.cell 0 rfl
    have q_h0_1 := B_h0.cell 1 rfl
    have q_h0 := B_h0.lt
    go_wp2_with fail
    refine (eqIntS_yes _ _ _ _ _ _ _ _ _ _ R_h1_0 R_w1_0 (fun _ _ => rfl) L_1_0).mono ?_
    rintro e w24 ⟨rfl, o24⟩
    clear q_w0_0 q_w0_1 q_w0 q_g0_0 q_g0_1 q_g0 q_h0_0 q_h0_1 q_h0
    replace B_w0 := B_w0.old o24
    replace B_g0 := B_g0.old o24
    replace B_h0 := B_h0.old o24
    replace R_w0_1 := Row.below R_w0_1 o24 (Nat.le_refl _)
    replace R_w1_0 := Row.below R_w1_0 o24 (Nat.le_refl _)
    replace R_t4_0 := Row.below R_t4_0 o24 (Nat.le_refl _)
    replace R_g0_1 := Row.below R_g0_1 o24 (Nat.le_refl _)
    replace R_g1_0 := Row.below R_g1_0 o24 (Nat.le_refl _)
    replace R_h0_1 := Row.below R_h0_1 o24 (Nat.le_refl _)
    replace R_h1_0 := Row.below R_h1_0 o24 (Nat.le_refl _)
    replace O := Old.trans O o24
    have z24 := o24.size
    clear o24
    have q_w0_0 := B_w0.cell 0 rfl
    have q_w0_1 := B_w0.cell 1 rfl
    have q_w0 := B_w0.lt
    have q_g0_0 := B_g0.cell 0 rfl
    have q_g0_1 := B_g0.cell 1 rfl
    have q_g0 := B_g0.lt
    have q_h0_0 := B_h0.cell 0 rfl
    have q_h0_1 := B_h0.cell 1 rfl
    have q_h0 := B_h0.lt
    go_wp2_with fail
    refine (heldBigInt_yes _ _ _ _ _ _ _ _ R_g0_1 (fun _ _ => rfl) L_0_1 (by omega) (by omega)).mono ?_
    rintro e w25 ⟨rfl, o25⟩
    clear q_w0_0 q_w0_1 q_w0 q_g0_0 q_g0_1 q_g0 q_h0_0 q_h0_1 q_h0
    replace B_w0 := B_w0.old o25
    replace B_g0 := B_g0.old o25
    replace B_h0 := B_h0.old o25
    replace R_w0_1 := Row.below R_w0_1 o25 (Nat.le_refl _)
    replace R_w1_0 := Row.below R_w1_0 o25 (Nat.le_refl _)
    replace R_t4_0 := Row.below R_t4_0 o25 (Nat.le_refl _)
    replace R_g0_1 := Row.below R_g0_1 o25 (Nat.le_refl _)
    replace R_g1_0 := Row.below R_g1_0 o25 (Nat.le_refl _)
    replace R_h0_1 := Row.below R_h0_1 o25 (Nat.le_refl _)
    replace R_h1_0 := Row.below R_h1_0 o25 (Nat.le_refl _)
    replace O := Old.trans O o25
    have z25 := o25.size
    clear o25
    have q_w0_0 := B_w0.cell 0 rfl
    have q_w0_1 := B_w0.cell 1 rfl
    have q_w0 := B_w0.lt
    have q_g0_0 := B_g0.cell 0 rfl
    have q_g0_1 := B_g0.cell 1 rfl
    have q_g0 := B_g0.lt
    have q_h0_0 := B_h0.cell 0 rfl
    have q_h0_1 := B_h0.cell 1 rfl
    have q_h0 := B_h0.lt
    go_wp2_with fail
    refine (heldIntS_yes _ _ _ _ _ _ _ R_g1_0 (fun _ _ => rfl) L_1_0 (by omega) (by omega)).mono ?_
    rintro e w' ⟨rfl, rfl⟩
    clear q_w0_0 q_w0_1 q_w0 q_g0_0 q_g0_1 q_g0 q_h0_0 q_h0_1 q_h0
    go_wp2
    go_ret
    exact ⟨rfl, O⟩
  · go_enter Try.func16, Try.ntmps16
    go_wp2
    go_ret
    exact ⟨rfl, oldA⟩

set_option maxRecDepth 100000 in
theorem liftedBigIntFloorDiv (os : Os) (started : os.Started) (H : Type) (enc : TypeId × Value → H) :
    ReturnsInHanded {} Try.checked os 16 .any (Rows.fnExactBigIntFloorDivSpec.pre6 enc Try.prog Try.f16 Rows.fnExactBigIntFloorDivRow.domain false) (Rows.fnExactBigIntFloorDivSpec.post enc Try.prog Try.f16 false true false false) := by
  refine returnsInHanded_of_change (C := Try.checked) ownKnob_none started (by kernel_rfl) Try.func16
    (ChangeSpec.witness6 (enc := enc) (C := Try.checked) false ⟨#[], #[.agg #[.bool false, .slice none 0 0], .slice none 0 0], []⟩ 8 (by kernel_rfl) (by kernel_rfl) (by kernel_rfl) (by kernel_rfl)) ?_
  intro W base args ds gs before hval0 hW hcnd _
  have hval : ∀ (j : Nat) t v, Try.f16.params[j]? = some t → args[j]? = some v → Value.okWide Try.prog W .any base t v := hval0
  have hW' := hW
  obtain ⟨p, q, hA0, hV, rfl, hfz, hnd⟩ := hW
  have hA : DataW.TrodAll enc Try.prog W 0 (fun _ => true) true Try.f16.params.toList args.toList ds p := hA0
  rw [Try.params16] at hA hval
  obtain ⟨v0, vs0, d0, ds0, p0, q0, hargs, rfl, rfl, h0, r0⟩ := trodAll_cons hA
  obtain ⟨v1, vs1, d1, ds1, p1, q1, rfl, rfl, rfl, h1, r1⟩ := trodAll_cons r0
  obtain ⟨rfl, rfl, rfl⟩ := trodAll_nil r1
  obtain rfl : args = #[v0, v1] := by cases args; simp_all
  obtain ⟨rfl, rfl⟩ := trodVars_none hV
  have k0 := h0
  have lt0 : ∀ x ∈ p0, x.block < W.heap.size := by obtain ⟨m, hm⟩ := k0; exact DataW.trod_lt m _ _ _ hm
  obtain ⟨x0_0, A0_1, n0_1, c0_1, f0_1, rfl, g0_1, m0_1⟩ := open_bigint (hval 0 42 v0 rfl rfl) h0
  obtain ⟨A1, n1, c1, rfl⟩ := okWide_slice Try.underlying27 (hval 1 27 v1 rfl rfl)
  have k1 := h1
  have lt1 : ∀ x ∈ p1, x.block < W.heap.size := by obtain ⟨m, hm⟩ := k1; exact DataW.trod_lt m _ _ _ hm
  obtain ⟨f1, g1⟩ := open_rd h1
  clear hA0 hval0
  refine (walkBigIntFloorDiv x0_0 A0_1 n0_1 c0_1 f0_1 A1 n1 c1 f1 W g0_1 g1 m0_1).mono fun e W' ⟨he, bel⟩ => ?_
  subst he
  exact ⟨_, rfl, _, _, _, [], _, [], hW', trodAll_mk1 (shut_bool Try.underlying4 _), (trodAll_cons_mk (Below.trod laidOut (by kernel_rfl) (of_decide_eq_true (by kernel_rfl)) k0 bel lt0) (trodAll_cons_mk (Below.trod laidOut (by kernel_rfl) (of_decide_eq_true (by kernel_rfl)) k1 bel lt1) trodAll_mk0)), rfl, bel.frame _, fun h => by cases h⟩

theorem inPlaceBigIntFloorDiv : (Rows.fnExactBigIntFloorDivRow.inPlace == Try.prog.inPlace 16) = true := by kernel_rfl
theorem unfollowedBigIntFloorDiv : (Rows.fnExactBigIntFloorDivRow.unfollowed == Try.prog.unfollowed 16) = true := by kernel_rfl
theorem recursesBigIntFloorDiv : (Rows.fnExactBigIntFloorDivRow.recurses == Try.prog.recurses 16) = true := by kernel_rfl
theorem namedBigIntFloorDiv : (Rows.fnExactBigIntFloorDivRow.named == Try.prog.varsNamed 16) = true := by kernel_rfl
theorem closedBigIntFloorDiv : joinedFacts Try.prog 16 Try.f16 Rows.fnExactBigIntFloorDivSpec Rows.fnExactBigIntFloorDivRow = true :=
  joined_of (by kernel_rfl) laidOut mapsRowed_yes (by kernel_rfl) (by kernel_rfl) (by kernel_rfl) stops_none (by kernel_rfl) knobs_none inPlaceBigIntFloorDiv unfollowedBigIntFloorDiv recursesBigIntFloorDiv namedBigIntFloorDiv
    (by kernel_rfl) (by kernel_rfl) (by kernel_rfl) (by kernel_rfl) (by kernel_rfl) (by kernel_rfl) (by kernel_rfl) (by kernel_rfl) (by kernel_rfl) plainKeys_yes (by kernel_rfl) (by kernel_rfl) stopsHeard_yes mayEnter_yes liftsFinal_no (by kernel_rfl) make_cut (by kernel_rfl)
    (by kernel_rfl) (by kernel_rfl) (by kernel_rfl) (by kernel_rfl) (by kernel_rfl)

/-- The statement. -/
theorem fnExactBigIntFloorDiv_holds : Rows.FnExactBigIntFloorDivSaid :=
  OpenClaim.holds_of_wide 16 Try.f16 rfl rfl rfl rfl rfl rfl rfl ⟨rfl, rfl, rfl, rfl, rfl⟩ rfl rfl rfl rfl rfl (by kernel_rfl) Try.func16 closedBigIntFloorDiv
    (of_decide_eq_true (by kernel_rfl)) (by unfold Func.isWrapper; first | (rw [if_pos (by decide +kernel)]; kernel_rfl) | (rw [if_neg (by decide +kernel)]; exact ⟨rfl, rfl⟩))
    (fun os started H enc _ => liftedBigIntFloorDiv os started H enc)
end Go.Proofs.Ytemjhmmbbjppkaa
