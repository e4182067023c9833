/-
  The law FnExactBigIntNeg: the program's function and the reference's return the same, the arguments are left as they were, and the result is memory of its own.
-/
import Derived.Test.YtifpffljpafdhaaArgs
import Derived.Deep.DeepCutAuto
import Derived.Deep.RegionWith
import Derived.Test.YtifpffljpafdhaaBigLaw
import Derived.Test.YtifpffljpafdhaaBigNeg
namespace Go.Proofs.Ytifpffljpafdhaa
set_option linter.unusedVariables false
open Go.ChangeShapes Go.WideShapes Go.ChangeAt Go.RowKit
open Go.ChangeMaps (open_string shut_string)
set_option maxRecDepth 100000 in
set_option maxHeartbeats 1000000 in
theorem walkBigIntNeg (v0_0 : Bool) (A0_1 : Option Addr) (n0_1 c0_1 : Nat) (f0_1 : Nat → Int) (w : World) (h0_1 : Rd w A0_1 n0_1 c0_1 f0_1) (hm0_1 : n0_1 ≤ 9223372036854775807) :
    Calls Try.prog 19 #[.agg #[.bool v0_0, .slice A0_1 n0_1 c0_1]] w fun e w' => e = .returned (.bool true) ∧ Old w w' := by
  have L_0_1 : Num.len (magZ (zBigIntNeg v0_0 n0_1 f0_1)) ≤ 1048576 := by have := zBigIntNeg_len v0_0 n0_1 f0_1; omega
  have O := Old.refl w
  go_enter Try.func19, Try.ntmps19
  go_wp2_with fail
  by_cases hs0 : (n0_1 : Int) ≤ 1048576
  case neg =>
    refine (szBigInt_no _ _ _ _ _ _ hm0_1 (by omega) (by omega) hs0).mono ?_
    rintro e w1 ⟨rfl, o1⟩
    go_wp2
    go_ret
    exact ⟨rfl, Old.trans O (Below.trans (b := _) (by repeat' (first | exact Below.refl _ _ | assumption | refine below_drewN ?_ _ | refine Below.drew ?_ | refine Below.alloc ?_ (by first | omega | (simp <;> omega)) _ | refine Below.setCell ?_ (by first | (simp <;> omega) | (simp <;> done) | omega) _)) (Below.mono o1 (by simp <;> omega)))⟩
  have hn0_1 : n0_1 ≤ 1048576 := by omega
  refine (szBigInt_yes _ _ _ _ _ _ hm0_1 (by omega) (by omega) hs0).mono ?_
  rintro e w1 ⟨rfl, o1⟩
  have B_aX : Bx w1 w.heap.size #[.bool v0_0, .slice A0_1 n0_1 c0_1] := Bx.old (Bx.new _ _ _) o1
  replace o1 : Old w w1 := Below.trans (b := _) (by repeat' (first | exact Below.refl _ _ | assumption | refine below_drewN ?_ _ | refine Below.drew ?_ | refine Below.alloc ?_ (by first | omega | (simp <;> omega)) _ | refine Below.setCell ?_ (by first | (simp <;> omega) | (simp <;> done) | omega) _)) (Below.mono o1 (by simp <;> omega))
  replace O := Old.trans O o1
  have z1 := o1.size
  clear o1
  have hl0 : ¬ 1048576 - (n0_1 : Int) < 0 := by omega
  have q_aX_0 := B_aX.cell 0 rfl
  have q_aX_1 := B_aX.cell 1 rfl
  have q_aX := B_aX.lt
  go_wp2_with fail
  refine (toBigInt_any _ _ _ _ _ _ (h0_1.below (B := w.heap.size) (Below.trans (b := w1) O (by repeat' (first | exact Below.refl _ _ | assumption | refine below_drewN ?_ _ | refine Below.drew ?_ | refine Below.alloc ?_ (by first | omega | (simp <;> omega)) _ | refine Below.setCell ?_ (by first | (simp <;> omega) | (simp <;> done) | omega) _))) (Nat.le_refl _)) hn0_1).mono ?_
  rintro e w2 ⟨A_t1_1, rfl, R_t1_1, o2⟩
  clear q_aX_0 q_aX_1 q_aX
  replace B_aX := B_aX.old o2
  replace O := Old.trans O o2
  have z2 := o2.size
  clear o2
  have lim_t1_1 := R_t1_1.lim
  have low_t1_1 := Low.mono (lo' := w1.heap.size + 0) R_t1_1.low (by first | exact Nat.le_refl _ | (simp <;> omega))
  have q_aX_0 := B_aX.cell 0 rfl
  have q_aX_1 := B_aX.cell 1 rfl
  have q_aX := B_aX.lt
  go_wp2_with fail
  refine (spec_BigIntNeg _ _ _ _ _ _ _ R_t1_1 hn0_1).mono ?_
  rintro e w3 ⟨⟨A_w0_1, c_w0_1, rfl, R_w0_1⟩, o3⟩
  clear q_aX_0 q_aX_1 q_aX
  clear R_t1_1 lim_t1_1 low_t1_1
  replace B_aX := B_aX.old o3
  replace O := Old.trans O o3
  have z3 := o3.size
  clear o3
  have lim_w0_1 := R_w0_1.lim
  have low_w0_1 := Low.mono (lo' := w2.heap.size + 0) R_w0_1.low (by first | exact Nat.le_refl _ | (simp <;> omega))
  have q_aX_0 := B_aX.cell 0 rfl
  have q_aX_1 := B_aX.cell 1 rfl
  have q_aX := B_aX.lt
  go_wp2_with fail
  refine (toBigInt_any _ _ _ _ _ _ (h0_1.below (B := w.heap.size) (Below.trans (b := w3) O (by repeat' (first | exact Below.refl _ _ | assumption | refine below_drewN ?_ _ | refine Below.drew ?_ | refine Below.alloc ?_ (by first | omega | (simp <;> omega)) _ | refine Below.setCell ?_ (by first | (simp <;> omega) | (simp <;> done) | omega) _))) (Nat.le_refl _)) hn0_1).mono ?_
  rintro e w4 ⟨A_t2_1, rfl, R_t2_1, o4⟩
  clear q_aX_0 q_aX_1 q_aX
  have B_w0 : Bx w4 w3.heap.size #[.bool (sgnZ (zBigIntNeg v0_0 n0_1 f0_1)), .slice A_w0_1 (Num.len (magZ (zBigIntNeg v0_0 n0_1 f0_1))) c_w0_1] := Bx.old (Bx.new _ _ _) o4
  replace o4 : Old w3 w4 := Below.trans (b := _) (by repeat' (first | exact Below.refl _ _ | assumption | refine below_drewN ?_ _ | refine Below.drew ?_ | refine Below.alloc ?_ (by first | omega | (simp <;> omega)) _ | refine Below.setCell ?_ (by first | (simp <;> omega) | (simp <;> done) | omega) _)) (Below.mono o4 (by simp <;> omega))
  replace B_aX := B_aX.old o4
  replace R_w0_1 := Row.below R_w0_1 o4 (Nat.le_refl _)
  replace O := Old.trans O o4
  have z4 := o4.size
  clear o4
  have lim_t2_1 := R_t2_1.lim
  have low_t2_1 := Low.mono (lo' := w3.heap.size + 1) R_t2_1.low (by first | exact Nat.le_refl _ | (simp <;> omega))
  have q_aX_0 := B_aX.cell 0 rfl
  have q_aX_1 := B_aX.cell 1 rfl
  have q_aX := B_aX.lt
  have q_w0_0 := B_w0.cell 0 rfl
  have q_w0_1 := B_w0.cell 1 rfl
  have q_w0 := B_w0.lt
  go_wp2_with fail
  refine (impl_BigIntNeg _ _ _ _ _ _ _ (Row.below (B := w4.heap.size) R_t2_1 (by repeat' (first | exact Below.refl _ _ | assumption | refine below_drewN ?_ _ | refine Below.drew ?_ | refine Below.alloc ?_ (by first | omega | (simp <;> omega)) _ | refine Below.setCell ?_ (by first | (simp <;> omega) | (simp <;> done) | omega) _)) (Nat.le_refl _)) hn0_1).mono ?_
  rintro e w5 ⟨⟨A_g0_1, c_g0_1, rfl, R_g0_1⟩, o5⟩
  clear q_aX_0 q_aX_1 q_aX q_w0_0 q_w0_1 q_w0
  have B_t2 : Bx w5 w4.heap.size #[.bool v0_0, .slice A_t2_1 n0_1 n0_1] := Bx.old (Bx.new _ _ _) o5
  replace o5 : Old w4 w5 := Below.trans (b := _) (by repeat' (first | exact Below.refl _ _ | assumption | refine below_drewN ?_ _ | refine Below.drew ?_ | refine Below.alloc ?_ (by first | omega | (simp <;> omega)) _ | refine Below.setCell ?_ (by first | (simp <;> omega) | (simp <;> done) | omega) _)) (Below.mono o5 (by simp <;> omega))
  replace B_aX := B_aX.old o5
  replace B_w0 := B_w0.old o5
  replace R_w0_1 := Row.below R_w0_1 o5 (Nat.le_refl _)
  replace R_t2_1 := Row.below R_t2_1 o5 (Nat.le_refl _)
  replace O := Old.trans O o5
  have z5 := o5.size
  clear o5
  have lim_g0_1 := R_g0_1.lim
  have low_g0_1 := Low.mono (lo' := w4.heap.size + 1) R_g0_1.low (by first | exact Nat.le_refl _ | (simp <;> omega))
  have q_aX_0 := B_aX.cell 0 rfl
  have q_aX_1 := B_aX.cell 1 rfl
  have q_aX := B_aX.lt
  have q_w0_0 := B_w0.cell 0 rfl
  have q_w0_1 := B_w0.cell 1 rfl
  have q_w0 := B_w0.lt
  have q_t2_0 := B_t2.cell 0 rfl
  have q_t2_1 := B_t2.cell 1 rfl
  have q_t2 := B_t2.lt
  go_wp2_with fail
  refine (eqBigInt_yes _ _ _ _ _ _ _ _ _ _ _ (Row.below (B := w5.heap.size) R_g0_1 (by repeat' (first | exact Below.refl _ _ | assumption | refine below_drewN ?_ _ | refine Below.drew ?_ | refine Below.alloc ?_ (by first | omega | (simp <;> omega)) _ | refine Below.setCell ?_ (by first | (simp <;> omega) | (simp <;> done) | omega) _)) (Nat.le_refl _)) (Row.below (B := w5.heap.size) R_w0_1 (by repeat' (first | exact Below.refl _ _ | assumption | refine below_drewN ?_ _ | refine Below.drew ?_ | refine Below.alloc ?_ (by first | omega | (simp <;> omega)) _ | refine Below.setCell ?_ (by first | (simp <;> omega) | (simp <;> done) | omega) _)) (Nat.le_refl _)) (fun _ _ => rfl) L_0_1).mono ?_
  rintro e w6 ⟨rfl, o6⟩
  clear q_aX_0 q_aX_1 q_aX q_w0_0 q_w0_1 q_w0 q_t2_0 q_t2_1 q_t2
  have B_g0 : Bx w6 w5.heap.size #[.bool (sgnZ (zBigIntNeg v0_0 n0_1 f0_1)), .slice A_g0_1 (Num.len (magZ (zBigIntNeg v0_0 n0_1 f0_1))) c_g0_1] := Bx.old (Bx.new _ _ _) o6
  replace o6 : Old w5 w6 := Below.trans (b := _) (by repeat' (first | exact Below.refl _ _ | assumption | refine below_drewN ?_ _ | refine Below.drew ?_ | refine Below.alloc ?_ (by first | omega | (simp <;> omega)) _ | refine Below.setCell ?_ (by first | (simp <;> omega) | (simp <;> done) | omega) _)) (Below.mono o6 (by simp <;> omega))
  replace B_aX := B_aX.old o6
  replace B_w0 := B_w0.old o6
  replace B_t2 := B_t2.old o6
  replace R_w0_1 := Row.below R_w0_1 o6 (Nat.le_refl _)
  replace R_t2_1 := Row.below R_t2_1 o6 (Nat.le_refl _)
  replace R_g0_1 := Row.below R_g0_1 o6 (Nat.le_refl _)
  replace O := Old.trans O o6
  have z6 := o6.size
  clear o6
  have q_aX_0 := B_aX.cell 0 rfl
  have q_aX_1 := B_aX.cell 1 rfl
  have q_aX := B_aX.lt
  have q_w0_0 := B_w0.cell 0 rfl
  have q_w0_1 := B_w0.cell 1 rfl
  have q_w0 := B_w0.lt
  have q_t2_0 := B_t2.cell 0 rfl
  have q_t2_1 := B_t2.cell 1 rfl
  have q_t2 := B_t2.lt
  have q_g0_0 := B_g0.cell 0 rfl
  have q_g0_1 := B_g0.cell 1 rfl
  have q_g0 := B_g0.lt
  go_upto_region 10 with fail
  go_cut [31] (fun sl wx => sl = .bool false ∧ Old w6 wx)
  case first =>
    go_region_with (first
      | (go_at_call 52; refine (toBigInt_any _ _ _ _ _ _ (h0_1.below (B := w.heap.size) (Below.trans (b := w6) O (by repeat' (first | exact Below.refl _ _ | assumption | refine below_drewN ?_ _ | refine Below.drew ?_ | refine Below.alloc ?_ (by first | omega | (simp <;> omega)) _ | refine Below.setCell ?_ (by first | (simp <;> omega) | (simp <;> done) | omega) _))) (Nat.le_refl _)) hn0_1).mono ?_; rintro e wt ⟨A_t_1, rfl, R_t_1, o6⟩; replace o6 : Old w6 wt := Below.trans (b := _) (by repeat' (first | exact Below.refl _ _ | assumption | refine below_drewN ?_ _ | refine Below.drew ?_ | refine Below.alloc ?_ (by first | omega | (simp <;> omega)) _ | refine Below.setCell ?_ (by first | (simp <;> omega) | (simp <;> done) | omega) _)) o6; clear q_aX_0 q_aX_1 q_aX q_w0_0 q_w0_1 q_w0 q_t2_0 q_t2_1 q_t2 q_g0_0 q_g0_1 q_g0; have D_aX := B_aX.old o6; have q_aX_0 := D_aX.cell 0 rfl; have q_aX_1 := D_aX.cell 1 rfl; have q_aX := D_aX.lt; have D_w0 := B_w0.old o6; have q_w0_0 := D_w0.cell 0 rfl; have q_w0_1 := D_w0.cell 1 rfl; have q_w0 := D_w0.lt; have D_t2 := B_t2.old o6; have q_t2_0 := D_t2.cell 0 rfl; have q_t2_1 := D_t2.cell 1 rfl; have q_t2 := D_t2.lt; have D_g0 := B_g0.old o6; have q_g0_0 := D_g0.cell 0 rfl; have q_g0_1 := D_g0.cell 1 rfl; have q_g0 := D_g0.lt)
      | (go_at_call 54; refine (eqBigInt_yes _ _ _ _ _ _ _ _ _ _ _ (Row.below (B := w6.heap.size) R_t2_1 (Below.trans (b := wt) o6 (by repeat' (first | exact Below.refl _ _ | assumption | refine below_drewN ?_ _ | refine Below.drew ?_ | refine Below.alloc ?_ (by first | omega | (simp <;> omega)) _ | refine Below.setCell ?_ (by first | (simp <;> omega) | (simp <;> done) | omega) _))) (Nat.le_refl _)) (Row.below (B := wt.heap.size) R_t_1 (by repeat' (first | exact Below.refl _ _ | assumption | refine below_drewN ?_ _ | refine Below.drew ?_ | refine Below.alloc ?_ (by first | omega | (simp <;> omega)) _ | refine Below.setCell ?_ (by first | (simp <;> omega) | (simp <;> done) | omega) _)) (Nat.le_refl _)) (fun _ _ => rfl) hn0_1).mono ?_; rintro e wu ⟨rfl, o7⟩; replace o7 : Old wt wu := Below.trans (b := _) (by repeat' (first | exact Below.refl _ _ | assumption | refine below_drewN ?_ _ | refine Below.drew ?_ | refine Below.alloc ?_ (by first | omega | (simp <;> omega)) _ | refine Below.setCell ?_ (by first | (simp <;> omega) | (simp <;> done) | omega) _)) o7))
    all_goals (go_wp2_with fail; go_meet; exact ⟨rfl, Old.trans o6 (Below.trans (b := _) o7 (by repeat' (first | exact Below.refl _ _ | assumption | refine below_drewN ?_ _ | refine Below.drew ?_ | refine Below.alloc ?_ (by first | omega | (simp <;> omega)) _ | refine Below.setCell ?_ (by first | (simp <;> omega) | (simp <;> done) | omega) _)))⟩)
  case rest =>
  obtain ⟨rfl, o7⟩ := hcut
  obtain ⟨w7, hw⟩ : ∃ x, x = wc := ⟨_, rfl⟩
  subst hw
  clear q_aX_0 q_aX_1 q_aX q_w0_0 q_w0_1 q_w0 q_t2_0 q_t2_1 q_t2 q_g0_0 q_g0_1 q_g0
  replace B_aX := B_aX.old o7
  replace B_w0 := B_w0.old o7
  replace B_t2 := B_t2.old o7
  replace B_g0 := B_g0.old o7
  replace R_w0_1 := Row.below R_w0_1 o7 (Nat.le_refl _)
  replace R_t2_1 := Row.below R_t2_1 o7 (Nat.le_refl _)
  replace R_g0_1 := Row.below R_g0_1 o7 (Nat.le_refl _)
  replace O := Old.trans O o7
  have z7 := o7.size
  clear o7
  have q_aX_0 := B_aX.cell 0 rfl
  have q_aX_1 := B_aX.cell 1 rfl
  have q_aX := B_aX.lt
  have q_w0_0 := B_w0.cell 0 rfl
  have q_w0_1 := B_w0.cell 1 rfl
  have q_w0 := B_w0.lt
  have q_t2_0 := B_t2.cell 0 rfl
  have q_t2_1 := B_t2.cell 1 rfl
  have q_t2 := B_t2.lt
  have q_g0_0 := B_g0.cell 0 rfl
  have q_g0_1 := B_g0.cell 1 rfl
  have q_g0 := B_g0.lt
  go_wp2_with fail
  refine (markBigInt_any _ _ _ _ _ _ _ _ R_t2_1 hn0_1 (by omega) (by omega)).mono ?_
  rintro e w8 ⟨rfl, S_1, G_1⟩
  clear q_aX_0 q_aX_1 q_aX q_w0_0 q_w0_1 q_w0 q_t2_0 q_t2_1 q_t2 q_g0_0 q_g0_1 q_g0
  clear R_t2_1
  have R_t2_1 := S_1
  clear S_1
  replace R_w0_1 := Row.apart R_w0_1 G_1 lim_w0_1 low_w0_1 lim_t2_1 low_t2_1 (by omega)
  replace R_g0_1 := Row.apart R_g0_1 G_1 lim_g0_1 low_g0_1 lim_t2_1 low_t2_1 (by omega)
  replace B_aX := B_aX.apart G_1 low_t2_1 lim_t2_1 (by omega)
  replace B_w0 := B_w0.apart G_1 low_t2_1 lim_t2_1 (by omega)
  replace B_t2 := B_t2.apart G_1 low_t2_1 lim_t2_1 (by omega)
  replace B_g0 := B_g0.apart G_1 low_t2_1 lim_t2_1 (by omega)
  replace O := Below.grown O G_1 O.size (low_t2_1.own (by omega))
  have z8 := G_1.size
  clear G_1
  clear R_t2_1 lim_t2_1 low_t2_1
  clear B_t2
  have q_aX_0 := B_aX.cell 0 rfl
  have q_aX_1 := B_aX.cell 1 rfl
  have q_aX := B_aX.lt
  have q_w0_0 := B_w0.cell 0 rfl
  have q_w0_1 := B_w0.cell 1 rfl
  have q_w0 := B_w0.lt
  have q_g0_0 := B_g0.cell 0 rfl
  have q_g0_1 := B_g0.cell 1 rfl
  have q_g0 := B_g0.lt
  go_wp2_with fail
  refine (eqBigInt_yes _ _ _ _ _ _ _ _ _ _ _ R_g0_1 R_w0_1 (fun _ _ => rfl) L_0_1).mono ?_
  rintro e w9 ⟨rfl, o9⟩
  clear q_aX_0 q_aX_1 q_aX q_w0_0 q_w0_1 q_w0 q_g0_0 q_g0_1 q_g0
  replace B_aX := B_aX.old o9
  replace B_w0 := B_w0.old o9
  replace B_g0 := B_g0.old o9
  replace R_w0_1 := Row.below R_w0_1 o9 (Nat.le_refl _)
  replace R_g0_1 := Row.below R_g0_1 o9 (Nat.le_refl _)
  replace O := Old.trans O o9
  have z9 := o9.size
  clear o9
  have q_aX_0 := B_aX.cell 0 rfl
  have q_aX_1 := B_aX.cell 1 rfl
  have q_aX := B_aX.lt
  have q_w0_0 := B_w0.cell 0 rfl
  have q_w0_1 := B_w0.cell 1 rfl
  have q_w0 := B_w0.lt
  have q_g0_0 := B_g0.cell 0 rfl
  have q_g0_1 := B_g0.cell 1 rfl
  have q_g0 := B_g0.lt
  go_wp2_with fail
  refine (markBigInt_any _ _ _ _ _ _ _ _ R_g0_1 L_0_1 (by omega) (by omega)).mono ?_
  rintro e w10 ⟨rfl, S_1, G_1⟩
  clear q_aX_0 q_aX_1 q_aX q_w0_0 q_w0_1 q_w0 q_g0_0 q_g0_1 q_g0
  clear R_g0_1
  have R_g0_1 := S_1
  clear S_1
  replace R_w0_1 := Row.apart R_w0_1 G_1 lim_w0_1 low_w0_1 lim_g0_1 low_g0_1 (by omega)
  replace B_aX := B_aX.apart G_1 low_g0_1 lim_g0_1 (by omega)
  replace B_w0 := B_w0.apart G_1 low_g0_1 lim_g0_1 (by omega)
  replace B_g0 := B_g0.apart G_1 low_g0_1 lim_g0_1 (by omega)
  replace O := Below.grown O G_1 O.size (low_g0_1.own (by omega))
  have z10 := G_1.size
  clear G_1
  have q_aX_0 := B_aX.cell 0 rfl
  have q_aX_1 := B_aX.cell 1 rfl
  have q_aX := B_aX.lt
  have q_w0_0 := B_w0.cell 0 rfl
  have q_w0_1 := B_w0.cell 1 rfl
  have q_w0 := B_w0.lt
  have q_g0_0 := B_g0.cell 0 rfl
  have q_g0_1 := B_g0.cell 1 rfl
  have q_g0 := B_g0.lt
  go_wp2_with fail
  refine (heldBigInt_yes _ _ _ _ _ _ _ _ R_g0_1 (fun _ _ => rfl) L_0_1 (by omega) (by omega)).mono ?_
  rintro e w11 ⟨rfl, o11⟩
  clear q_aX_0 q_aX_1 q_aX q_w0_0 q_w0_1 q_w0 q_g0_0 q_g0_1 q_g0
  replace B_aX := B_aX.old o11
  replace B_w0 := B_w0.old o11
  replace B_g0 := B_g0.old o11
  replace R_w0_1 := Row.below R_w0_1 o11 (Nat.le_refl _)
  replace R_g0_1 := Row.below R_g0_1 o11 (Nat.le_refl _)
  replace O := Old.trans O o11
  have z11 := o11.size
  clear o11
  have q_aX_0 := B_aX.cell 0 rfl
  have q_aX_1 := B_aX.cell 1 rfl
  have q_aX := B_aX.lt
  have q_w0_0 := B_w0.cell 0 rfl
  have q_w0_1 := B_w0.cell 1 rfl
  have q_w0 := B_w0.lt
  have q_g0_0 := B_g0.cell 0 rfl
  have q_g0_1 := B_g0.cell 1 rfl
  have q_g0 := B_g0.lt
  go_wp2_with fail
  refine (toBigInt_any _ _ _ _ _ _ (h0_1.below (B := w.heap.size) (Below.trans (b := w11) O (by repeat' (first | exact Below.refl _ _ | assumption | refine below_drewN ?_ _ | refine Below.drew ?_ | refine Below.alloc ?_ (by first | omega | (simp <;> omega)) _ | refine Below.setCell ?_ (by first | (simp <;> omega) | (simp <;> done) | omega) _))) (Nat.le_refl _)) hn0_1).mono ?_
  rintro e w12 ⟨A_t3_1, rfl, R_t3_1, o12⟩
  clear q_aX_0 q_aX_1 q_aX q_w0_0 q_w0_1 q_w0 q_g0_0 q_g0_1 q_g0
  replace B_aX := B_aX.old o12
  replace B_w0 := B_w0.old o12
  replace B_g0 := B_g0.old o12
  replace R_w0_1 := Row.below R_w0_1 o12 (Nat.le_refl _)
  replace R_g0_1 := Row.below R_g0_1 o12 (Nat.le_refl _)
  replace O := Old.trans O o12
  have z12 := o12.size
  clear o12
  have lim_t3_1 := R_t3_1.lim
  have low_t3_1 := Low.mono (lo' := w11.heap.size + 0) R_t3_1.low (by first | exact Nat.le_refl _ | (simp <;> omega))
  have q_aX_0 := B_aX.cell 0 rfl
  have q_aX_1 := B_aX.cell 1 rfl
  have q_aX := B_aX.lt
  have q_w0_0 := B_w0.cell 0 rfl
  have q_w0_1 := B_w0.cell 1 rfl
  have q_w0 := B_w0.lt
  have q_g0_0 := B_g0.cell 0 rfl
  have q_g0_1 := B_g0.cell 1 rfl
  have q_g0 := B_g0.lt
  go_wp2_with fail
  refine (impl_BigIntNeg _ _ _ _ _ _ _ R_t3_1 hn0_1).mono ?_
  rintro e w13 ⟨⟨A_h0_1, c_h0_1, rfl, R_h0_1⟩, o13⟩
  clear q_aX_0 q_aX_1 q_aX q_w0_0 q_w0_1 q_w0 q_g0_0 q_g0_1 q_g0
  clear R_t3_1 lim_t3_1 low_t3_1
  replace B_aX := B_aX.old o13
  replace B_w0 := B_w0.old o13
  replace B_g0 := B_g0.old o13
  replace R_w0_1 := Row.below R_w0_1 o13 (Nat.le_refl _)
  replace R_g0_1 := Row.below R_g0_1 o13 (Nat.le_refl _)
  replace O := Old.trans O o13
  have z13 := o13.size
  clear o13
  have lim_h0_1 := R_h0_1.lim
  have low_h0_1 := Low.mono (lo' := w12.heap.size + 0) R_h0_1.low (by first | exact Nat.le_refl _ | (simp <;> omega))
  clear B_aX
  have q_w0_0 := B_w0.cell 0 rfl
  have q_w0_1 := B_w0.cell 1 rfl
  have q_w0 := B_w0.lt
  have q_g0_0 := B_g0.cell 0 rfl
  have q_g0_1 := B_g0.cell 1 rfl
  have q_g0 := B_g0.lt
  go_wp2_with fail
  refine (eqBigInt_yes _ _ _ _ _ _ _ _ _ _ _ (Row.below (B := w13.heap.size) R_h0_1 (by repeat' (first | exact Below.refl _ _ | assumption | refine below_drewN ?_ _ | refine Below.drew ?_ | refine Below.alloc ?_ (by first | omega | (simp <;> omega)) _ | refine Below.setCell ?_ (by first | (simp <;> omega) | (simp <;> done) | omega) _)) (Nat.le_refl _)) (Row.below (B := w13.heap.size) R_w0_1 (by repeat' (first | exact Below.refl _ _ | assumption | refine below_drewN ?_ _ | refine Below.drew ?_ | refine Below.alloc ?_ (by first | omega | (simp <;> omega)) _ | refine Below.setCell ?_ (by first | (simp <;> omega) | (simp <;> done) | omega) _)) (Nat.le_refl _)) (fun _ _ => rfl) L_0_1).mono ?_
  rintro e w14 ⟨rfl, o14⟩
  clear q_w0_0 q_w0_1 q_w0 q_g0_0 q_g0_1 q_g0
  have B_h0 : Bx w14 w13.heap.size #[.bool (sgnZ (zBigIntNeg v0_0 n0_1 f0_1)), .slice A_h0_1 (Num.len (magZ (zBigIntNeg v0_0 n0_1 f0_1))) c_h0_1] := Bx.old (Bx.new _ _ _) o14
  replace o14 : Old w13 w14 := Below.trans (b := _) (by repeat' (first | exact Below.refl _ _ | assumption | refine below_drewN ?_ _ | refine Below.drew ?_ | refine Below.alloc ?_ (by first | omega | (simp <;> omega)) _ | refine Below.setCell ?_ (by first | (simp <;> omega) | (simp <;> done) | omega) _)) (Below.mono o14 (by simp <;> omega))
  replace B_w0 := B_w0.old o14
  replace B_g0 := B_g0.old o14
  replace R_w0_1 := Row.below R_w0_1 o14 (Nat.le_refl _)
  replace R_g0_1 := Row.below R_g0_1 o14 (Nat.le_refl _)
  replace R_h0_1 := Row.below R_h0_1 o14 (Nat.le_refl _)
  replace O := Old.trans O o14
  have z14 := o14.size
  clear o14
  have q_w0_0 := B_w0.cell 0 rfl
  have q_w0_1 := B_w0.cell 1 rfl
  have q_w0 := B_w0.lt
  have q_g0_0 := B_g0.cell 0 rfl
  have q_g0_1 := B_g0.cell 1 rfl
  have q_g0 := B_g0.lt
  have q_h0_0 := B_h0.cell 0 rfl
  have q_h0_1 := B_h0.cell 1 rfl
  have q_h0 := B_h0.lt
  go_wp2_with fail
  refine (heldBigInt_yes _ _ _ _ _ _ _ _ R_g0_1 (fun _ _ => rfl) L_0_1 (by omega) (by omega)).mono ?_
  rintro e w15 ⟨rfl, o15⟩
  clear q_w0_0 q_w0_1 q_w0 q_g0_0 q_g0_1 q_g0 q_h0_0 q_h0_1 q_h0
  replace B_w0 := B_w0.old o15
  replace B_g0 := B_g0.old o15
  replace B_h0 := B_h0.old o15
  replace R_w0_1 := Row.below R_w0_1 o15 (Nat.le_refl _)
  replace R_g0_1 := Row.below R_g0_1 o15 (Nat.le_refl _)
  replace R_h0_1 := Row.below R_h0_1 o15 (Nat.le_refl _)
  replace O := Old.trans O o15
  have z15 := o15.size
  clear o15
  go_wp2
  go_ret
  exact ⟨rfl, O⟩

set_option maxRecDepth 100000 in
theorem liftedBigIntNeg (os : Os) (started : os.Started) (H : Type) (enc : TypeId × Value → H) :
    ReturnsInHanded {} Try.checked os 19 .any (Rows.fnExactBigIntNegSpec.pre6 enc Try.prog Try.f19 Rows.fnExactBigIntNegRow.domain false) (Rows.fnExactBigIntNegSpec.post enc Try.prog Try.f19 false true false false) := by
  refine returnsInHanded_of_change (C := Try.checked) ownKnob_none started (by kernel_rfl) Try.func19
    (ChangeSpec.witness6 (enc := enc) (C := Try.checked) false ⟨#[], #[.agg #[.bool false, .slice none 0 0]], []⟩ 8 (by kernel_rfl) (by kernel_rfl) (by kernel_rfl) (by kernel_rfl)) ?_
  intro W base args ds gs before hval0 hW hcnd _
  have hval : ∀ (j : Nat) t v, Try.f19.params[j]? = some t → args[j]? = some v → Value.okWide Try.prog W .any base t v := hval0
  have hW' := hW
  obtain ⟨p, q, hA0, hV, rfl, hfz, hnd⟩ := hW
  have hA : DataW.TrodAll enc Try.prog W 0 (fun _ => true) true Try.f19.params.toList args.toList ds p := hA0
  rw [Try.params19] at hA hval
  obtain ⟨v0, vs0, d0, ds0, p0, q0, hargs, rfl, rfl, h0, r0⟩ := trodAll_cons hA
  obtain ⟨rfl, rfl, rfl⟩ := trodAll_nil r0
  obtain rfl : args = #[v0] := by cases args; simp_all
  obtain ⟨rfl, rfl⟩ := trodVars_none hV
  have k0 := h0
  have lt0 : ∀ x ∈ p0, x.block < W.heap.size := by obtain ⟨m, hm⟩ := k0; exact DataW.trod_lt m _ _ _ hm
  obtain ⟨x0_0, A0_1, n0_1, c0_1, f0_1, rfl, g0_1, m0_1⟩ := open_bigint (hval 0 43 v0 rfl rfl) h0
  clear hA0 hval0
  refine (walkBigIntNeg x0_0 A0_1 n0_1 c0_1 f0_1 W g0_1 m0_1).mono fun e W' ⟨he, bel⟩ => ?_
  subst he
  exact ⟨_, rfl, _, _, _, [], _, [], hW', trodAll_mk1 (shut_bool Try.underlying4 _), (trodAll_cons_mk (Below.trod laidOut (by kernel_rfl) (of_decide_eq_true (by kernel_rfl)) k0 bel lt0) trodAll_mk0), rfl, bel.frame _, fun h => by cases h⟩

theorem inPlaceBigIntNeg : (Rows.fnExactBigIntNegRow.inPlace == Try.prog.inPlace 19) = true := by kernel_rfl
theorem unfollowedBigIntNeg : (Rows.fnExactBigIntNegRow.unfollowed == Try.prog.unfollowed 19) = true := by kernel_rfl
theorem recursesBigIntNeg : (Rows.fnExactBigIntNegRow.recurses == Try.prog.recurses 19) = true := by kernel_rfl
theorem namedBigIntNeg : (Rows.fnExactBigIntNegRow.named == Try.prog.varsNamed 19) = true := by kernel_rfl
theorem closedBigIntNeg : joinedFacts Try.prog 19 Try.f19 Rows.fnExactBigIntNegSpec Rows.fnExactBigIntNegRow = true :=
  joined_of (by kernel_rfl) laidOut mapsRowed_yes (by kernel_rfl) (by kernel_rfl) (by kernel_rfl) stops_none (by kernel_rfl) knobs_none inPlaceBigIntNeg unfollowedBigIntNeg recursesBigIntNeg namedBigIntNeg
    (by kernel_rfl) (by kernel_rfl) (by kernel_rfl) (by kernel_rfl) (by kernel_rfl) (by kernel_rfl) (by kernel_rfl) (by kernel_rfl) (by kernel_rfl) plainKeys_yes (by kernel_rfl) (by kernel_rfl) stopsHeard_yes mayEnter_yes liftsFinal_no (by kernel_rfl) make_cut (by kernel_rfl)
    (by kernel_rfl) (by kernel_rfl) (by kernel_rfl) (by kernel_rfl) (by kernel_rfl)

/-- The statement. -/
theorem fnExactBigIntNeg_holds : Rows.FnExactBigIntNegSaid :=
  OpenClaim.holds_of_wide 19 Try.f19 rfl rfl rfl rfl rfl rfl rfl ⟨rfl, rfl, rfl, rfl, rfl⟩ rfl rfl rfl rfl rfl (by kernel_rfl) Try.func19 closedBigIntNeg
    (of_decide_eq_true (by kernel_rfl)) (by unfold Func.isWrapper; first | (rw [if_pos (by decide +kernel)]; kernel_rfl) | (rw [if_neg (by decide +kernel)]; exact ⟨rfl, rfl⟩))
    (fun os started H enc _ => liftedBigIntNeg os started H enc)
end Go.Proofs.Ytifpffljpafdhaa
