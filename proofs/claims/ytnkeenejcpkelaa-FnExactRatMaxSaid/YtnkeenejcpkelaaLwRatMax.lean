/-
  The law FnExactRatMax: the program's function and the reference's return the same, the arguments are left as they were, and the result is memory of its own.
-/
import Derived.Test.YtnkeenejcpkelaaArgs
import Derived.Deep.DeepCutAuto
import Derived.Deep.RegionHeld3
import Derived.Deep.DrawnRows
import Derived.Test.YtnkeenejcpkelaaBoxes
import Derived.Test.YtnkeenejcpkelaaRatLaw
import Derived.Test.YtnkeenejcpkelaaRatMaxE
import Derived.Test.YtnkeenejcpkelaaRatArgs
namespace Go.Proofs.Ytnkeenejcpkelaa
set_option linter.unusedVariables false
open Go.ChangeShapes Go.WideShapes Go.ChangeAt Go.RowKit
open Go.ChangeMaps (open_string shut_string)
attribute [local go_sem ↓] Go.wp_at_zero Go.wp_at_succ
set_option maxRecDepth 100000 in
set_option maxHeartbeats 8000000 in
theorem walkRatMax (v0_0 : Bool) (A0_1 : Option Addr) (n0_1 c0_1 : Nat) (f0_1 : Nat → Int) (A0_2 : Option Addr) (n0_2 c0_2 : Nat) (f0_2 : Nat → Int) (v1_0 : Bool) (A1_1 : Option Addr) (n1_1 c1_1 : Nat) (f1_1 : Nat → Int) (A1_2 : Option Addr) (n1_2 c1_2 : Nat) (f1_2 : Nat → Int) (w : World) (h0_1 : Rd w A0_1 n0_1 c0_1 f0_1) (h0_2 : Rd w A0_2 n0_2 c0_2 f0_2) (h1_1 : Rd w A1_1 n1_1 c1_1 f1_1) (h1_2 : Rd w A1_2 n1_2 c1_2 f1_2) (hm0_1 : n0_1 ≤ 9223372036854775807) (hm0_2 : n0_2 ≤ 9223372036854775807) (hm1_1 : n1_1 ≤ 9223372036854775807) (hm1_2 : n1_2 ≤ 9223372036854775807) :
    Calls Try.prog 16 #[.agg #[.bool v0_0, .slice A0_1 n0_1 c0_1, .slice A0_2 n0_2 c0_2], .agg #[.bool v1_0, .slice A1_1 n1_1 c1_1, .slice A1_2 n1_2 c1_2]] w fun e w' => e = .returned (.bool true) ∧ Old w w' := by
  have NV := vRatMax_norm v0_0 n0_1 f0_1 n0_2 f0_2 v1_0 n1_1 f1_1 n1_2 f1_2
  obtain ⟨Z0, D0, hV0⟩ : ∃ z d, vRatMax v0_0 n0_1 f0_1 n0_2 f0_2 v1_0 n1_1 f1_1 n1_2 f1_2 = (z, d) := ⟨_, _, rfl⟩
  rw [hV0] at NV
  have HV0 := Lib.hid hV0
  have NL := norm_len NV
  simp only at NL
  have L_0_1 : Num.len (magZ Z0) ≤ 1048576 := by omega
  have L_0_2 : Num.len D0 ≤ 1048576 := by omega
  clear NV NL hV0
  have O := Old.refl w
  go_enter Try.func16, Try.ntmps16
  go_wp2_with fail
  by_cases hs0 : (n0_1 : Int) + (n0_2 : Int) ≤ 1048576
  case neg =>
    refine (szRat_no _ _ _ _ _ _ _ _ _ hm0_1 hm0_2 (by omega) (by omega) hs0).mono ?_
    rintro e w1 ⟨rfl, o1⟩
    go_wp2
    go_ret
    exact ⟨rfl, Old.trans O (Below.trans (b := _) oldA (Below.mono o1 (by simp <;> omega)))⟩
  have hn0_1 : n0_1 ≤ 1048576 := by omega
  have hn0_2 : n0_2 ≤ 1048576 := by omega
  refine (szRat_yes _ _ _ _ _ _ _ _ _ hm0_1 hm0_2 (by omega) (by omega) hs0).mono ?_
  rintro e w1 ⟨rfl, o1⟩
  have B_aR : Bx w1 w.heap.size #[.bool v0_0, .slice A0_1 n0_1 c0_1, .slice A0_2 n0_2 c0_2] := Bx.old (Bx.alloc (Bx.new _ _ _) _) o1
  have B_aS : Bx w1 (w.heap.size + 1) #[.bool v1_0, .slice A1_1 n1_1 c1_1, .slice A1_2 n1_2 c1_2] := by have h := Bx.old (Bx.new _ _ _) o1; simpa using h
  have zb1 := B_aS.lt
  replace o1 : Old w w1 := Below.trans (b := _) oldA (Below.mono o1 (by simp <;> omega))
  replace O := Old.trans O o1
  have z1 := o1.size
  clear o1
  have hl0 : ¬ 1048576 - (n0_1 : Int) - (n0_2 : Int) < 0 := by omega
  have q_aS_0 := B_aS.cell 0 rfl
  have q_aS_1 := B_aS.cell 1 rfl
  have q_aS_2 := B_aS.cell 2 rfl
  have q_aS := B_aS.lt
  go_wp2_with fail
  by_cases hs1 : (n1_1 : Int) + (n1_2 : Int) ≤ 1048576 - (n0_1 : Int) - (n0_2 : Int)
  case neg =>
    refine (szRat_no _ _ _ _ _ _ _ _ _ hm1_1 hm1_2 (by omega) (by omega) hs1).mono ?_
    rintro e w2 ⟨rfl, o2⟩
    go_wp2
    go_ret
    exact ⟨rfl, Old.trans O (Below.trans (b := _) oldA (Below.mono o2 (by simp <;> omega)))⟩
  have hn1_1 : n1_1 ≤ 1048576 := by omega
  have hn1_2 : n1_2 ≤ 1048576 := by omega
  refine (szRat_yes _ _ _ _ _ _ _ _ _ hm1_1 hm1_2 (by omega) (by omega) hs1).mono ?_
  rintro e w2 ⟨rfl, o2⟩
  clear q_aS_0 q_aS_1 q_aS_2 q_aS
  replace B_aR := B_aR.old o2
  replace B_aS := B_aS.old o2
  replace O := Old.trans O o2
  have z2 := o2.size
  clear o2
  have hl1 : ¬ 1048576 - (n0_1 : Int) - (n0_2 : Int) - (n1_1 : Int) - (n1_2 : Int) < 0 := by omega
  have q_aR_0 := B_aR.cell 0 rfl
  have q_aR_1 := B_aR.cell 1 rfl
  have q_aR_2 := B_aR.cell 2 rfl
  have q_aR := B_aR.lt
  have q_aS_0 := B_aS.cell 0 rfl
  have q_aS_1 := B_aS.cell 1 rfl
  have q_aS_2 := B_aS.cell 2 rfl
  have q_aS := B_aS.lt
  have new2_aR : ¬ (w2.heap.size = w.heap.size) := (by omega)
  have enw2_aR : ¬ (w.heap.size = w2.heap.size) := (by omega)
  have new2_aS : ¬ (w2.heap.size = w.heap.size + 1) := (by omega)
  have enw2_aS : ¬ (w.heap.size + 1 = w2.heap.size) := (by omega)
  go_upto_region 8 with fail
  go_cut [6] (fun sl wx => ∃ (g : Nat) (A1 : Option Addr) (c1 : Nat) (A2 : Option Addr) (c2 : Nat), sl = .pointer (some ⟨g, 0, none⟩) ∧ w2.heap.size ≤ g ∧ Bx wx g #[.bool (sgnZ Z0), .slice A1 (Num.len (magZ Z0)) c1, .slice A2 (Num.len D0) c2] ∧ Row wx w2.heap.size A1 (Num.len (magZ Z0)) c1 (digI (magZ Z0)) ∧ Row wx w2.heap.size A2 (Num.len D0) c2 (digI D0) ∧ (Apart A1 (Num.len (magZ Z0)) A2 (Num.len D0)) ∧ Old w2 wx)
  case first =>
    go_region_held3 (fun w' => w'.cell? ⟨w.heap.size, 0, none⟩ = some (.bool v0_0) ∧ w'.cell? ⟨w.heap.size, 1, none⟩ = some (.slice A0_1 n0_1 c0_1) ∧ w'.cell? ⟨w.heap.size, 2, none⟩ = some (.slice A0_2 n0_2 c0_2) ∧ w'.cell? ⟨w.heap.size + 1, 0, none⟩ = some (.bool v1_0) ∧ w'.cell? ⟨w.heap.size + 1, 1, none⟩ = some (.slice A1_1 n1_1 c1_1) ∧ w'.cell? ⟨w.heap.size + 1, 2, none⟩ = some (.slice A1_2 n1_2 c1_2)) (go_keep)
      (first
      | (go_at_call 26; (with_reducible refine (toRat_any v0_0 A0_1 n0_1 c0_1 f0_1 A0_2 n0_2 c0_2 f0_2 _ (h0_1.below (B := w.heap.size) (Below.trans (b := w2) O oldA) (Nat.le_refl _)) (h0_2.below (B := w.heap.size) (Below.trans (b := w2) O oldA) (Nat.le_refl _)) hn0_1 hn0_2).mono ?_); rintro e t1 ⟨A_t1_1, A_t1_2, rfl, R_t1_1, R_t1_2, ap_t1, o_t1⟩; (first | (clear qE0 qE1 qE2 fE0 fE1 fE2 qE) | skip); (first | (have E0 := Bx.old (Bx.new _ _ _) o_t1; have E : Bx t1 w2.heap.size #[.bool false, .slice none 0 0, .slice none 0 0] := E0; clear E0; have hE := E.lt) | (have E0 := Bx.old (Bx.drew (Bx.new _ _ _)) o_t1; have E : Bx t1 w2.heap.size #[.bool false, .slice none 0 0, .slice none 0 0] := E0; clear E0; have hE := E.lt) | (replace E := Bx.old E o_t1) | skip); replace o_t1 : Old w2 t1 := Below.trans (b := _) oldA (Below.mono o_t1 leA); have z_t1 := o_t1.size; have O_t1 := Old.trans O o_t1; clear q_aR_0 q_aR_1 q_aR_2 q_aR q_aS_0 q_aS_1 q_aS_2 q_aS; have D1_aR := B_aR.old o_t1; have q_aR_0 := D1_aR.cell 0 rfl; have q_aR_1 := D1_aR.cell 1 rfl; have q_aR_2 := D1_aR.cell 2 rfl; have q_aR := D1_aR.lt; have D1_aS := B_aS.old o_t1; have q_aS_0 := D1_aS.cell 0 rfl; have q_aS_1 := D1_aS.cell 1 rfl; have q_aS_2 := D1_aS.cell 2 rfl; have q_aS := D1_aS.lt; have net1_aR : ¬ (t1.heap.size = w.heap.size) := (by omega); have ent1_aR : ¬ (w.heap.size = t1.heap.size) := (by omega); have net1_aS : ¬ (t1.heap.size = w.heap.size + 1) := (by omega); have ent1_aS : ¬ (w.heap.size + 1 = t1.heap.size) := (by omega); (first | (have qE0 := E.cell 0 rfl; have qE1 := E.cell 1 rfl; have qE2 := E.cell 2 rfl; have fE0 := E.frozen 0; have fE1 := E.frozen 1; have fE2 := E.frozen 2; have qE := E.lt) | skip))
      | (go_at_call 26; (with_reducible refine (toRat_any v1_0 A1_1 n1_1 c1_1 f1_1 A1_2 n1_2 c1_2 f1_2 _ (h1_1.below (B := w.heap.size) (Below.trans (b := t1) O_t1 oldA) (Nat.le_refl _)) (h1_2.below (B := w.heap.size) (Below.trans (b := t1) O_t1 oldA) (Nat.le_refl _)) hn1_1 hn1_2).mono ?_); rintro e t2 ⟨A_t2_1, A_t2_2, rfl, R_t2_1, R_t2_2, ap_t2, o_t2⟩; (first | (clear qE0 qE1 qE2 fE0 fE1 fE2 qE) | skip); (first | (have E0 := Bx.old (Bx.new _ _ _) o_t2; have E : Bx t2 t1.heap.size #[.bool false, .slice none 0 0, .slice none 0 0] := E0; clear E0; have hE := E.lt) | (have E0 := Bx.old (Bx.drew (Bx.new _ _ _)) o_t2; have E : Bx t2 t1.heap.size #[.bool false, .slice none 0 0, .slice none 0 0] := E0; clear E0; have hE := E.lt) | (replace E := Bx.old E o_t2) | skip); replace o_t2 : Old t1 t2 := Below.trans (b := _) oldA (Below.mono o_t2 leA); have z_t2 := o_t2.size; have O_t2 := Old.trans O_t1 o_t2; clear q_aR_0 q_aR_1 q_aR_2 q_aR q_aS_0 q_aS_1 q_aS_2 q_aS; have D2_aR := D1_aR.old o_t2; have q_aR_0 := D2_aR.cell 0 rfl; have q_aR_1 := D2_aR.cell 1 rfl; have q_aR_2 := D2_aR.cell 2 rfl; have q_aR := D2_aR.lt; have D2_aS := D1_aS.old o_t2; have q_aS_0 := D2_aS.cell 0 rfl; have q_aS_1 := D2_aS.cell 1 rfl; have q_aS_2 := D2_aS.cell 2 rfl; have q_aS := D2_aS.lt; have net2_aR : ¬ (t2.heap.size = w.heap.size) := (by omega); have ent2_aR : ¬ (w.heap.size = t2.heap.size) := (by omega); have net2_aS : ¬ (t2.heap.size = w.heap.size + 1) := (by omega); have ent2_aS : ¬ (w.heap.size + 1 = t2.heap.size) := (by omega); replace R_t1_1 := Row.below R_t1_1 o_t2 (Nat.le_refl _); replace R_t1_2 := Row.below R_t1_2 o_t2 (Nat.le_refl _); (first | (have qE0 := E.cell 0 rfl; have qE1 := E.cell 1 rfl; have qE2 := E.cell 2 rfl; have fE0 := E.frozen 0; have fE1 := E.frozen 1; have fE2 := E.frozen 2; have qE := E.lt) | skip))
      | (go_at_call 65; refine (spec_RatMax _ _ _ _ _ _ _ _ _ _ _ _ _ _ _ _ _ _ _ _ _ _ _ (Row.below (B := t2.heap.size) R_t1_1 oldA (Nat.le_refl _)) (Row.below (B := t2.heap.size) R_t1_2 oldA (Nat.le_refl _)) (Row.below (B := t2.heap.size) R_t2_1 oldA (Nat.le_refl _)) (Row.below (B := t2.heap.size) R_t2_2 oldA (Nat.le_refl _)) hn0_1 hn0_2 hn1_1 hn1_2).mono ?_; rintro e tf ⟨⟨x0, x1, A_f_1, c_f_1, A_f_2, c_f_2, hv, he, R_f_1, R_f_2, ap_f⟩, o_f⟩; rw [HV0.out] at hv; obtain ⟨rfl, rfl⟩ := Prod.mk.inj hv; subst he; (first | (clear qE0 qE1 qE2 fE0 fE1 fE2 qE) | skip); (first | (have E0 := Bx.old (Bx.new _ _ _) o_f; have E : Bx tf t2.heap.size #[.bool false, .slice none 0 0, .slice none 0 0] := E0; clear E0; have hE := E.lt) | (have E0 := Bx.old (Bx.drew (Bx.new _ _ _)) o_f; have E : Bx tf t2.heap.size #[.bool false, .slice none 0 0, .slice none 0 0] := E0; clear E0; have hE := E.lt) | (replace E := Bx.old E o_f) | skip); replace o_f : Old t2 tf := Below.trans (b := _) oldA (Below.mono o_f leA); have z_f := o_f.size; have O_f := Old.trans O_t2 o_f; clear q_aR_0 q_aR_1 q_aR_2 q_aR q_aS_0 q_aS_1 q_aS_2 q_aS; have DF_aR := D2_aR.old o_f; have q_aR_0 := DF_aR.cell 0 rfl; have q_aR_1 := DF_aR.cell 1 rfl; have q_aR_2 := DF_aR.cell 2 rfl; have q_aR := DF_aR.lt; have DF_aS := D2_aS.old o_f; have q_aS_0 := DF_aS.cell 0 rfl; have q_aS_1 := DF_aS.cell 1 rfl; have q_aS_2 := DF_aS.cell 2 rfl; have q_aS := DF_aS.lt; have netf_aR : ¬ (tf.heap.size = w.heap.size) := (by omega); have entf_aR : ¬ (w.heap.size = tf.heap.size) := (by omega); have netf_aS : ¬ (tf.heap.size = w.heap.size + 1) := (by omega); have entf_aS : ¬ (w.heap.size + 1 = tf.heap.size) := (by omega); (first | (have qE0 := E.cell 0 rfl; have qE1 := E.cell 1 rfl; have qE2 := E.cell 2 rfl; have fE0 := E.frozen 0; have fE1 := E.frozen 1; have fE2 := E.frozen 2; have qE := E.lt) | skip)))
    all_goals (go_wp2_with fail; go_meet; exact ⟨_, _, _, _, _, rfl, leA, (by first | exact Bx.new _ _ _ | exact Bx.put3 E _ _ _ | exact Bx.put3 (Bx.new _ _ _) _ _ _), (by first | exact Row.more (Row.far_set (Row.far_set (Row.far_set R_f_1 (by first | (simp <;> done) | (simp; omega) | omega) _) (by first | (simp <;> done) | (simp; omega) | omega) _) (by first | (simp <;> done) | (simp; omega) | omega) _) leA | exact Row.more (Row.below (B := tf.heap.size) R_f_1 oldA (Nat.le_refl _)) leA), (by first | exact Row.more (Row.far_set (Row.far_set (Row.far_set R_f_2 (by first | (simp <;> done) | (simp; omega) | omega) _) (by first | (simp <;> done) | (simp; omega) | omega) _) (by first | (simp <;> done) | (simp; omega) | omega) _) leA | exact Row.more (Row.below (B := tf.heap.size) R_f_2 oldA (Nat.le_refl _)) leA), ap_f, (Below.trans (b := tf) (Old.trans (Old.trans o_t1 o_t2) o_f) oldA)⟩)
  case rest =>
  obtain ⟨g_w0, A_w0_1, c_w0_1, A_w0_2, c_w0_2, rfl, hg_w0, B_w0, R_w0_1, R_w0_2, ap_w0, o3⟩ := hcut
  obtain ⟨w3, hw⟩ : ∃ x, x = wc := ⟨_, rfl⟩
  subst hw
  clear q_aR_0 q_aR_1 q_aR_2 q_aR q_aS_0 q_aS_1 q_aS_2 q_aS
  clear new2_aR enw2_aR new2_aS enw2_aS
  replace B_aR := B_aR.old o3
  replace B_aS := B_aS.old o3
  replace O := Old.trans O o3
  have z3 := o3.size
  clear o3
  have lim_w0_1 := R_w0_1.lim
  have low_w0_1 := Low.mono (lo' := w2.heap.size + 0) R_w0_1.low (by first | exact Nat.le_refl _ | (simp <;> omega))
  have lim_w0_2 := R_w0_2.lim
  have low_w0_2 := Low.mono (lo' := w2.heap.size + 0) R_w0_2.low (by first | exact Nat.le_refl _ | (simp <;> omega))
  have lt_w0 := B_w0.lt
  have q_aR_0 := B_aR.cell 0 rfl
  have q_aR_1 := B_aR.cell 1 rfl
  have q_aR_2 := B_aR.cell 2 rfl
  have q_aR := B_aR.lt
  go_wp2_with fail
  refine (toRat_any _ _ _ _ _ _ _ _ _ _ (h0_1.below (B := w.heap.size) (Below.trans (b := w3) O oldA) (Nat.le_refl _)) (h0_2.below (B := w.heap.size) (Below.trans (b := w3) O oldA) (Nat.le_refl _)) hn0_1 hn0_2).mono ?_
  rintro e w4 ⟨A_t1_1, A_t1_2, rfl, R_t1_1, R_t1_2, ap_t1, o4⟩
  clear q_aR_0 q_aR_1 q_aR_2 q_aR
  replace B_aR := B_aR.old o4
  replace B_aS := B_aS.old o4
  replace B_w0 := B_w0.old o4
  replace R_w0_1 := Row.below R_w0_1 o4 (Nat.le_refl _)
  replace R_w0_2 := Row.below R_w0_2 o4 (Nat.le_refl _)
  replace O := Old.trans O o4
  have z4 := o4.size
  clear o4
  have lim_t1_1 := R_t1_1.lim
  have low_t1_1 := Low.mono (lo' := w3.heap.size + 0) R_t1_1.low (by first | exact Nat.le_refl _ | (simp <;> omega))
  have lim_t1_2 := R_t1_2.lim
  have low_t1_2 := Low.mono (lo' := w3.heap.size + 0) R_t1_2.low (by first | exact Nat.le_refl _ | (simp <;> omega))
  have q_aS_0 := B_aS.cell 0 rfl
  have q_aS_1 := B_aS.cell 1 rfl
  have q_aS_2 := B_aS.cell 2 rfl
  have q_aS := B_aS.lt
  go_wp2_with fail
  refine (toRat_any _ _ _ _ _ _ _ _ _ _ (h1_1.below (B := w.heap.size) (Below.trans (b := w4) O oldA) (Nat.le_refl _)) (h1_2.below (B := w.heap.size) (Below.trans (b := w4) O oldA) (Nat.le_refl _)) hn1_1 hn1_2).mono ?_
  rintro e w5 ⟨A_t2_1, A_t2_2, rfl, R_t2_1, R_t2_2, ap_t2, o5⟩
  clear q_aS_0 q_aS_1 q_aS_2 q_aS
  have B_t1 : Bx w5 w4.heap.size #[.bool v0_0, .slice A_t1_1 n0_1 n0_1, .slice A_t1_2 n0_2 n0_2] := Bx.old (Bx.new _ _ _) o5
  have zb5 := B_t1.lt
  replace o5 : Old w4 w5 := Below.trans (b := _) oldA (Below.mono o5 (by simp <;> omega))
  replace B_aR := B_aR.old o5
  replace B_aS := B_aS.old o5
  replace B_w0 := B_w0.old o5
  replace R_w0_1 := Row.below R_w0_1 o5 (Nat.le_refl _)
  replace R_w0_2 := Row.below R_w0_2 o5 (Nat.le_refl _)
  replace R_t1_1 := Row.below R_t1_1 o5 (Nat.le_refl _)
  replace R_t1_2 := Row.below R_t1_2 o5 (Nat.le_refl _)
  replace O := Old.trans O o5
  have z5 := o5.size
  clear o5
  have lim_t2_1 := R_t2_1.lim
  have low_t2_1 := Low.mono (lo' := w4.heap.size + 1) R_t2_1.low (by first | exact Nat.le_refl _ | (simp <;> omega))
  have lim_t2_2 := R_t2_2.lim
  have low_t2_2 := Low.mono (lo' := w4.heap.size + 1) R_t2_2.low (by first | exact Nat.le_refl _ | (simp <;> omega))
  have q_t1_0 := B_t1.cell 0 rfl
  have q_t1_1 := B_t1.cell 1 rfl
  have q_t1_2 := B_t1.cell 2 rfl
  have q_t1 := B_t1.lt
  go_wp2_with fail
  refine (impl_RatMax _ _ _ _ _ _ _ _ _ _ _ _ _ _ _ _ _ _ _ _ _ _ _ (Row.below (B := w5.heap.size) R_t1_1 oldA (Nat.le_refl _)) (Row.below (B := w5.heap.size) R_t1_2 oldA (Nat.le_refl _)) (Row.below (B := w5.heap.size) R_t2_1 oldA (Nat.le_refl _)) (Row.below (B := w5.heap.size) R_t2_2 oldA (Nat.le_refl _)) hn0_1 hn0_2 hn1_1 hn1_2).mono ?_
  rintro e w6 ⟨⟨x0, x1, A_g0_1, c_g0_1, A_g0_2, c_g0_2, hv, he, R_g0_1, R_g0_2, ap_g0⟩, o6⟩
  rw [HV0.out] at hv
  obtain ⟨rfl, rfl⟩ := Prod.mk.inj hv
  subst he
  clear q_t1_0 q_t1_1 q_t1_2 q_t1
  have B_t2 : Bx w6 w5.heap.size #[.bool v1_0, .slice A_t2_1 n1_1 n1_1, .slice A_t2_2 n1_2 n1_2] := Bx.old (Bx.new _ _ _) o6
  have zb6 := B_t2.lt
  replace o6 : Old w5 w6 := Below.trans (b := _) oldA (Below.mono o6 (by simp <;> omega))
  replace B_aR := B_aR.old o6
  replace B_aS := B_aS.old o6
  replace B_w0 := B_w0.old o6
  replace B_t1 := B_t1.old o6
  replace R_w0_1 := Row.below R_w0_1 o6 (Nat.le_refl _)
  replace R_w0_2 := Row.below R_w0_2 o6 (Nat.le_refl _)
  replace R_t1_1 := Row.below R_t1_1 o6 (Nat.le_refl _)
  replace R_t1_2 := Row.below R_t1_2 o6 (Nat.le_refl _)
  replace R_t2_1 := Row.below R_t2_1 o6 (Nat.le_refl _)
  replace R_t2_2 := Row.below R_t2_2 o6 (Nat.le_refl _)
  replace O := Old.trans O o6
  have z6 := o6.size
  clear o6
  have lim_g0_1 := R_g0_1.lim
  have low_g0_1 := Low.mono (lo' := w5.heap.size + 1) R_g0_1.low (by first | exact Nat.le_refl _ | (simp <;> omega))
  have lim_g0_2 := R_g0_2.lim
  have low_g0_2 := Low.mono (lo' := w5.heap.size + 1) R_g0_2.low (by first | exact Nat.le_refl _ | (simp <;> omega))
  have q_w0_0 := B_w0.cell 0 rfl
  have q_w0_1 := B_w0.cell 1 rfl
  have q_w0_2 := B_w0.cell 2 rfl
  have q_w0 := B_w0.lt
  go_wp2_with fail
  refine (eqRat_yes _ _ _ _ _ _ _ _ _ _ _ _ _ _ _ _ _ _ _ _ (Row.below (B := w6.heap.size) R_g0_1 oldA (Nat.le_refl _)) (Row.below (B := w6.heap.size) R_w0_1 oldA (Nat.le_refl _)) (fun _ _ => rfl) L_0_1 (Row.below (B := w6.heap.size) R_g0_2 oldA (Nat.le_refl _)) (Row.below (B := w6.heap.size) R_w0_2 oldA (Nat.le_refl _)) (fun _ _ => rfl) L_0_2).mono ?_
  rintro e w7 ⟨rfl, o7⟩
  clear q_w0_0 q_w0_1 q_w0_2 q_w0
  have B_g0 : Bx w7 w6.heap.size #[.bool (sgnZ Z0), .slice A_g0_1 (Num.len (magZ Z0)) c_g0_1, .slice A_g0_2 (Num.len D0) c_g0_2] := Bx.old (Bx.new _ _ _) o7
  have zb7 := B_g0.lt
  replace o7 : Old w6 w7 := Below.trans (b := _) oldA (Below.mono o7 (by simp <;> omega))
  replace B_aR := B_aR.old o7
  replace B_aS := B_aS.old o7
  replace B_w0 := B_w0.old o7
  replace B_t1 := B_t1.old o7
  replace B_t2 := B_t2.old o7
  replace R_w0_1 := Row.below R_w0_1 o7 (Nat.le_refl _)
  replace R_w0_2 := Row.below R_w0_2 o7 (Nat.le_refl _)
  replace R_t1_1 := Row.below R_t1_1 o7 (Nat.le_refl _)
  replace R_t1_2 := Row.below R_t1_2 o7 (Nat.le_refl _)
  replace R_t2_1 := Row.below R_t2_1 o7 (Nat.le_refl _)
  replace R_t2_2 := Row.below R_t2_2 o7 (Nat.le_refl _)
  replace R_g0_1 := Row.below R_g0_1 o7 (Nat.le_refl _)
  replace R_g0_2 := Row.below R_g0_2 o7 (Nat.le_refl _)
  replace O := Old.trans O o7
  have z7 := o7.size
  clear o7
  have q_aR_0 := B_aR.cell 0 rfl
  have q_aR_1 := B_aR.cell 1 rfl
  have q_aR_2 := B_aR.cell 2 rfl
  have q_aR := B_aR.lt
  have q_t1_0 := B_t1.cell 0 rfl
  have q_t1_1 := B_t1.cell 1 rfl
  have q_t1_2 := B_t1.cell 2 rfl
  have q_t1 := B_t1.lt
  go_upto_region 14 with fail
  go_cut [44] (fun sl wx => sl = .bool false ∧ Old w7 wx)
  case first =>
    go_region_held3 (fun w' => w'.cell? ⟨w.heap.size, 0, none⟩ = some (.bool v0_0) ∧ w'.cell? ⟨w.heap.size, 1, none⟩ = some (.slice A0_1 n0_1 c0_1) ∧ w'.cell? ⟨w.heap.size, 2, none⟩ = some (.slice A0_2 n0_2 c0_2) ∧ w'.cell? ⟨w4.heap.size, 0, none⟩ = some (.bool v0_0) ∧ w'.cell? ⟨w4.heap.size, 1, none⟩ = some (.slice A_t1_1 n0_1 n0_1) ∧ w'.cell? ⟨w4.heap.size, 2, none⟩ = some (.slice A_t1_2 n0_2 n0_2)) (go_keep)
      (first
      | (go_at_call 26; refine (toRat_any v0_0 A0_1 n0_1 c0_1 f0_1 A0_2 n0_2 c0_2 f0_2 _ (h0_1.below (B := w.heap.size) (Below.trans (b := w7) O oldA) (Nat.le_refl _)) (h0_2.below (B := w.heap.size) (Below.trans (b := w7) O oldA) (Nat.le_refl _)) hn0_1 hn0_2).mono ?_; rintro e wt ⟨A_t_1, A_t_2, rfl, R_t_1, R_t_2, ap_t, o6⟩; replace o6 : Old w7 wt := Below.trans (b := _) oldA (Below.mono o6 leA); clear q_aR_0 q_aR_1 q_aR_2 q_aR q_t1_0 q_t1_1 q_t1_2 q_t1; have D_aR := B_aR.old o6; have q_aR_0 := D_aR.cell 0 rfl; have q_aR_1 := D_aR.cell 1 rfl; have q_aR_2 := D_aR.cell 2 rfl; have q_aR := D_aR.lt; have D_t1 := B_t1.old o6; have q_t1_0 := D_t1.cell 0 rfl; have q_t1_1 := D_t1.cell 1 rfl; have q_t1_2 := D_t1.cell 2 rfl; have q_t1 := D_t1.lt)
      | (go_at_call 28; refine (eqRat_yes _ _ _ _ _ _ _ _ _ _ _ _ _ _ _ _ _ _ _ _ (Row.below (B := w7.heap.size) R_t1_1 (Below.trans (b := wt) o6 oldA) (Nat.le_refl _)) (Row.below (B := wt.heap.size) R_t_1 oldA (Nat.le_refl _)) (fun _ _ => rfl) hn0_1 (Row.below (B := w7.heap.size) R_t1_2 (Below.trans (b := wt) o6 oldA) (Nat.le_refl _)) (Row.below (B := wt.heap.size) R_t_2 oldA (Nat.le_refl _)) (fun _ _ => rfl) hn0_2).mono ?_; rintro e wu ⟨rfl, o7⟩; replace o7 : Old wt wu := Below.trans (b := _) oldA (Below.mono o7 leA); clear q_aR_0 q_aR_1 q_aR_2 q_aR q_t1_0 q_t1_1 q_t1_2 q_t1; have E_aR := D_aR.old o7; have q_aR_0 := E_aR.cell 0 rfl; have q_aR_1 := E_aR.cell 1 rfl; have q_aR_2 := E_aR.cell 2 rfl; have q_aR := E_aR.lt; have E_t1 := D_t1.old o7; have q_t1_0 := E_t1.cell 0 rfl; have q_t1_1 := E_t1.cell 1 rfl; have q_t1_2 := E_t1.cell 2 rfl; have q_t1 := E_t1.lt))
    all_goals (go_wp2_with fail; go_meet; exact ⟨rfl, Old.trans o6 (Below.trans (b := _) o7 oldA)⟩)
  case rest =>
  obtain ⟨rfl, o8⟩ := hcut
  obtain ⟨w8, hw⟩ : ∃ x, x = wc := ⟨_, rfl⟩
  subst hw
  clear q_aR_0 q_aR_1 q_aR_2 q_aR q_t1_0 q_t1_1 q_t1_2 q_t1
  replace B_aR := B_aR.old o8
  replace B_aS := B_aS.old o8
  replace B_w0 := B_w0.old o8
  replace B_t1 := B_t1.old o8
  replace B_t2 := B_t2.old o8
  replace B_g0 := B_g0.old o8
  replace R_w0_1 := Row.below R_w0_1 o8 (Nat.le_refl _)
  replace R_w0_2 := Row.below R_w0_2 o8 (Nat.le_refl _)
  replace R_t1_1 := Row.below R_t1_1 o8 (Nat.le_refl _)
  replace R_t1_2 := Row.below R_t1_2 o8 (Nat.le_refl _)
  replace R_t2_1 := Row.below R_t2_1 o8 (Nat.le_refl _)
  replace R_t2_2 := Row.below R_t2_2 o8 (Nat.le_refl _)
  replace R_g0_1 := Row.below R_g0_1 o8 (Nat.le_refl _)
  replace R_g0_2 := Row.below R_g0_2 o8 (Nat.le_refl _)
  replace O := Old.trans O o8
  have z8 := o8.size
  clear o8
  have q_aS_0 := B_aS.cell 0 rfl
  have q_aS_1 := B_aS.cell 1 rfl
  have q_aS_2 := B_aS.cell 2 rfl
  have q_aS := B_aS.lt
  have q_t2_0 := B_t2.cell 0 rfl
  have q_t2_1 := B_t2.cell 1 rfl
  have q_t2_2 := B_t2.cell 2 rfl
  have q_t2 := B_t2.lt
  go_upto_region 16 with fail
  go_cut [49] (fun sl wx => sl = .bool false ∧ Old w8 wx)
  case first =>
    go_region_held3 (fun w' => w'.cell? ⟨w.heap.size + 1, 0, none⟩ = some (.bool v1_0) ∧ w'.cell? ⟨w.heap.size + 1, 1, none⟩ = some (.slice A1_1 n1_1 c1_1) ∧ w'.cell? ⟨w.heap.size + 1, 2, none⟩ = some (.slice A1_2 n1_2 c1_2) ∧ w'.cell? ⟨w5.heap.size, 0, none⟩ = some (.bool v1_0) ∧ w'.cell? ⟨w5.heap.size, 1, none⟩ = some (.slice A_t2_1 n1_1 n1_1) ∧ w'.cell? ⟨w5.heap.size, 2, none⟩ = some (.slice A_t2_2 n1_2 n1_2)) (go_keep)
      (first
      | (go_at_call 26; refine (toRat_any v1_0 A1_1 n1_1 c1_1 f1_1 A1_2 n1_2 c1_2 f1_2 _ (h1_1.below (B := w.heap.size) (Below.trans (b := w8) O oldA) (Nat.le_refl _)) (h1_2.below (B := w.heap.size) (Below.trans (b := w8) O oldA) (Nat.le_refl _)) hn1_1 hn1_2).mono ?_; rintro e wt ⟨A_t_1, A_t_2, rfl, R_t_1, R_t_2, ap_t, o6⟩; replace o6 : Old w8 wt := Below.trans (b := _) oldA (Below.mono o6 leA); clear q_aS_0 q_aS_1 q_aS_2 q_aS q_t2_0 q_t2_1 q_t2_2 q_t2; have D_aS := B_aS.old o6; have q_aS_0 := D_aS.cell 0 rfl; have q_aS_1 := D_aS.cell 1 rfl; have q_aS_2 := D_aS.cell 2 rfl; have q_aS := D_aS.lt; have D_t2 := B_t2.old o6; have q_t2_0 := D_t2.cell 0 rfl; have q_t2_1 := D_t2.cell 1 rfl; have q_t2_2 := D_t2.cell 2 rfl; have q_t2 := D_t2.lt)
      | (go_at_call 28; refine (eqRat_yes _ _ _ _ _ _ _ _ _ _ _ _ _ _ _ _ _ _ _ _ (Row.below (B := w8.heap.size) R_t2_1 (Below.trans (b := wt) o6 oldA) (Nat.le_refl _)) (Row.below (B := wt.heap.size) R_t_1 oldA (Nat.le_refl _)) (fun _ _ => rfl) hn1_1 (Row.below (B := w8.heap.size) R_t2_2 (Below.trans (b := wt) o6 oldA) (Nat.le_refl _)) (Row.below (B := wt.heap.size) R_t_2 oldA (Nat.le_refl _)) (fun _ _ => rfl) hn1_2).mono ?_; rintro e wu ⟨rfl, o7⟩; replace o7 : Old wt wu := Below.trans (b := _) oldA (Below.mono o7 leA); clear q_aS_0 q_aS_1 q_aS_2 q_aS q_t2_0 q_t2_1 q_t2_2 q_t2; have E_aS := D_aS.old o7; have q_aS_0 := E_aS.cell 0 rfl; have q_aS_1 := E_aS.cell 1 rfl; have q_aS_2 := E_aS.cell 2 rfl; have q_aS := E_aS.lt; have E_t2 := D_t2.old o7; have q_t2_0 := E_t2.cell 0 rfl; have q_t2_1 := E_t2.cell 1 rfl; have q_t2_2 := E_t2.cell 2 rfl; have q_t2 := E_t2.lt))
    all_goals (go_wp2_with fail; go_meet; exact ⟨rfl, Old.trans o6 (Below.trans (b := _) o7 oldA)⟩)
  case rest =>
  obtain ⟨rfl, o9⟩ := hcut
  obtain ⟨w9, hw⟩ : ∃ x, x = wc := ⟨_, rfl⟩
  subst hw
  clear q_aS_0 q_aS_1 q_aS_2 q_aS q_t2_0 q_t2_1 q_t2_2 q_t2
  replace B_aR := B_aR.old o9
  replace B_aS := B_aS.old o9
  replace B_w0 := B_w0.old o9
  replace B_t1 := B_t1.old o9
  replace B_t2 := B_t2.old o9
  replace B_g0 := B_g0.old o9
  replace R_w0_1 := Row.below R_w0_1 o9 (Nat.le_refl _)
  replace R_w0_2 := Row.below R_w0_2 o9 (Nat.le_refl _)
  replace R_t1_1 := Row.below R_t1_1 o9 (Nat.le_refl _)
  replace R_t1_2 := Row.below R_t1_2 o9 (Nat.le_refl _)
  replace R_t2_1 := Row.below R_t2_1 o9 (Nat.le_refl _)
  replace R_t2_2 := Row.below R_t2_2 o9 (Nat.le_refl _)
  replace R_g0_1 := Row.below R_g0_1 o9 (Nat.le_refl _)
  replace R_g0_2 := Row.below R_g0_2 o9 (Nat.le_refl _)
  replace O := Old.trans O o9
  have z9 := o9.size
  clear o9
  have q_t1_0 := B_t1.cell 0 rfl
  have q_t1_1 := B_t1.cell 1 rfl
  have q_t1_2 := B_t1.cell 2 rfl
  have q_t1 := B_t1.lt
  go_wp2_with fail
  refine (markRat_any _ _ _ _ _ _ _ _ _ _ _ _ _ R_t1_1 R_t1_2 ap_t1 hn0_1 hn0_2 (by omega) (by omega)).mono ?_
  rintro e w10 ⟨rfl, S_1, S_2, wm10_0, G_1, G_2⟩
  clear q_t1_0 q_t1_1 q_t1_2 q_t1
  clear R_t1_1
  have R_t1_1 := S_1
  clear S_1
  clear R_t1_2
  have R_t1_2 := S_2
  clear S_2
  replace R_w0_1 := Row.apart R_w0_1 G_1 lim_w0_1 low_w0_1 lim_t1_1 low_t1_1 (by omega)
  replace R_w0_2 := Row.apart R_w0_2 G_1 lim_w0_2 low_w0_2 lim_t1_1 low_t1_1 (by omega)
  replace R_t2_1 := Row.apart R_t2_1 G_1 lim_t2_1 low_t2_1 lim_t1_1 low_t1_1 (by omega)
  replace R_t2_2 := Row.apart R_t2_2 G_1 lim_t2_2 low_t2_2 lim_t1_1 low_t1_1 (by omega)
  replace R_g0_1 := Row.apart R_g0_1 G_1 lim_g0_1 low_g0_1 lim_t1_1 low_t1_1 (by omega)
  replace R_g0_2 := Row.apart R_g0_2 G_1 lim_g0_2 low_g0_2 lim_t1_1 low_t1_1 (by omega)
  replace B_aR := B_aR.apart G_1 low_t1_1 lim_t1_1 (by omega)
  replace B_aS := B_aS.apart G_1 low_t1_1 lim_t1_1 (by omega)
  replace B_w0 := B_w0.apart G_1 low_t1_1 lim_t1_1 (by omega)
  replace B_t1 := B_t1.apart G_1 low_t1_1 lim_t1_1 (by omega)
  replace B_t2 := B_t2.apart G_1 low_t1_1 lim_t1_1 (by omega)
  replace B_g0 := B_g0.apart G_1 low_t1_1 lim_t1_1 (by omega)
  replace O := Below.grown O G_1 O.size (low_t1_1.own (by omega))
  have z10_0 := G_1.size
  clear G_1
  replace R_w0_1 := Row.apart R_w0_1 G_2 lim_w0_1 low_w0_1 lim_t1_2 low_t1_2 (by omega)
  replace R_w0_2 := Row.apart R_w0_2 G_2 lim_w0_2 low_w0_2 lim_t1_2 low_t1_2 (by omega)
  replace R_t2_1 := Row.apart R_t2_1 G_2 lim_t2_1 low_t2_1 lim_t1_2 low_t1_2 (by omega)
  replace R_t2_2 := Row.apart R_t2_2 G_2 lim_t2_2 low_t2_2 lim_t1_2 low_t1_2 (by omega)
  replace R_g0_1 := Row.apart R_g0_1 G_2 lim_g0_1 low_g0_1 lim_t1_2 low_t1_2 (by omega)
  replace R_g0_2 := Row.apart R_g0_2 G_2 lim_g0_2 low_g0_2 lim_t1_2 low_t1_2 (by omega)
  replace B_aR := B_aR.apart G_2 low_t1_2 lim_t1_2 (by omega)
  replace B_aS := B_aS.apart G_2 low_t1_2 lim_t1_2 (by omega)
  replace B_w0 := B_w0.apart G_2 low_t1_2 lim_t1_2 (by omega)
  replace B_t1 := B_t1.apart G_2 low_t1_2 lim_t1_2 (by omega)
  replace B_t2 := B_t2.apart G_2 low_t1_2 lim_t1_2 (by omega)
  replace B_g0 := B_g0.apart G_2 low_t1_2 lim_t1_2 (by omega)
  replace O := Below.grown O G_2 O.size (low_t1_2.own (by omega))
  have z10_1 := G_2.size
  clear G_2
  clear R_t1_1 lim_t1_1 low_t1_1
  clear R_t1_2 lim_t1_2 low_t1_2
  clear B_t1
  have q_t2_0 := B_t2.cell 0 rfl
  have q_t2_1 := B_t2.cell 1 rfl
  have q_t2_2 := B_t2.cell 2 rfl
  have q_t2 := B_t2.lt
  go_wp2_with fail
  refine (markRat_any _ _ _ _ _ _ _ _ _ _ _ _ _ R_t2_1 R_t2_2 ap_t2 hn1_1 hn1_2 (by omega) (by omega)).mono ?_
  rintro e w11 ⟨rfl, S_1, S_2, wm11_0, G_1, G_2⟩
  clear q_t2_0 q_t2_1 q_t2_2 q_t2
  clear R_t2_1
  have R_t2_1 := S_1
  clear S_1
  clear R_t2_2
  have R_t2_2 := S_2
  clear S_2
  replace R_w0_1 := Row.apart R_w0_1 G_1 lim_w0_1 low_w0_1 lim_t2_1 low_t2_1 (by omega)
  replace R_w0_2 := Row.apart R_w0_2 G_1 lim_w0_2 low_w0_2 lim_t2_1 low_t2_1 (by omega)
  replace R_g0_1 := Row.apart R_g0_1 G_1 lim_g0_1 low_g0_1 lim_t2_1 low_t2_1 (by omega)
  replace R_g0_2 := Row.apart R_g0_2 G_1 lim_g0_2 low_g0_2 lim_t2_1 low_t2_1 (by omega)
  replace B_aR := B_aR.apart G_1 low_t2_1 lim_t2_1 (by omega)
  replace B_aS := B_aS.apart G_1 low_t2_1 lim_t2_1 (by omega)
  replace B_w0 := B_w0.apart G_1 low_t2_1 lim_t2_1 (by omega)
  replace B_t2 := B_t2.apart G_1 low_t2_1 lim_t2_1 (by omega)
  replace B_g0 := B_g0.apart G_1 low_t2_1 lim_t2_1 (by omega)
  replace O := Below.grown O G_1 O.size (low_t2_1.own (by omega))
  have z11_0 := G_1.size
  clear G_1
  replace R_w0_1 := Row.apart R_w0_1 G_2 lim_w0_1 low_w0_1 lim_t2_2 low_t2_2 (by omega)
  replace R_w0_2 := Row.apart R_w0_2 G_2 lim_w0_2 low_w0_2 lim_t2_2 low_t2_2 (by omega)
  replace R_g0_1 := Row.apart R_g0_1 G_2 lim_g0_1 low_g0_1 lim_t2_2 low_t2_2 (by omega)
  replace R_g0_2 := Row.apart R_g0_2 G_2 lim_g0_2 low_g0_2 lim_t2_2 low_t2_2 (by omega)
  replace B_aR := B_aR.apart G_2 low_t2_2 lim_t2_2 (by omega)
  replace B_aS := B_aS.apart G_2 low_t2_2 lim_t2_2 (by omega)
  replace B_w0 := B_w0.apart G_2 low_t2_2 lim_t2_2 (by omega)
  replace B_t2 := B_t2.apart G_2 low_t2_2 lim_t2_2 (by omega)
  replace B_g0 := B_g0.apart G_2 low_t2_2 lim_t2_2 (by omega)
  replace O := Below.grown O G_2 O.size (low_t2_2.own (by omega))
  have z11_1 := G_2.size
  clear G_2
  clear R_t2_1 lim_t2_1 low_t2_1
  clear R_t2_2 lim_t2_2 low_t2_2
  clear B_t2
  have q_w0_0 := B_w0.cell 0 rfl
  have q_w0_1 := B_w0.cell 1 rfl
  have q_w0_2 := B_w0.cell 2 rfl
  have q_w0 := B_w0.lt
  have q_g0_0 := B_g0.cell 0 rfl
  have q_g0_1 := B_g0.cell 1 rfl
  have q_g0_2 := B_g0.cell 2 rfl
  have q_g0 := B_g0.lt
  go_wp2_with fail
  refine (eqRat_yes _ _ _ _ _ _ _ _ _ _ _ _ _ _ _ _ _ _ _ _ R_g0_1 R_w0_1 (fun _ _ => rfl) L_0_1 R_g0_2 R_w0_2 (fun _ _ => rfl) L_0_2).mono ?_
  rintro e w12 ⟨rfl, o12⟩
  clear q_w0_0 q_w0_1 q_w0_2 q_w0 q_g0_0 q_g0_1 q_g0_2 q_g0
  replace B_aR := B_aR.old o12
  replace B_aS := B_aS.old o12
  replace B_w0 := B_w0.old o12
  replace B_g0 := B_g0.old o12
  replace R_w0_1 := Row.below R_w0_1 o12 (Nat.le_refl _)
  replace R_w0_2 := Row.below R_w0_2 o12 (Nat.le_refl _)
  replace R_g0_1 := Row.below R_g0_1 o12 (Nat.le_refl _)
  replace R_g0_2 := Row.below R_g0_2 o12 (Nat.le_refl _)
  replace O := Old.trans O o12
  have z12 := o12.size
  clear o12
  have q_g0_0 := B_g0.cell 0 rfl
  have q_g0_1 := B_g0.cell 1 rfl
  have q_g0_2 := B_g0.cell 2 rfl
  have q_g0 := B_g0.lt
  go_wp2_with fail
  refine (markRat_any _ _ _ _ _ _ _ _ _ _ _ _ _ R_g0_1 R_g0_2 ap_g0 L_0_1 L_0_2 (by omega) (by omega)).mono ?_
  rintro e w13 ⟨rfl, S_1, S_2, wm13_0, G_1, G_2⟩
  clear q_g0_0 q_g0_1 q_g0_2 q_g0
  clear R_g0_1
  have R_g0_1 := S_1
  clear S_1
  clear R_g0_2
  have R_g0_2 := S_2
  clear S_2
  replace R_w0_1 := Row.apart R_w0_1 G_1 lim_w0_1 low_w0_1 lim_g0_1 low_g0_1 (by omega)
  replace R_w0_2 := Row.apart R_w0_2 G_1 lim_w0_2 low_w0_2 lim_g0_1 low_g0_1 (by omega)
  replace B_aR := B_aR.apart G_1 low_g0_1 lim_g0_1 (by omega)
  replace B_aS := B_aS.apart G_1 low_g0_1 lim_g0_1 (by omega)
  replace B_w0 := B_w0.apart G_1 low_g0_1 lim_g0_1 (by omega)
  replace B_g0 := B_g0.apart G_1 low_g0_1 lim_g0_1 (by omega)
  replace O := Below.grown O G_1 O.size (low_g0_1.own (by omega))
  have z13_0 := G_1.size
  clear G_1
  replace R_w0_1 := Row.apart R_w0_1 G_2 lim_w0_1 low_w0_1 lim_g0_2 low_g0_2 (by omega)
  replace R_w0_2 := Row.apart R_w0_2 G_2 lim_w0_2 low_w0_2 lim_g0_2 low_g0_2 (by omega)
  replace B_aR := B_aR.apart G_2 low_g0_2 lim_g0_2 (by omega)
  replace B_aS := B_aS.apart G_2 low_g0_2 lim_g0_2 (by omega)
  replace B_w0 := B_w0.apart G_2 low_g0_2 lim_g0_2 (by omega)
  replace B_g0 := B_g0.apart G_2 low_g0_2 lim_g0_2 (by omega)
  replace O := Below.grown O G_2 O.size (low_g0_2.own (by omega))
  have z13_1 := G_2.size
  clear G_2
  have q_g0_0 := B_g0.cell 0 rfl
  have q_g0_1 := B_g0.cell 1 rfl
  have q_g0_2 := B_g0.cell 2 rfl
  have q_g0 := B_g0.lt
  go_wp2_with fail
  refine (heldRat_yes _ _ _ _ _ _ _ _ _ _ _ _ _ R_g0_1 (fun _ _ => rfl) L_0_1 R_g0_2 (fun _ _ => rfl) L_0_2 (by omega) (by omega)).mono ?_
  rintro e w14 ⟨rfl, o14⟩
  clear q_g0_0 q_g0_1 q_g0_2 q_g0
  replace B_aR := B_aR.old o14
  replace B_aS := B_aS.old o14
  replace B_w0 := B_w0.old o14
  replace B_g0 := B_g0.old o14
  replace R_w0_1 := Row.below R_w0_1 o14 (Nat.le_refl _)
  replace R_w0_2 := Row.below R_w0_2 o14 (Nat.le_refl _)
  replace R_g0_1 := Row.below R_g0_1 o14 (Nat.le_refl _)
  replace R_g0_2 := Row.below R_g0_2 o14 (Nat.le_refl _)
  replace O := Old.trans O o14
  have z14 := o14.size
  clear o14
  have q_aR_0 := B_aR.cell 0 rfl
  have q_aR_1 := B_aR.cell 1 rfl
  have q_aR_2 := B_aR.cell 2 rfl
  have q_aR := B_aR.lt
  have q_aS_0 := B_aS.cell 0 rfl
  have q_aS_1 := B_aS.cell 1 rfl
  have q_aS_2 := B_aS.cell 2 rfl
  have q_aS := B_aS.lt
  have new14_aR : ¬ (w14.heap.size = w.heap.size) := (by omega)
  have enw14_aR : ¬ (w.heap.size = w14.heap.size) := (by omega)
  have new14_aS : ¬ (w14.heap.size = w.heap.size + 1) := (by omega)
  have enw14_aS : ¬ (w.heap.size + 1 = w14.heap.size) := (by omega)
  go_upto_region 31 with fail
  go_cut [13] (fun sl wx => ∃ (g : Nat) (A1 : Option Addr) (c1 : Nat) (A2 : Option Addr) (c2 : Nat), sl = .pointer (some ⟨g, 0, none⟩) ∧ w14.heap.size ≤ g ∧ Bx wx g #[.bool (sgnZ Z0), .slice A1 (Num.len (magZ Z0)) c1, .slice A2 (Num.len D0) c2] ∧ Row wx w14.heap.size A1 (Num.len (magZ Z0)) c1 (digI (magZ Z0)) ∧ Row wx w14.heap.size A2 (Num.len D0) c2 (digI D0) ∧ (Apart A1 (Num.len (magZ Z0)) A2 (Num.len D0)) ∧ Old w14 wx)
  case first =>
    go_region_held3 (fun w' => w'.cell? ⟨w.heap.size, 0, none⟩ = some (.bool v0_0) ∧ w'.cell? ⟨w.heap.size, 1, none⟩ = some (.slice A0_1 n0_1 c0_1) ∧ w'.cell? ⟨w.heap.size, 2, none⟩ = some (.slice A0_2 n0_2 c0_2) ∧ w'.cell? ⟨w.heap.size + 1, 0, none⟩ = some (.bool v1_0) ∧ w'.cell? ⟨w.heap.size + 1, 1, none⟩ = some (.slice A1_1 n1_1 c1_1) ∧ w'.cell? ⟨w.heap.size + 1, 2, none⟩ = some (.slice A1_2 n1_2 c1_2)) (go_keep)
      (first
      | (go_at_call 26; (with_reducible refine (toRat_any v0_0 A0_1 n0_1 c0_1 f0_1 A0_2 n0_2 c0_2 f0_2 _ (h0_1.below (B := w.heap.size) (Below.trans (b := w14) O oldA) (Nat.le_refl _)) (h0_2.below (B := w.heap.size) (Below.trans (b := w14) O oldA) (Nat.le_refl _)) hn0_1 hn0_2).mono ?_); rintro e t1 ⟨A_t1_1, A_t1_2, rfl, R_t1_1, R_t1_2, ap_t1, o_t1⟩; (first | (clear qE0 qE1 qE2 fE0 fE1 fE2 qE) | skip); (first | (have E0 := Bx.old (Bx.new _ _ _) o_t1; have E : Bx t1 w14.heap.size #[.bool false, .slice none 0 0, .slice none 0 0] := E0; clear E0; have hE := E.lt) | (have E0 := Bx.old (Bx.drew (Bx.new _ _ _)) o_t1; have E : Bx t1 w14.heap.size #[.bool false, .slice none 0 0, .slice none 0 0] := E0; clear E0; have hE := E.lt) | (replace E := Bx.old E o_t1) | skip); replace o_t1 : Old w14 t1 := Below.trans (b := _) oldA (Below.mono o_t1 leA); have z_t1 := o_t1.size; have O_t1 := Old.trans O o_t1; clear q_aR_0 q_aR_1 q_aR_2 q_aR q_aS_0 q_aS_1 q_aS_2 q_aS; have D1_aR := B_aR.old o_t1; have q_aR_0 := D1_aR.cell 0 rfl; have q_aR_1 := D1_aR.cell 1 rfl; have q_aR_2 := D1_aR.cell 2 rfl; have q_aR := D1_aR.lt; have D1_aS := B_aS.old o_t1; have q_aS_0 := D1_aS.cell 0 rfl; have q_aS_1 := D1_aS.cell 1 rfl; have q_aS_2 := D1_aS.cell 2 rfl; have q_aS := D1_aS.lt; have net1_aR : ¬ (t1.heap.size = w.heap.size) := (by omega); have ent1_aR : ¬ (w.heap.size = t1.heap.size) := (by omega); have net1_aS : ¬ (t1.heap.size = w.heap.size + 1) := (by omega); have ent1_aS : ¬ (w.heap.size + 1 = t1.heap.size) := (by omega); (first | (have qE0 := E.cell 0 rfl; have qE1 := E.cell 1 rfl; have qE2 := E.cell 2 rfl; have fE0 := E.frozen 0; have fE1 := E.frozen 1; have fE2 := E.frozen 2; have qE := E.lt) | skip))
      | (go_at_call 26; (with_reducible refine (toRat_any v1_0 A1_1 n1_1 c1_1 f1_1 A1_2 n1_2 c1_2 f1_2 _ (h1_1.below (B := w.heap.size) (Below.trans (b := t1) O_t1 oldA) (Nat.le_refl _)) (h1_2.below (B := w.heap.size) (Below.trans (b := t1) O_t1 oldA) (Nat.le_refl _)) hn1_1 hn1_2).mono ?_); rintro e t2 ⟨A_t2_1, A_t2_2, rfl, R_t2_1, R_t2_2, ap_t2, o_t2⟩; (first | (clear qE0 qE1 qE2 fE0 fE1 fE2 qE) | skip); (first | (have E0 := Bx.old (Bx.new _ _ _) o_t2; have E : Bx t2 t1.heap.size #[.bool false, .slice none 0 0, .slice none 0 0] := E0; clear E0; have hE := E.lt) | (have E0 := Bx.old (Bx.drew (Bx.new _ _ _)) o_t2; have E : Bx t2 t1.heap.size #[.bool false, .slice none 0 0, .slice none 0 0] := E0; clear E0; have hE := E.lt) | (replace E := Bx.old E o_t2) | skip); replace o_t2 : Old t1 t2 := Below.trans (b := _) oldA (Below.mono o_t2 leA); have z_t2 := o_t2.size; have O_t2 := Old.trans O_t1 o_t2; clear q_aR_0 q_aR_1 q_aR_2 q_aR q_aS_0 q_aS_1 q_aS_2 q_aS; have D2_aR := D1_aR.old o_t2; have q_aR_0 := D2_aR.cell 0 rfl; have q_aR_1 := D2_aR.cell 1 rfl; have q_aR_2 := D2_aR.cell 2 rfl; have q_aR := D2_aR.lt; have D2_aS := D1_aS.old o_t2; have q_aS_0 := D2_aS.cell 0 rfl; have q_aS_1 := D2_aS.cell 1 rfl; have q_aS_2 := D2_aS.cell 2 rfl; have q_aS := D2_aS.lt; have net2_aR : ¬ (t2.heap.size = w.heap.size) := (by omega); have ent2_aR : ¬ (w.heap.size = t2.heap.size) := (by omega); have net2_aS : ¬ (t2.heap.size = w.heap.size + 1) := (by omega); have ent2_aS : ¬ (w.heap.size + 1 = t2.heap.size) := (by omega); replace R_t1_1 := Row.below R_t1_1 o_t2 (Nat.le_refl _); replace R_t1_2 := Row.below R_t1_2 o_t2 (Nat.le_refl _); (first | (have qE0 := E.cell 0 rfl; have qE1 := E.cell 1 rfl; have qE2 := E.cell 2 rfl; have fE0 := E.frozen 0; have fE1 := E.frozen 1; have fE2 := E.frozen 2; have qE := E.lt) | skip))
      | (go_at_call 66; refine (impl_RatMax _ _ _ _ _ _ _ _ _ _ _ _ _ _ _ _ _ _ _ _ _ _ _ (Row.below (B := t2.heap.size) R_t1_1 oldA (Nat.le_refl _)) (Row.below (B := t2.heap.size) R_t1_2 oldA (Nat.le_refl _)) (Row.below (B := t2.heap.size) R_t2_1 oldA (Nat.le_refl _)) (Row.below (B := t2.heap.size) R_t2_2 oldA (Nat.le_refl _)) hn0_1 hn0_2 hn1_1 hn1_2).mono ?_; rintro e tf ⟨⟨x0, x1, A_f_1, c_f_1, A_f_2, c_f_2, hv, he, R_f_1, R_f_2, ap_f⟩, o_f⟩; rw [HV0.out] at hv; obtain ⟨rfl, rfl⟩ := Prod.mk.inj hv; subst he; (first | (clear qE0 qE1 qE2 fE0 fE1 fE2 qE) | skip); (first | (have E0 := Bx.old (Bx.new _ _ _) o_f; have E : Bx tf t2.heap.size #[.bool false, .slice none 0 0, .slice none 0 0] := E0; clear E0; have hE := E.lt) | (have E0 := Bx.old (Bx.drew (Bx.new _ _ _)) o_f; have E : Bx tf t2.heap.size #[.bool false, .slice none 0 0, .slice none 0 0] := E0; clear E0; have hE := E.lt) | (replace E := Bx.old E o_f) | skip); replace o_f : Old t2 tf := Below.trans (b := _) oldA (Below.mono o_f leA); have z_f := o_f.size; have O_f := Old.trans O_t2 o_f; clear q_aR_0 q_aR_1 q_aR_2 q_aR q_aS_0 q_aS_1 q_aS_2 q_aS; have DF_aR := D2_aR.old o_f; have q_aR_0 := DF_aR.cell 0 rfl; have q_aR_1 := DF_aR.cell 1 rfl; have q_aR_2 := DF_aR.cell 2 rfl; have q_aR := DF_aR.lt; have DF_aS := D2_aS.old o_f; have q_aS_0 := DF_aS.cell 0 rfl; have q_aS_1 := DF_aS.cell 1 rfl; have q_aS_2 := DF_aS.cell 2 rfl; have q_aS := DF_aS.lt; have netf_aR : ¬ (tf.heap.size = w.heap.size) := (by omega); have entf_aR : ¬ (w.heap.size = tf.heap.size) := (by omega); have netf_aS : ¬ (tf.heap.size = w.heap.size + 1) := (by omega); have entf_aS : ¬ (w.heap.size + 1 = tf.heap.size) := (by omega); (first | (have qE0 := E.cell 0 rfl; have qE1 := E.cell 1 rfl; have qE2 := E.cell 2 rfl; have fE0 := E.frozen 0; have fE1 := E.frozen 1; have fE2 := E.frozen 2; have qE := E.lt) | skip)))
    all_goals (go_wp2_with fail; go_meet; exact ⟨_, _, _, _, _, rfl, leA, (by first | exact Bx.new _ _ _ | exact Bx.put3 E _ _ _ | exact Bx.put3 (Bx.new _ _ _) _ _ _), (by first | exact Row.more (Row.far_set (Row.far_set (Row.far_set R_f_1 (by first | (simp <;> done) | (simp; omega) | omega) _) (by first | (simp <;> done) | (simp; omega) | omega) _) (by first | (simp <;> done) | (simp; omega) | omega) _) leA | exact Row.more (Row.below (B := tf.heap.size) R_f_1 oldA (Nat.le_refl _)) leA), (by first | exact Row.more (Row.far_set (Row.far_set (Row.far_set R_f_2 (by first | (simp <;> done) | (simp; omega) | omega) _) (by first | (simp <;> done) | (simp; omega) | omega) _) (by first | (simp <;> done) | (simp; omega) | omega) _) leA | exact Row.more (Row.below (B := tf.heap.size) R_f_2 oldA (Nat.le_refl _)) leA), ap_f, (Below.trans (b := tf) (Old.trans (Old.trans o_t1 o_t2) o_f) oldA)⟩)
  case rest =>
  obtain ⟨g_h0, A_h0_1, c_h0_1, A_h0_2, c_h0_2, rfl, hg_h0, B_h0, R_h0_1, R_h0_2, ap_h0, o15⟩ := hcut
  obtain ⟨w15, hw⟩ : ∃ x, x = wc := ⟨_, rfl⟩
  subst hw
  clear q_aR_0 q_aR_1 q_aR_2 q_aR q_aS_0 q_aS_1 q_aS_2 q_aS
  clear new14_aR enw14_aR new14_aS enw14_aS
  replace B_aR := B_aR.old o15
  replace B_aS := B_aS.old o15
  replace B_w0 := B_w0.old o15
  replace B_g0 := B_g0.old o15
  replace R_w0_1 := Row.below R_w0_1 o15 (Nat.le_refl _)
  replace R_w0_2 := Row.below R_w0_2 o15 (Nat.le_refl _)
  replace R_g0_1 := Row.below R_g0_1 o15 (Nat.le_refl _)
  replace R_g0_2 := Row.below R_g0_2 o15 (Nat.le_refl _)
  replace O := Old.trans O o15
  have z15 := o15.size
  clear o15
  have lim_h0_1 := R_h0_1.lim
  have low_h0_1 := Low.mono (lo' := w14.heap.size + 0) R_h0_1.low (by first | exact Nat.le_refl _ | (simp <;> omega))
  have lim_h0_2 := R_h0_2.lim
  have low_h0_2 := Low.mono (lo' := w14.heap.size + 0) R_h0_2.low (by first | exact Nat.le_refl _ | (simp <;> omega))
  have lt_h0 := B_h0.lt
  clear B_aR
  clear B_aS
  have q_w0_0 := B_w0.cell 0 rfl
  have q_w0_1 := B_w0.cell 1 rfl
  have q_w0_2 := B_w0.cell 2 rfl
  have q_w0 := B_w0.lt
  have q_h0_0 := B_h0.cell 0 rfl
  have q_h0_1 := B_h0.cell 1 rfl
  have q_h0_2 := B_h0.cell 2 rfl
  have q_h0 := B_h0.lt
  go_wp2_with fail
  refine (eqRat_yes _ _ _ _ _ _ _ _ _ _ _ _ _ _ _ _ _ _ _ _ R_h0_1 R_w0_1 (fun _ _ => rfl) L_0_1 R_h0_2 R_w0_2 (fun _ _ => rfl) L_0_2).mono ?_
  rintro e w16 ⟨rfl, o16⟩
  clear q_w0_0 q_w0_1 q_w0_2 q_w0 q_h0_0 q_h0_1 q_h0_2 q_h0
  replace B_w0 := B_w0.old o16
  replace B_g0 := B_g0.old o16
  replace B_h0 := B_h0.old o16
  replace R_w0_1 := Row.below R_w0_1 o16 (Nat.le_refl _)
  replace R_w0_2 := Row.below R_w0_2 o16 (Nat.le_refl _)
  replace R_g0_1 := Row.below R_g0_1 o16 (Nat.le_refl _)
  replace R_g0_2 := Row.below R_g0_2 o16 (Nat.le_refl _)
  replace R_h0_1 := Row.below R_h0_1 o16 (Nat.le_refl _)
  replace R_h0_2 := Row.below R_h0_2 o16 (Nat.le_refl _)
  replace O := Old.trans O o16
  have z16 := o16.size
  clear o16
  have q_g0_0 := B_g0.cell 0 rfl
  have q_g0_1 := B_g0.cell 1 rfl
  have q_g0_2 := B_g0.cell 2 rfl
  have q_g0 := B_g0.lt
  go_wp2_with fail
  refine (heldRat_yes _ _ _ _ _ _ _ _ _ _ _ _ _ R_g0_1 (fun _ _ => rfl) L_0_1 R_g0_2 (fun _ _ => rfl) L_0_2 (by omega) (by omega)).mono ?_
  rintro e w17 ⟨rfl, o17⟩
  clear q_g0_0 q_g0_1 q_g0_2 q_g0
  replace B_w0 := B_w0.old o17
  replace B_g0 := B_g0.old o17
  replace B_h0 := B_h0.old o17
  replace R_w0_1 := Row.below R_w0_1 o17 (Nat.le_refl _)
  replace R_w0_2 := Row.below R_w0_2 o17 (Nat.le_refl _)
  replace R_g0_1 := Row.below R_g0_1 o17 (Nat.le_refl _)
  replace R_g0_2 := Row.below R_g0_2 o17 (Nat.le_refl _)
  replace R_h0_1 := Row.below R_h0_1 o17 (Nat.le_refl _)
  replace R_h0_2 := Row.below R_h0_2 o17 (Nat.le_refl _)
  replace O := Old.trans O o17
  have z17 := o17.size
  clear o17
  go_wp2
  go_ret
  exact ⟨rfl, O⟩

set_option maxRecDepth 100000 in
theorem liftedRatMax (os : Os) (started : os.Started) (H : Type) (enc : TypeId × Value → H) :
    ReturnsInHanded {} Try.checked os 16 .any (Rows.fnExactRatMaxSpec.pre6 enc Try.prog Try.f16 Rows.fnExactRatMaxRow.domain false) (Rows.fnExactRatMaxSpec.post enc Try.prog Try.f16 false true false false) := by
  refine returnsInHanded_of_change (C := Try.checked) ownKnob_none started (by kernel_rfl) Try.func16
    (ChangeSpec.witness6 (enc := enc) (C := Try.checked) false ⟨#[], #[.agg #[.bool false, .slice none 0 0, .slice none 0 0], .agg #[.bool false, .slice none 0 0, .slice none 0 0]], []⟩ 8 (by kernel_rfl) (by kernel_rfl) (by kernel_rfl) (by kernel_rfl)) ?_
  intro W base args ds gs before hval0 hW hcnd _
  have hval : ∀ (j : Nat) t v, Try.f16.params[j]? = some t → args[j]? = some v → Value.okWide Try.prog W .any base t v := hval0
  have hW' := hW
  obtain ⟨p, q, hA0, hV, rfl, hfz, hnd⟩ := hW
  have hA : DataW.TrodAll enc Try.prog W 0 (fun _ => true) true Try.f16.params.toList args.toList ds p := hA0
  rw [Try.params16] at hA hval
  obtain ⟨v0, vs0, d0, ds0, p0, q0, hargs, rfl, rfl, h0, r0⟩ := trodAll_cons hA
  obtain ⟨v1, vs1, d1, ds1, p1, q1, rfl, rfl, rfl, h1, r1⟩ := trodAll_cons r0
  obtain ⟨rfl, rfl, rfl⟩ := trodAll_nil r1
  obtain rfl : args = #[v0, v1] := by cases args; simp_all
  obtain ⟨rfl, rfl⟩ := trodVars_none hV
  have k0 := h0
  have lt0 : ∀ x ∈ p0, x.block < W.heap.size := by obtain ⟨m, hm⟩ := k0; exact DataW.trod_lt m _ _ _ hm
  obtain ⟨x0_0, A0_1, n0_1, c0_1, f0_1, A0_2, n0_2, c0_2, f0_2, rfl, g0_1, m0_1, g0_2, m0_2⟩ := open_rat (hval 0 26 v0 rfl rfl) h0
  have k1 := h1
  have lt1 : ∀ x ∈ p1, x.block < W.heap.size := by obtain ⟨m, hm⟩ := k1; exact DataW.trod_lt m _ _ _ hm
  obtain ⟨x1_0, A1_1, n1_1, c1_1, f1_1, A1_2, n1_2, c1_2, f1_2, rfl, g1_1, m1_1, g1_2, m1_2⟩ := open_rat (hval 1 26 v1 rfl rfl) h1
  clear hA0 hval0
  refine (walkRatMax x0_0 A0_1 n0_1 c0_1 f0_1 A0_2 n0_2 c0_2 f0_2 x1_0 A1_1 n1_1 c1_1 f1_1 A1_2 n1_2 c1_2 f1_2 W g0_1 g0_2 g1_1 g1_2 m0_1 m0_2 m1_1 m1_2).mono fun e W' ⟨he, bel⟩ => ?_
  subst he
  exact ⟨_, rfl, _, _, _, [], _, [], hW', trodAll_mk1 (shut_bool Try.underlying4 _), (trodAll_cons_mk (Below.trod laidOut (by kernel_rfl) (of_decide_eq_true (by kernel_rfl)) k0 bel lt0) (trodAll_cons_mk (Below.trod laidOut (by kernel_rfl) (of_decide_eq_true (by kernel_rfl)) k1 bel lt1) trodAll_mk0)), rfl, bel.frame _, fun h => by cases h⟩

theorem inPlaceRatMax : (Rows.fnExactRatMaxRow.inPlace == Try.prog.inPlace 16) = true := by kernel_rfl
theorem unfollowedRatMax : (Rows.fnExactRatMaxRow.unfollowed == Try.prog.unfollowed 16) = true := by kernel_rfl
theorem recursesRatMax : (Rows.fnExactRatMaxRow.recurses == Try.prog.recurses 16) = true := by kernel_rfl
theorem namedRatMax : (Rows.fnExactRatMaxRow.named == Try.prog.varsNamed 16) = true := by kernel_rfl
theorem closedRatMax : joinedFacts Try.prog 16 Try.f16 Rows.fnExactRatMaxSpec Rows.fnExactRatMaxRow = true :=
  joined_of (by kernel_rfl) laidOut mapsRowed_yes (by kernel_rfl) (by kernel_rfl) (by kernel_rfl) stops_none (by kernel_rfl) knobs_none inPlaceRatMax unfollowedRatMax recursesRatMax namedRatMax
    (by kernel_rfl) (by kernel_rfl) (by kernel_rfl) (by kernel_rfl) (by kernel_rfl) (by kernel_rfl) (by kernel_rfl) (by kernel_rfl) (by kernel_rfl) plainKeys_yes (by kernel_rfl) (by kernel_rfl) stopsHeard_yes mayEnter_yes liftsFinal_no (by kernel_rfl) make_cut (by kernel_rfl)
    (by kernel_rfl) (by kernel_rfl) (by kernel_rfl) (by kernel_rfl) (by kernel_rfl)

/-- The statement. -/
theorem fnExactRatMax_holds : Rows.FnExactRatMaxSaid :=
  OpenClaim.holds_of_wide 16 Try.f16 rfl rfl rfl rfl rfl rfl rfl ⟨rfl, rfl, rfl, rfl, rfl⟩ rfl rfl rfl rfl rfl (by kernel_rfl) Try.func16 closedRatMax
    (of_decide_eq_true (by kernel_rfl)) (by unfold Func.isWrapper; first | (rw [if_pos (by decide +kernel)]; kernel_rfl) | (rw [if_neg (by decide +kernel)]; exact ⟨rfl, rfl⟩))
    (fun os started H enc _ => liftedRatMax os started H enc)
end Go.Proofs.Ytnkeenejcpkelaa
