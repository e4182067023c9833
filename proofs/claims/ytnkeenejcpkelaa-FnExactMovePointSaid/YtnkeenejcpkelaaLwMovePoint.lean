import Derived.Test.YtnkeenejcpkelaaArgs
import Derived.Deep.DeepCutAuto
import Derived.Deep.RegionHeld3
import Derived.Deep.DrawnRows
import Derived.Test.YtnkeenejcpkelaaBoxes
import Derived.Test.YtnkeenejcpkelaaPointLaw
import Derived.Test.YtnkeenejcpkelaaPtMove
import Derived.Test.YtnkeenejcpkelaaRatArgs
import Derived.Test.YtnkeenejcpkelaaVec
import Derived.Test.YtnkeenejcpkelaaWq
/-
  The law FnExactMovePoint: the program's function and the reference's return the same, the arguments are left as they were, and the result is memory of its own.
-/
namespace Go.Proofs.Ytnkeenejcpkelaa
set_option linter.unusedVariables false
open Go.ChangeShapes Go.WideShapes Go.ChangeAt Go.RowKit
open Go.ChangeMaps (open_string shut_string)
attribute [local go_sem ↓] Go.wp_at_zero Go.wp_at_succ
set_option maxRecDepth 100000 in
set_option maxHeartbeats 8000000 in
theorem walkMovePoint (v0_0 : Bool) (A0_1 : Option Addr) (n0_1 c0_1 : Nat) (f0_1 : Nat → Int) (A0_2 : Option Addr) (n0_2 c0_2 : Nat) (f0_2 : Nat → Int) (v0_3 : Bool) (A0_4 : Option Addr) (n0_4 c0_4 : Nat) (f0_4 : Nat → Int) (A0_5 : Option Addr) (n0_5 c0_5 : Nat) (f0_5 : Nat → Int) (a1_0 : Int) (a1_1 : Int) (w : World) (h0_1 : Rd w A0_1 n0_1 c0_1 f0_1) (h0_2 : Rd w A0_2 n0_2 c0_2 f0_2) (h0_4 : Rd w A0_4 n0_4 c0_4 f0_4) (h0_5 : Rd w A0_5 n0_5 c0_5 f0_5) (b1_0 : -9223372036854775808 ≤ a1_0 ∧ a1_0 ≤ 9223372036854775807) (b1_1 : -9223372036854775808 ≤ a1_1 ∧ a1_1 ≤ 9223372036854775807) (hm0_1 : n0_1 ≤ 9223372036854775807) (hm0_2 : n0_2 ≤ 9223372036854775807) (hm0_4 : n0_4 ≤ 9223372036854775807) (hm0_5 : n0_5 ≤ 9223372036854775807) :
    Calls Try.prog 22 #[.agg #[.bool v0_0, .slice A0_1 n0_1 c0_1, .slice A0_2 n0_2 c0_2, .bool v0_3, .slice A0_4 n0_4 c0_4, .slice A0_5 n0_5 c0_5], .agg #[.int .i64 a1_0, .int .i64 a1_1]] w fun e w' => e = .returned (.bool true) ∧ Old w w' := by
  have NV := vMovePoint_norm v0_0 n0_1 f0_1 n0_2 f0_2 v0_3 n0_4 f0_4 n0_5 f0_5 a1_0 a1_1
  obtain ⟨Z1, D1, Z2, D2, hV0⟩ : ∃ z d z' d', vMovePoint v0_0 n0_1 f0_1 n0_2 f0_2 v0_3 n0_4 f0_4 n0_5 f0_5 a1_0 a1_1 = ((z, d), (z', d')) := ⟨_, _, _, _, rfl⟩
  rw [hV0] at NV
  have HV0 := Lib.hid hV0
  have NL1 := norm_len NV.1
  have NL2 := norm_len NV.2
  simp only at NL1 NL2
  have L_0_1 : Num.len (magZ Z1) ≤ 1048576 := by omega
  have L_0_2 : Num.len D1 ≤ 1048576 := by omega
  have L_0_4 : Num.len (magZ Z2) ≤ 1048576 := by omega
  have L_0_5 : Num.len D2 ≤ 1048576 := by omega
  clear NV NL1 NL2 hV0
  have O := Old.refl w
  go_enter Try.func22, Try.ntmps22
  go_wp2_with fail
  by_cases hs0 : (n0_1 : Int) + (n0_2 : Int) + (n0_4 : Int) + (n0_5 : Int) ≤ 1048576
  case neg =>
    refine (szPoint_no _ _ _ _ _ _ _ _ _ _ _ _ _ _ _ _ hm0_1 hm0_2 hm0_4 hm0_5 (by omega) (by omega) hs0).mono ?_
    rintro e w1 ⟨rfl, o1⟩
    go_wp2
    go_ret
    exact ⟨rfl, Old.trans O (Below.trans (b := _) oldB (Below.mono o1 (by simp <;> omega)))⟩
  have hn0_1 : n0_1 ≤ 1048576 := by omega
  have hn0_2 : n0_2 ≤ 1048576 := by omega
  have hn0_4 : n0_4 ≤ 1048576 := by omega
  have hn0_5 : n0_5 ≤ 1048576 := by omega
  refine (szPoint_yes _ _ _ _ _ _ _ _ _ _ _ _ _ _ _ _ hm0_1 hm0_2 hm0_4 hm0_5 (by omega) (by omega) hs0).mono ?_
  rintro e w1 ⟨rfl, o1⟩
  have B_aP : Bx w1 w.heap.size #[.bool v0_0, .slice A0_1 n0_1 c0_1, .slice A0_2 n0_2 c0_2, .bool v0_3, .slice A0_4 n0_4 c0_4, .slice A0_5 n0_5 c0_5] := Bx.old (Bx.alloc (Bx.new _ _ _) _) o1
  have B_aV : Bx w1 (w.heap.size + 1) #[.int .i64 a1_0, .int .i64 a1_1] := by have h := Bx.old (Bx.new _ _ _) o1; simpa using h
  have zb1 := B_aV.lt
  replace o1 : Old w w1 := Below.trans (b := _) oldB (Below.mono o1 (by simp <;> omega))
  replace O := Old.trans O o1
  have z1 := o1.size
  clear o1
  have hl0 : ¬ 1048576 - (n0_1 : Int) - (n0_2 : Int) - (n0_4 : Int) - (n0_5 : Int) < 0 := by omega
  have q_aP_0 := B_aP.cell 0 rfl
  have q_aP_1 := B_aP.cell 1 rfl
  have q_aP_2 := B_aP.cell 2 rfl
  have q_aP_3 := B_aP.cell 3 rfl
  have q_aP_4 := B_aP.cell 4 rfl
  have q_aP_5 := B_aP.cell 5 rfl
  have q_aP := B_aP.lt
  have q_aV_0 := B_aV.cell 0 rfl
  have q_aV_1 := B_aV.cell 1 rfl
  have q_aV := B_aV.lt
  have new1_aP : ¬ (w1.heap.size = w.heap.size) := (by omega)
  have enw1_aP : ¬ (w.heap.size = w1.heap.size) := (by omega)
  have new1_aV : ¬ (w1.heap.size = w.heap.size + 1) := (by omega)
  have enw1_aV : ¬ (w.heap.size + 1 = w1.heap.size) := (by omega)
  go_upto_region 5 with fail
  go_cut [6] (fun sl wx => ∃ (g : Nat) (A1 : Option Addr) (c1 : Nat) (A2 : Option Addr) (c2 : Nat) (A4 : Option Addr) (c4 : Nat) (A5 : Option Addr) (c5 : Nat), sl = .pointer (some ⟨g, 0, none⟩) ∧ w1.heap.size ≤ g ∧ Bx wx g #[.bool (sgnZ Z1), .slice A1 (Num.len (magZ Z1)) c1, .slice A2 (Num.len D1) c2, .bool (sgnZ Z2), .slice A4 (Num.len (magZ Z2)) c4, .slice A5 (Num.len D2) c5] ∧ Row wx w1.heap.size A1 (Num.len (magZ Z1)) c1 (digI (magZ Z1)) ∧ Row wx w1.heap.size A2 (Num.len D1) c2 (digI D1) ∧ Row wx w1.heap.size A4 (Num.len (magZ Z2)) c4 (digI (magZ Z2)) ∧ Row wx w1.heap.size A5 (Num.len D2) c5 (digI D2) ∧ (Apart A1 (Num.len (magZ Z1)) A2 (Num.len D1) ∧ Apart A1 (Num.len (magZ Z1)) A4 (Num.len (magZ Z2)) ∧ Apart A1 (Num.len (magZ Z1)) A5 (Num.len D2) ∧ Apart A2 (Num.len D1) A4 (Num.len (magZ Z2)) ∧ Apart A2 (Num.len D1) A5 (Num.len D2) ∧ Apart A4 (Num.len (magZ Z2)) A5 (Num.len D2)) ∧ Old w1 wx)
  case first =>
    go_region_held3 (fun w' => w'.cell? ⟨w.heap.size, 0, none⟩ = some (.bool v0_0) ∧ w'.cell? ⟨w.heap.size, 1, none⟩ = some (.slice A0_1 n0_1 c0_1) ∧ w'.cell? ⟨w.heap.size, 2, none⟩ = some (.slice A0_2 n0_2 c0_2) ∧ w'.cell? ⟨w.heap.size, 3, none⟩ = some (.bool v0_3) ∧ w'.cell? ⟨w.heap.size, 4, none⟩ = some (.slice A0_4 n0_4 c0_4) ∧ w'.cell? ⟨w.heap.size, 5, none⟩ = some (.slice A0_5 n0_5 c0_5) ∧ w'.cell? ⟨w.heap.size + 1, 0, none⟩ = some (.int .i64 a1_0) ∧ w'.cell? ⟨w.heap.size + 1, 1, none⟩ = some (.int .i64 a1_1)) (go_keep)
      (first
      | (go_at_call 31; (with_reducible refine (toPoint_any v0_0 A0_1 n0_1 c0_1 f0_1 A0_2 n0_2 c0_2 f0_2 v0_3 A0_4 n0_4 c0_4 f0_4 A0_5 n0_5 c0_5 f0_5 _ (h0_1.below (B := w.heap.size) (Below.trans (b := w1) O oldB) (Nat.le_refl _)) (h0_2.below (B := w.heap.size) (Below.trans (b := w1) O oldB) (Nat.le_refl _)) (h0_4.below (B := w.heap.size) (Below.trans (b := w1) O oldB) (Nat.le_refl _)) (h0_5.below (B := w.heap.size) (Below.trans (b := w1) O oldB) (Nat.le_refl _)) hn0_1 hn0_2 hn0_4 hn0_5).mono ?_); rintro e t1 ⟨A_t1_1, A_t1_2, A_t1_4, A_t1_5, rfl, R_t1_1, R_t1_2, R_t1_4, R_t1_5, ap_t1, o_t1⟩; (first | (clear qE0 qE1 qE2 qE3 qE4 qE5 fE0 fE1 fE2 fE3 fE4 fE5 qE) | skip); (first | (have E0 := Bx.old (Bx.new _ _ _) o_t1; have E : Bx t1 w1.heap.size #[.bool false, .slice none 0 0, .slice none 0 0, .bool false, .slice none 0 0, .slice none 0 0] := E0; clear E0; have hE := E.lt) | (have E0 := Bx.old (Bx.drew (Bx.new _ _ _)) o_t1; have E : Bx t1 w1.heap.size #[.bool false, .slice none 0 0, .slice none 0 0, .bool false, .slice none 0 0, .slice none 0 0] := E0; clear E0; have hE := E.lt) | (replace E := Bx.old E o_t1) | skip); replace o_t1 : Old w1 t1 := Below.trans (b := _) oldB (Below.mono o_t1 leA); have z_t1 := o_t1.size; have O_t1 := Old.trans O o_t1; clear q_aP_0 q_aP_1 q_aP_2 q_aP_3 q_aP_4 q_aP_5 q_aP q_aV_0 q_aV_1 q_aV; have D1_aP := B_aP.old o_t1; have q_aP_0 := D1_aP.cell 0 rfl; have q_aP_1 := D1_aP.cell 1 rfl; have q_aP_2 := D1_aP.cell 2 rfl; have q_aP_3 := D1_aP.cell 3 rfl; have q_aP_4 := D1_aP.cell 4 rfl; have q_aP_5 := D1_aP.cell 5 rfl; have q_aP := D1_aP.lt; have D1_aV := B_aV.old o_t1; have q_aV_0 := D1_aV.cell 0 rfl; have q_aV_1 := D1_aV.cell 1 rfl; have q_aV := D1_aV.lt; have net1_aP : ¬ (t1.heap.size = w.heap.size) := (by omega); have ent1_aP : ¬ (w.heap.size = t1.heap.size) := (by omega); have net1_aV : ¬ (t1.heap.size = w.heap.size + 1) := (by omega); have ent1_aV : ¬ (w.heap.size + 1 = t1.heap.size) := (by omega); (first | (have qE0 := E.cell 0 rfl; have qE1 := E.cell 1 rfl; have qE2 := E.cell 2 rfl; have qE3 := E.cell 3 rfl; have qE4 := E.cell 4 rfl; have qE5 := E.cell 5 rfl; have fE0 := E.frozen 0; have fE1 := E.frozen 1; have fE2 := E.frozen 2; have fE3 := E.frozen 3; have fE4 := E.frozen 4; have fE5 := E.frozen 5; have qE := E.lt) | skip))
      | (go_at_call 39; (with_reducible refine (toVec_any a1_0 a1_1 _  ).mono ?_); rintro e t2 ⟨rfl, o_t2⟩; (first | (clear qE0 qE1 qE2 qE3 qE4 qE5 fE0 fE1 fE2 fE3 fE4 fE5 qE) | skip); (first | (have E0 := Bx.old (Bx.new _ _ _) o_t2; have E : Bx t2 t1.heap.size #[.bool false, .slice none 0 0, .slice none 0 0, .bool false, .slice none 0 0, .slice none 0 0] := E0; clear E0; have hE := E.lt) | (have E0 := Bx.old (Bx.drew (Bx.new _ _ _)) o_t2; have E : Bx t2 t1.heap.size #[.bool false, .slice none 0 0, .slice none 0 0, .bool false, .slice none 0 0, .slice none 0 0] := E0; clear E0; have hE := E.lt) | (replace E := Bx.old E o_t2) | skip); replace o_t2 : Old t1 t2 := Below.trans (b := _) oldB (Below.mono o_t2 leA); have z_t2 := o_t2.size; have O_t2 := Old.trans O_t1 o_t2; clear q_aP_0 q_aP_1 q_aP_2 q_aP_3 q_aP_4 q_aP_5 q_aP q_aV_0 q_aV_1 q_aV; have D2_aP := D1_aP.old o_t2; have q_aP_0 := D2_aP.cell 0 rfl; have q_aP_1 := D2_aP.cell 1 rfl; have q_aP_2 := D2_aP.cell 2 rfl; have q_aP_3 := D2_aP.cell 3 rfl; have q_aP_4 := D2_aP.cell 4 rfl; have q_aP_5 := D2_aP.cell 5 rfl; have q_aP := D2_aP.lt; have D2_aV := D1_aV.old o_t2; have q_aV_0 := D2_aV.cell 0 rfl; have q_aV_1 := D2_aV.cell 1 rfl; have q_aV := D2_aV.lt; have net2_aP : ¬ (t2.heap.size = w.heap.size) := (by omega); have ent2_aP : ¬ (w.heap.size = t2.heap.size) := (by omega); have net2_aV : ¬ (t2.heap.size = w.heap.size + 1) := (by omega); have ent2_aV : ¬ (w.heap.size + 1 = t2.heap.size) := (by omega); replace R_t1_1 := Row.below R_t1_1 o_t2 (Nat.le_refl _); replace R_t1_2 := Row.below R_t1_2 o_t2 (Nat.le_refl _); replace R_t1_4 := Row.below R_t1_4 o_t2 (Nat.le_refl _); replace R_t1_5 := Row.below R_t1_5 o_t2 (Nat.le_refl _); (first | (have qE0 := E.cell 0 rfl; have qE1 := E.cell 1 rfl; have qE2 := E.cell 2 rfl; have qE3 := E.cell 3 rfl; have qE4 := E.cell 4 rfl; have qE5 := E.cell 5 rfl; have fE0 := E.frozen 0; have fE1 := E.frozen 1; have fE2 := E.frozen 2; have fE3 := E.frozen 3; have fE4 := E.frozen 4; have fE5 := E.frozen 5; have qE := E.lt) | skip))
      | (go_at_call 77; refine (spec_MovePoint a1_0 a1_1 _ _ _ _ _ _ _ _ _ _ _ _ _ _ _ _ _ _ _ _ _ _ _ b1_0 b1_1 (Row.below (B := t2.heap.size) R_t1_1 oldB (Nat.le_refl _)) (Row.below (B := t2.heap.size) R_t1_2 oldB (Nat.le_refl _)) (Row.below (B := t2.heap.size) R_t1_4 oldB (Nat.le_refl _)) (Row.below (B := t2.heap.size) R_t1_5 oldB (Nat.le_refl _)) hn0_1 hn0_2 hn0_4 hn0_5).mono ?_; rintro e tf ⟨⟨x0, x1, x2, x3, A_f_1, c_f_1, A_f_2, c_f_2, A_f_4, c_f_4, A_f_5, c_f_5, hv, he, R_f_1, R_f_2, R_f_4, R_f_5, ap_f⟩, o_f⟩; rw [HV0.out] at hv; obtain ⟨hv1, hv2⟩ := Prod.mk.inj hv; obtain ⟨rfl, rfl⟩ := Prod.mk.inj hv1; obtain ⟨rfl, rfl⟩ := Prod.mk.inj hv2; subst he; clear hv; (first | (clear qE0 qE1 qE2 qE3 qE4 qE5 fE0 fE1 fE2 fE3 fE4 fE5 qE) | skip); (first | (have E0 := Bx.old (Bx.new _ _ _) o_f; have E : Bx tf t2.heap.size #[.bool false, .slice none 0 0, .slice none 0 0, .bool false, .slice none 0 0, .slice none 0 0] := E0; clear E0; have hE := E.lt) | (have E0 := Bx.old (Bx.drew (Bx.new _ _ _)) o_f; have E : Bx tf t2.heap.size #[.bool false, .slice none 0 0, .slice none 0 0, .bool false, .slice none 0 0, .slice none 0 0] := E0; clear E0; have hE := E.lt) | (replace E := Bx.old E o_f) | skip); replace o_f : Old t2 tf := Below.trans (b := _) oldB (Below.mono o_f leA); have z_f := o_f.size; have O_f := Old.trans O_t2 o_f; clear q_aP_0 q_aP_1 q_aP_2 q_aP_3 q_aP_4 q_aP_5 q_aP q_aV_0 q_aV_1 q_aV; have DF_aP := D2_aP.old o_f; have q_aP_0 := DF_aP.cell 0 rfl; have q_aP_1 := DF_aP.cell 1 rfl; have q_aP_2 := DF_aP.cell 2 rfl; have q_aP_3 := DF_aP.cell 3 rfl; have q_aP_4 := DF_aP.cell 4 rfl; have q_aP_5 := DF_aP.cell 5 rfl; have q_aP := DF_aP.lt; have DF_aV := D2_aV.old o_f; have q_aV_0 := DF_aV.cell 0 rfl; have q_aV_1 := DF_aV.cell 1 rfl; have q_aV := DF_aV.lt; have netf_aP : ¬ (tf.heap.size = w.heap.size) := (by omega); have entf_aP : ¬ (w.heap.size = tf.heap.size) := (by omega); have netf_aV : ¬ (tf.heap.size = w.heap.size + 1) := (by omega); have entf_aV : ¬ (w.heap.size + 1 = tf.heap.size) := (by omega); (first | (have qE0 := E.cell 0 rfl; have qE1 := E.cell 1 rfl; have qE2 := E.cell 2 rfl; have qE3 := E.cell 3 rfl; have qE4 := E.cell 4 rfl; have qE5 := E.cell 5 rfl; have fE0 := E.frozen 0; have fE1 := E.frozen 1; have fE2 := E.frozen 2; have fE3 := E.frozen 3; have fE4 := E.frozen 4; have fE5 := E.frozen 5; have qE := E.lt) | skip)))
    all_goals (go_wp2_with fail; go_meet; exact ⟨_, _, _, _, _, _, _, _, _, rfl, leA, (by first | (with_reducible exact Bx.new _ _ _) | (with_reducible exact Bx.put6 E _ _ _ _ _ _) | (with_reducible exact Bx.put6 (Bx.new _ _ _) _ _ _ _ _ _)), (by first | (with_reducible exact Row.more (Row.far_set (Row.far_set (Row.far_set (Row.far_set (Row.far_set (Row.far_set R_f_1 (by first | (simp <;> done) | (simp; omega) | omega) _) (by first | (simp <;> done) | (simp; omega) | omega) _) (by first | (simp <;> done) | (simp; omega) | omega) _) (by first | (simp <;> done) | (simp; omega) | omega) _) (by first | (simp <;> done) | (simp; omega) | omega) _) (by first | (simp <;> done) | (simp; omega) | omega) _) leA) | (with_reducible exact Row.more (Row.below (B := tf.heap.size) R_f_1 oldB (Nat.le_refl _)) leA)), (by first | (with_reducible exact Row.more (Row.far_set (Row.far_set (Row.far_set (Row.far_set (Row.far_set (Row.far_set R_f_2 (by first | (simp <;> done) | (simp; omega) | omega) _) (by first | (simp <;> done) | (simp; omega) | omega) _) (by first | (simp <;> done) | (simp; omega) | omega) _) (by first | (simp <;> done) | (simp; omega) | omega) _) (by first | (simp <;> done) | (simp; omega) | omega) _) (by first | (simp <;> done) | (simp; omega) | omega) _) leA) | (with_reducible exact Row.more (Row.below (B := tf.heap.size) R_f_2 oldB (Nat.le_refl _)) leA)), (by first | (with_reducible exact Row.more (Row.far_set (Row.far_set (Row.far_set (Row.far_set (Row.far_set (Row.far_set R_f_4 (by first | (simp <;> done) | (simp; omega) | omega) _) (by first | (simp <;> done) | (simp; omega) | omega) _) (by first | (simp <;> done) | (simp; omega) | omega) _) (by first | (simp <;> done) | (simp; omega) | omega) _) (by first | (simp <;> done) | (simp; omega) | omega) _) (by first | (simp <;> done) | (simp; omega) | omega) _) leA) | (with_reducible exact Row.more (Row.below (B := tf.heap.size) R_f_4 oldB (Nat.le_refl _)) leA)), (by first | (with_reducible exact Row.more (Row.far_set (Row.far_set (Row.far_set (Row.far_set (Row.far_set (Row.far_set R_f_5 (by first | (simp <;> done) | (simp; omega) | omega) _) (by first | (simp <;> done) | (simp; omega) | omega) _) (by first | (simp <;> done) | (simp; omega) | omega) _) (by first | (simp <;> done) | (simp; omega) | omega) _) (by first | (simp <;> done) | (simp; omega) | omega) _) (by first | (simp <;> done) | (simp; omega) | omega) _) leA) | (with_reducible exact Row.more (Row.below (B := tf.heap.size) R_f_5 oldB (Nat.le_refl _)) leA)), ap_f, (Below.trans (b := tf) (Old.trans (Old.trans o_t1 o_t2) o_f) oldB)⟩)
  case rest =>
  obtain ⟨g_w0, A_w0_1, c_w0_1, A_w0_2, c_w0_2, A_w0_4, c_w0_4, A_w0_5, c_w0_5, rfl, hg_w0, B_w0, R_w0_1, R_w0_2, R_w0_4, R_w0_5, ap_w0, o2⟩ := hcut
  obtain ⟨w2, hw⟩ : ∃ x, x = wc := ⟨_, rfl⟩
  subst hw
  clear q_aP_0 q_aP_1 q_aP_2 q_aP_3 q_aP_4 q_aP_5 q_aP q_aV_0 q_aV_1 q_aV
  clear new1_aP enw1_aP new1_aV enw1_aV
  replace B_aP := B_aP.old o2
  replace B_aV := B_aV.old o2
  replace O := Old.trans O o2
  have z2 := o2.size
  clear o2
  have lim_w0_1 := R_w0_1.lim
  have low_w0_1 := Low.mono (lo' := w1.heap.size + 0) R_w0_1.low (by first | exact Nat.le_refl _ | (simp <;> omega))
  have lim_w0_2 := R_w0_2.lim
  have low_w0_2 := Low.mono (lo' := w1.heap.size + 0) R_w0_2.low (by first | exact Nat.le_refl _ | (simp <;> omega))
  have lim_w0_4 := R_w0_4.lim
  have low_w0_4 := Low.mono (lo' := w1.heap.size + 0) R_w0_4.low (by first | exact Nat.le_refl _ | (simp <;> omega))
  have lim_w0_5 := R_w0_5.lim
  have low_w0_5 := Low.mono (lo' := w1.heap.size + 0) R_w0_5.low (by first | exact Nat.le_refl _ | (simp <;> omega))
  have lt_w0 := B_w0.lt
  have off_w0_1 := Row.off R_w0_1 B_w0 (no_int6 _ _ _ _ _ _ _ _ _ _ _ _ _ _)
  have off_w0_2 := Row.off R_w0_2 B_w0 (no_int6 _ _ _ _ _ _ _ _ _ _ _ _ _ _)
  have off_w0_4 := Row.off R_w0_4 B_w0 (no_int6 _ _ _ _ _ _ _ _ _ _ _ _ _ _)
  have off_w0_5 := Row.off R_w0_5 B_w0 (no_int6 _ _ _ _ _ _ _ _ _ _ _ _ _ _)
  have q_aP_0 := B_aP.cell 0 rfl
  have q_aP_1 := B_aP.cell 1 rfl
  have q_aP_2 := B_aP.cell 2 rfl
  have q_aP_3 := B_aP.cell 3 rfl
  have q_aP_4 := B_aP.cell 4 rfl
  have q_aP_5 := B_aP.cell 5 rfl
  have q_aP := B_aP.lt
  go_wp2_with fail
  refine (toPoint_any _ _ _ _ _ _ _ _ _ _ _ _ _ _ _ _ _ _ _ (h0_1.below (B := w.heap.size) (Below.trans (b := w2) O oldB) (Nat.le_refl _)) (h0_2.below (B := w.heap.size) (Below.trans (b := w2) O oldB) (Nat.le_refl _)) (h0_4.below (B := w.heap.size) (Below.trans (b := w2) O oldB) (Nat.le_refl _)) (h0_5.below (B := w.heap.size) (Below.trans (b := w2) O oldB) (Nat.le_refl _)) hn0_1 hn0_2 hn0_4 hn0_5).mono ?_
  rintro e w3 ⟨A_t1_1, A_t1_2, A_t1_4, A_t1_5, rfl, R_t1_1, R_t1_2, R_t1_4, R_t1_5, ap_t1, o3⟩
  clear q_aP_0 q_aP_1 q_aP_2 q_aP_3 q_aP_4 q_aP_5 q_aP
  replace B_aP := B_aP.old o3
  replace B_aV := B_aV.old o3
  replace B_w0 := B_w0.old o3
  replace R_w0_1 := Row.below R_w0_1 o3 (Nat.le_refl _)
  replace R_w0_2 := Row.below R_w0_2 o3 (Nat.le_refl _)
  replace R_w0_4 := Row.below R_w0_4 o3 (Nat.le_refl _)
  replace R_w0_5 := Row.below R_w0_5 o3 (Nat.le_refl _)
  replace O := Old.trans O o3
  have z3 := o3.size
  clear o3
  have lim_t1_1 := R_t1_1.lim
  have low_t1_1 := Low.mono (lo' := w2.heap.size + 0) R_t1_1.low (by first | exact Nat.le_refl _ | (simp <;> omega))
  have lim_t1_2 := R_t1_2.lim
  have low_t1_2 := Low.mono (lo' := w2.heap.size + 0) R_t1_2.low (by first | exact Nat.le_refl _ | (simp <;> omega))
  have lim_t1_4 := R_t1_4.lim
  have low_t1_4 := Low.mono (lo' := w2.heap.size + 0) R_t1_4.low (by first | exact Nat.le_refl _ | (simp <;> omega))
  have lim_t1_5 := R_t1_5.lim
  have low_t1_5 := Low.mono (lo' := w2.heap.size + 0) R_t1_5.low (by first | exact Nat.le_refl _ | (simp <;> omega))
  go_upto_region 7 with fail
  obtain ⟨w4, hw⟩ : ∃ x, x = (w3.alloc (.cells #[.bool v0_0, .slice A_t1_1 n0_1 n0_1, .slice A_t1_2 n0_2 n0_2, .bool v0_3, .slice A_t1_4 n0_4 n0_4, .slice A_t1_5 n0_5 n0_5] 39)) := ⟨_, rfl⟩
  have o4 : Old (w3.alloc (.cells #[.bool v0_0, .slice A_t1_1 n0_1 n0_1, .slice A_t1_2 n0_2 n0_2, .bool v0_3, .slice A_t1_4 n0_4 n0_4, .slice A_t1_5 n0_5 n0_5] 39)) w4 := (by rw [hw]; exact Old.refl _)
  rw [← hw]
  clear hw
  have B_t1 : Bx w4 w3.heap.size #[.bool v0_0, .slice A_t1_1 n0_1 n0_1, .slice A_t1_2 n0_2 n0_2, .bool v0_3, .slice A_t1_4 n0_4 n0_4, .slice A_t1_5 n0_5 n0_5] := Bx.old (Bx.new _ _ _) o4
  have zb4 := B_t1.lt
  replace o4 : Old w3 w4 := Below.trans (b := _) oldB (Below.mono o4 (by simp <;> omega))
  replace B_aP := B_aP.old o4
  replace B_aV := B_aV.old o4
  replace B_w0 := B_w0.old o4
  replace R_w0_1 := Row.below R_w0_1 o4 (Nat.le_refl _)
  replace R_w0_2 := Row.below R_w0_2 o4 (Nat.le_refl _)
  replace R_w0_4 := Row.below R_w0_4 o4 (Nat.le_refl _)
  replace R_w0_5 := Row.below R_w0_5 o4 (Nat.le_refl _)
  replace R_t1_1 := Row.below R_t1_1 o4 (Nat.le_refl _)
  replace R_t1_2 := Row.below R_t1_2 o4 (Nat.le_refl _)
  replace R_t1_4 := Row.below R_t1_4 o4 (Nat.le_refl _)
  replace R_t1_5 := Row.below R_t1_5 o4 (Nat.le_refl _)
  replace O := Old.trans O o4
  have z4 := o4.size
  clear o4
  have q_aV_0 := B_aV.cell 0 rfl
  have q_aV_1 := B_aV.cell 1 rfl
  have q_aV := B_aV.lt
  have q_t1_0 := B_t1.cell 0 rfl
  have q_t1_1 := B_t1.cell 1 rfl
  have q_t1_2 := B_t1.cell 2 rfl
  have q_t1_3 := B_t1.cell 3 rfl
  have q_t1_4 := B_t1.cell 4 rfl
  have q_t1_5 := B_t1.cell 5 rfl
  have q_t1 := B_t1.lt
  have new4_aV : ¬ (w4.heap.size = w.heap.size + 1) := (by omega)
  have enw4_aV : ¬ (w.heap.size + 1 = w4.heap.size) := (by omega)
  have new4_t1 : ¬ (w4.heap.size = w3.heap.size) := (by omega)
  have enw4_t1 : ¬ (w3.heap.size = w4.heap.size) := (by omega)
  go_cut [8] (fun sl wx => ∃ (g : Nat) (A1 : Option Addr) (c1 : Nat) (A2 : Option Addr) (c2 : Nat) (A4 : Option Addr) (c4 : Nat) (A5 : Option Addr) (c5 : Nat), sl = .pointer (some ⟨g, 0, none⟩) ∧ w4.heap.size ≤ g ∧ Bx wx g #[.bool (sgnZ Z1), .slice A1 (Num.len (magZ Z1)) c1, .slice A2 (Num.len D1) c2, .bool (sgnZ Z2), .slice A4 (Num.len (magZ Z2)) c4, .slice A5 (Num.len D2) c5] ∧ Row wx w4.heap.size A1 (Num.len (magZ Z1)) c1 (digI (magZ Z1)) ∧ Row wx w4.heap.size A2 (Num.len D1) c2 (digI D1) ∧ Row wx w4.heap.size A4 (Num.len (magZ Z2)) c4 (digI (magZ Z2)) ∧ Row wx w4.heap.size A5 (Num.len D2) c5 (digI D2) ∧ (Apart A1 (Num.len (magZ Z1)) A2 (Num.len D1) ∧ Apart A1 (Num.len (magZ Z1)) A4 (Num.len (magZ Z2)) ∧ Apart A1 (Num.len (magZ Z1)) A5 (Num.len D2) ∧ Apart A2 (Num.len D1) A4 (Num.len (magZ Z2)) ∧ Apart A2 (Num.len D1) A5 (Num.len D2) ∧ Apart A4 (Num.len (magZ Z2)) A5 (Num.len D2)) ∧ Old w4 wx)
  case first =>
    go_region_held3 (fun w' => w'.cell? ⟨w.heap.size + 1, 0, none⟩ = some (.int .i64 a1_0) ∧ w'.cell? ⟨w.heap.size + 1, 1, none⟩ = some (.int .i64 a1_1) ∧ w'.cell? ⟨w3.heap.size, 0, none⟩ = some (.bool v0_0) ∧ w'.cell? ⟨w3.heap.size, 1, none⟩ = some (.slice A_t1_1 n0_1 n0_1) ∧ w'.cell? ⟨w3.heap.size, 2, none⟩ = some (.slice A_t1_2 n0_2 n0_2) ∧ w'.cell? ⟨w3.heap.size, 3, none⟩ = some (.bool v0_3) ∧ w'.cell? ⟨w3.heap.size, 4, none⟩ = some (.slice A_t1_4 n0_4 n0_4) ∧ w'.cell? ⟨w3.heap.size, 5, none⟩ = some (.slice A_t1_5 n0_5 n0_5)) (go_keep)
      (first
      | (go_at_call 39; (with_reducible refine (toVec_any a1_0 a1_1 _  ).mono ?_); rintro e t1 ⟨rfl, o_t1⟩; (first | (clear qE0 qE1 qE2 qE3 qE4 qE5 fE0 fE1 fE2 fE3 fE4 fE5 qE) | skip); (first | (have E0 := Bx.old (Bx.new _ _ _) o_t1; have E : Bx t1 w4.heap.size #[.bool false, .slice none 0 0, .slice none 0 0, .bool false, .slice none 0 0, .slice none 0 0] := E0; clear E0; have hE := E.lt) | (have E0 := Bx.old (Bx.drew (Bx.new _ _ _)) o_t1; have E : Bx t1 w4.heap.size #[.bool false, .slice none 0 0, .slice none 0 0, .bool false, .slice none 0 0, .slice none 0 0] := E0; clear E0; have hE := E.lt) | (replace E := Bx.old E o_t1) | skip); replace o_t1 : Old w4 t1 := Below.trans (b := _) oldB (Below.mono o_t1 leA); have z_t1 := o_t1.size; have O_t1 := Old.trans O o_t1; clear q_aV_0 q_aV_1 q_aV q_t1_0 q_t1_1 q_t1_2 q_t1_3 q_t1_4 q_t1_5 q_t1; have D1_aV := B_aV.old o_t1; have q_aV_0 := D1_aV.cell 0 rfl; have q_aV_1 := D1_aV.cell 1 rfl; have q_aV := D1_aV.lt; have D1_t1 := B_t1.old o_t1; have q_t1_0 := D1_t1.cell 0 rfl; have q_t1_1 := D1_t1.cell 1 rfl; have q_t1_2 := D1_t1.cell 2 rfl; have q_t1_3 := D1_t1.cell 3 rfl; have q_t1_4 := D1_t1.cell 4 rfl; have q_t1_5 := D1_t1.cell 5 rfl; have q_t1 := D1_t1.lt; have net1_aV : ¬ (t1.heap.size = w.heap.size + 1) := (by omega); have ent1_aV : ¬ (w.heap.size + 1 = t1.heap.size) := (by omega); have net1_t1 : ¬ (t1.heap.size = w3.heap.size) := (by omega); have ent1_t1 : ¬ (w3.heap.size = t1.heap.size) := (by omega); (first | (have qE0 := E.cell 0 rfl; have qE1 := E.cell 1 rfl; have qE2 := E.cell 2 rfl; have qE3 := E.cell 3 rfl; have qE4 := E.cell 4 rfl; have qE5 := E.cell 5 rfl; have fE0 := E.frozen 0; have fE1 := E.frozen 1; have fE2 := E.frozen 2; have fE3 := E.frozen 3; have fE4 := E.frozen 4; have fE5 := E.frozen 5; have qE := E.lt) | skip))
      | (go_at_call 78; refine (impl_MovePoint a1_0 a1_1 _ _ _ _ _ _ _ _ _ _ _ _ _ _ _ _ _ _ _ _ _ _ _ b1_0 b1_1 (Row.below (B := t1.heap.size) (Row.below R_t1_1 o_t1 (Nat.le_refl _)) oldB (Nat.le_refl _)) (Row.below (B := t1.heap.size) (Row.below R_t1_2 o_t1 (Nat.le_refl _)) oldB (Nat.le_refl _)) (Row.below (B := t1.heap.size) (Row.below R_t1_4 o_t1 (Nat.le_refl _)) oldB (Nat.le_refl _)) (Row.below (B := t1.heap.size) (Row.below R_t1_5 o_t1 (Nat.le_refl _)) oldB (Nat.le_refl _)) hn0_1 hn0_2 hn0_4 hn0_5).mono ?_; rintro e tf ⟨⟨x0, x1, x2, x3, A_f_1, c_f_1, A_f_2, c_f_2, A_f_4, c_f_4, A_f_5, c_f_5, hv, he, R_f_1, R_f_2, R_f_4, R_f_5, ap_f⟩, o_f⟩; rw [HV0.out] at hv; obtain ⟨hv1, hv2⟩ := Prod.mk.inj hv; obtain ⟨rfl, rfl⟩ := Prod.mk.inj hv1; obtain ⟨rfl, rfl⟩ := Prod.mk.inj hv2; subst he; clear hv; (first | (clear qE0 qE1 qE2 qE3 qE4 qE5 fE0 fE1 fE2 fE3 fE4 fE5 qE) | skip); (first | (have E0 := Bx.old (Bx.new _ _ _) o_f; have E : Bx tf t1.heap.size #[.bool false, .slice none 0 0, .slice none 0 0, .bool false, .slice none 0 0, .slice none 0 0] := E0; clear E0; have hE := E.lt) | (have E0 := Bx.old (Bx.drew (Bx.new _ _ _)) o_f; have E : Bx tf t1.heap.size #[.bool false, .slice none 0 0, .slice none 0 0, .bool false, .slice none 0 0, .slice none 0 0] := E0; clear E0; have hE := E.lt) | (replace E := Bx.old E o_f) | skip); replace o_f : Old t1 tf := Below.trans (b := _) oldB (Below.mono o_f leA); have z_f := o_f.size; have O_f := Old.trans O_t1 o_f; clear q_aV_0 q_aV_1 q_aV q_t1_0 q_t1_1 q_t1_2 q_t1_3 q_t1_4 q_t1_5 q_t1; have DF_aV := D1_aV.old o_f; have q_aV_0 := DF_aV.cell 0 rfl; have q_aV_1 := DF_aV.cell 1 rfl; have q_aV := DF_aV.lt; have DF_t1 := D1_t1.old o_f; have q_t1_0 := DF_t1.cell 0 rfl; have q_t1_1 := DF_t1.cell 1 rfl; have q_t1_2 := DF_t1.cell 2 rfl; have q_t1_3 := DF_t1.cell 3 rfl; have q_t1_4 := DF_t1.cell 4 rfl; have q_t1_5 := DF_t1.cell 5 rfl; have q_t1 := DF_t1.lt; have netf_aV : ¬ (tf.heap.size = w.heap.size + 1) := (by omega); have entf_aV : ¬ (w.heap.size + 1 = tf.heap.size) := (by omega); have netf_t1 : ¬ (tf.heap.size = w3.heap.size) := (by omega); have entf_t1 : ¬ (w3.heap.size = tf.heap.size) := (by omega); (first | (have qE0 := E.cell 0 rfl; have qE1 := E.cell 1 rfl; have qE2 := E.cell 2 rfl; have qE3 := E.cell 3 rfl; have qE4 := E.cell 4 rfl; have qE5 := E.cell 5 rfl; have fE0 := E.frozen 0; have fE1 := E.frozen 1; have fE2 := E.frozen 2; have fE3 := E.frozen 3; have fE4 := E.frozen 4; have fE5 := E.frozen 5; have qE := E.lt) | skip)))
    all_goals (go_wp2_with fail; go_meet; exact ⟨_, _, _, _, _, _, _, _, _, rfl, leA, (by first | (with_reducible exact Bx.new _ _ _) | (with_reducible exact Bx.put6 E _ _ _ _ _ _) | (with_reducible exact Bx.put6 (Bx.new _ _ _) _ _ _ _ _ _)), (by first | (with_reducible exact Row.more (Row.far_set (Row.far_set (Row.far_set (Row.far_set (Row.far_set (Row.far_set R_f_1 (by first | (simp <;> done) | (simp; omega) | omega) _) (by first | (simp <;> done) | (simp; omega) | omega) _) (by first | (simp <;> done) | (simp; omega) | omega) _) (by first | (simp <;> done) | (simp; omega) | omega) _) (by first | (simp <;> done) | (simp; omega) | omega) _) (by first | (simp <;> done) | (simp; omega) | omega) _) leA) | (with_reducible exact Row.more (Row.below (B := tf.heap.size) R_f_1 oldB (Nat.le_refl _)) leA)), (by first | (with_reducible exact Row.more (Row.far_set (Row.far_set (Row.far_set (Row.far_set (Row.far_set (Row.far_set R_f_2 (by first | (simp <;> done) | (simp; omega) | omega) _) (by first | (simp <;> done) | (simp; omega) | omega) _) (by first | (simp <;> done) | (simp; omega) | omega) _) (by first | (simp <;> done) | (simp; omega) | omega) _) (by first | (simp <;> done) | (simp; omega) | omega) _) (by first | (simp <;> done) | (simp; omega) | omega) _) leA) | (with_reducible exact Row.more (Row.below (B := tf.heap.size) R_f_2 oldB (Nat.le_refl _)) leA)), (by first | (with_reducible exact Row.more (Row.far_set (Row.far_set (Row.far_set (Row.far_set (Row.far_set (Row.far_set R_f_4 (by first | (simp <;> done) | (simp; omega) | omega) _) (by first | (simp <;> done) | (simp; omega) | omega) _) (by first | (simp <;> done) | (simp; omega) | omega) _) (by first | (simp <;> done) | (simp; omega) | omega) _) (by first | (simp <;> done) | (simp; omega) | omega) _) (by first | (simp <;> done) | (simp; omega) | omega) _) leA) | (with_reducible exact Row.more (Row.below (B := tf.heap.size) R_f_4 oldB (Nat.le_refl _)) leA)), (by first | (with_reducible exact Row.more (Row.far_set (Row.far_set (Row.far_set (Row.far_set (Row.far_set (Row.far_set R_f_5 (by first | (simp <;> done) | (simp; omega) | omega) _) (by first | (simp <;> done) | (simp; omega) | omega) _) (by first | (simp <;> done) | (simp; omega) | omega) _) (by first | (simp <;> done) | (simp; omega) | omega) _) (by first | (simp <;> done) | (simp; omega) | omega) _) (by first | (simp <;> done) | (simp; omega) | omega) _) leA) | (with_reducible exact Row.more (Row.below (B := tf.heap.size) R_f_5 oldB (Nat.le_refl _)) leA)), ap_f, (Below.trans (b := tf) (Old.trans o_t1 o_f) oldB)⟩)
  case rest =>
  obtain ⟨g_g0, A_g0_1, c_g0_1, A_g0_2, c_g0_2, A_g0_4, c_g0_4, A_g0_5, c_g0_5, rfl, hg_g0, B_g0, R_g0_1, R_g0_2, R_g0_4, R_g0_5, ap_g0, o5⟩ := hcut
  obtain ⟨w5, hw⟩ : ∃ x, x = wc := ⟨_, rfl⟩
  subst hw
  clear q_aV_0 q_aV_1 q_aV q_t1_0 q_t1_1 q_t1_2 q_t1_3 q_t1_4 q_t1_5 q_t1
  clear new4_aV enw4_aV new4_t1 enw4_t1
  replace B_aP := B_aP.old o5
  replace B_aV := B_aV.old o5
  replace B_w0 := B_w0.old o5
  replace B_t1 := B_t1.old o5
  replace R_w0_1 := Row.below R_w0_1 o5 (Nat.le_refl _)
  replace R_w0_2 := Row.below R_w0_2 o5 (Nat.le_refl _)
  replace R_w0_4 := Row.below R_w0_4 o5 (Nat.le_refl _)
  replace R_w0_5 := Row.below R_w0_5 o5 (Nat.le_refl _)
  replace R_t1_1 := Row.below R_t1_1 o5 (Nat.le_refl _)
  replace R_t1_2 := Row.below R_t1_2 o5 (Nat.le_refl _)
  replace R_t1_4 := Row.below R_t1_4 o5 (Nat.le_refl _)
  replace R_t1_5 := Row.below R_t1_5 o5 (Nat.le_refl _)
  replace O := Old.trans O o5
  have z5 := o5.size
  clear o5
  have lim_g0_1 := R_g0_1.lim
  have low_g0_1 := Low.mono (lo' := w4.heap.size + 0) R_g0_1.low (by first | exact Nat.le_refl _ | (simp <;> omega))
  have lim_g0_2 := R_g0_2.lim
  have low_g0_2 := Low.mono (lo' := w4.heap.size + 0) R_g0_2.low (by first | exact Nat.le_refl _ | (simp <;> omega))
  have lim_g0_4 := R_g0_4.lim
  have low_g0_4 := Low.mono (lo' := w4.heap.size + 0) R_g0_4.low (by first | exact Nat.le_refl _ | (simp <;> omega))
  have lim_g0_5 := R_g0_5.lim
  have low_g0_5 := Low.mono (lo' := w4.heap.size + 0) R_g0_5.low (by first | exact Nat.le_refl _ | (simp <;> omega))
  have lt_g0 := B_g0.lt
  have off_g0_1 := Row.off R_g0_1 B_g0 (no_int6 _ _ _ _ _ _ _ _ _ _ _ _ _ _)
  have off_g0_2 := Row.off R_g0_2 B_g0 (no_int6 _ _ _ _ _ _ _ _ _ _ _ _ _ _)
  have off_g0_4 := Row.off R_g0_4 B_g0 (no_int6 _ _ _ _ _ _ _ _ _ _ _ _ _ _)
  have off_g0_5 := Row.off R_g0_5 B_g0 (no_int6 _ _ _ _ _ _ _ _ _ _ _ _ _ _)
  have q_w0_0 := B_w0.cell 0 rfl
  have q_w0_1 := B_w0.cell 1 rfl
  have q_w0_2 := B_w0.cell 2 rfl
  have q_w0_3 := B_w0.cell 3 rfl
  have q_w0_4 := B_w0.cell 4 rfl
  have q_w0_5 := B_w0.cell 5 rfl
  have q_w0 := B_w0.lt
  have q_g0_0 := B_g0.cell 0 rfl
  have q_g0_1 := B_g0.cell 1 rfl
  have q_g0_2 := B_g0.cell 2 rfl
  have q_g0_3 := B_g0.cell 3 rfl
  have q_g0_4 := B_g0.cell 4 rfl
  have q_g0_5 := B_g0.cell 5 rfl
  have q_g0 := B_g0.lt
  go_wp2_with fail
  refine (eqPoint_yes _ _ _ _ _ _ _ _ _ _ _ _ _ _ _ _ _ _ _ _ _ _ _ _ _ _ _ _ _ _ _ _ _ _ _ _ _ _ _ R_g0_1 R_w0_1 (fun _ _ => rfl) L_0_1 R_g0_2 R_w0_2 (fun _ _ => rfl) L_0_2 R_g0_4 R_w0_4 (fun _ _ => rfl) L_0_4 R_g0_5 R_w0_5 (fun _ _ => rfl) L_0_5).mono ?_
  rintro e w6 ⟨rfl, o6⟩
  clear q_w0_0 q_w0_1 q_w0_2 q_w0_3 q_w0_4 q_w0_5 q_w0 q_g0_0 q_g0_1 q_g0_2 q_g0_3 q_g0_4 q_g0_5 q_g0
  replace B_aP := B_aP.old o6
  replace B_aV := B_aV.old o6
  replace B_w0 := B_w0.old o6
  replace B_t1 := B_t1.old o6
  replace B_g0 := B_g0.old o6
  replace R_w0_1 := Row.below R_w0_1 o6 (Nat.le_refl _)
  replace R_w0_2 := Row.below R_w0_2 o6 (Nat.le_refl _)
  replace R_w0_4 := Row.below R_w0_4 o6 (Nat.le_refl _)
  replace R_w0_5 := Row.below R_w0_5 o6 (Nat.le_refl _)
  replace R_t1_1 := Row.below R_t1_1 o6 (Nat.le_refl _)
  replace R_t1_2 := Row.below R_t1_2 o6 (Nat.le_refl _)
  replace R_t1_4 := Row.below R_t1_4 o6 (Nat.le_refl _)
  replace R_t1_5 := Row.below R_t1_5 o6 (Nat.le_refl _)
  replace R_g0_1 := Row.below R_g0_1 o6 (Nat.le_refl _)
  replace R_g0_2 := Row.below R_g0_2 o6 (Nat.le_refl _)
  replace R_g0_4 := Row.below R_g0_4 o6 (Nat.le_refl _)
  replace R_g0_5 := Row.below R_g0_5 o6 (Nat.le_refl _)
  replace O := Old.trans O o6
  have z6 := o6.size
  clear o6
  have q_aP_0 := B_aP.cell 0 rfl
  have q_aP_1 := B_aP.cell 1 rfl
  have q_aP_2 := B_aP.cell 2 rfl
  have q_aP_3 := B_aP.cell 3 rfl
  have q_aP_4 := B_aP.cell 4 rfl
  have q_aP_5 := B_aP.cell 5 rfl
  have q_aP := B_aP.lt
  have q_t1_0 := B_t1.cell 0 rfl
  have q_t1_1 := B_t1.cell 1 rfl
  have q_t1_2 := B_t1.cell 2 rfl
  have q_t1_3 := B_t1.cell 3 rfl
  have q_t1_4 := B_t1.cell 4 rfl
  have q_t1_5 := B_t1.cell 5 rfl
  have q_t1 := B_t1.lt
  go_upto_region 10 with fail
  go_cut [37] (fun sl wx => sl = .bool false ∧ Old w6 wx)
  case first =>
    go_region_held3 (fun w' => w'.cell? ⟨w.heap.size, 0, none⟩ = some (.bool v0_0) ∧ w'.cell? ⟨w.heap.size, 1, none⟩ = some (.slice A0_1 n0_1 c0_1) ∧ w'.cell? ⟨w.heap.size, 2, none⟩ = some (.slice A0_2 n0_2 c0_2) ∧ w'.cell? ⟨w.heap.size, 3, none⟩ = some (.bool v0_3) ∧ w'.cell? ⟨w.heap.size, 4, none⟩ = some (.slice A0_4 n0_4 c0_4) ∧ w'.cell? ⟨w.heap.size, 5, none⟩ = some (.slice A0_5 n0_5 c0_5) ∧ w'.cell? ⟨w3.heap.size, 0, none⟩ = some (.bool v0_0) ∧ w'.cell? ⟨w3.heap.size, 1, none⟩ = some (.slice A_t1_1 n0_1 n0_1) ∧ w'.cell? ⟨w3.heap.size, 2, none⟩ = some (.slice A_t1_2 n0_2 n0_2) ∧ w'.cell? ⟨w3.heap.size, 3, none⟩ = some (.bool v0_3) ∧ w'.cell? ⟨w3.heap.size, 4, none⟩ = some (.slice A_t1_4 n0_4 n0_4) ∧ w'.cell? ⟨w3.heap.size, 5, none⟩ = some (.slice A_t1_5 n0_5 n0_5)) (go_keep)
      (first
      | (go_at_call 31; refine (toPoint_any v0_0 A0_1 n0_1 c0_1 f0_1 A0_2 n0_2 c0_2 f0_2 v0_3 A0_4 n0_4 c0_4 f0_4 A0_5 n0_5 c0_5 f0_5 _ (h0_1.below (B := w.heap.size) (Below.trans (b := w6) O oldB) (Nat.le_refl _)) (h0_2.below (B := w.heap.size) (Below.trans (b := w6) O oldB) (Nat.le_refl _)) (h0_4.below (B := w.heap.size) (Below.trans (b := w6) O oldB) (Nat.le_refl _)) (h0_5.below (B := w.heap.size) (Below.trans (b := w6) O oldB) (Nat.le_refl _)) hn0_1 hn0_2 hn0_4 hn0_5).mono ?_; rintro e wt ⟨A_t_1, A_t_2, A_t_4, A_t_5, rfl, R_t_1, R_t_2, R_t_4, R_t_5, ap_t, o6⟩; replace o6 : Old w6 wt := Below.trans (b := _) oldB (Below.mono o6 leA); clear q_aP_0 q_aP_1 q_aP_2 q_aP_3 q_aP_4 q_aP_5 q_aP q_t1_0 q_t1_1 q_t1_2 q_t1_3 q_t1_4 q_t1_5 q_t1; have D_aP := B_aP.old o6; have q_aP_0 := D_aP.cell 0 rfl; have q_aP_1 := D_aP.cell 1 rfl; have q_aP_2 := D_aP.cell 2 rfl; have q_aP_3 := D_aP.cell 3 rfl; have q_aP_4 := D_aP.cell 4 rfl; have q_aP_5 := D_aP.cell 5 rfl; have q_aP := D_aP.lt; have D_t1 := B_t1.old o6; have q_t1_0 := D_t1.cell 0 rfl; have q_t1_1 := D_t1.cell 1 rfl; have q_t1_2 := D_t1.cell 2 rfl; have q_t1_3 := D_t1.cell 3 rfl; have q_t1_4 := D_t1.cell 4 rfl; have q_t1_5 := D_t1.cell 5 rfl; have q_t1 := D_t1.lt)
      | (go_at_call 33; refine (eqPoint_yes _ _ _ _ _ _ _ _ _ _ _ _ _ _ _ _ _ _ _ _ _ _ _ _ _ _ _ _ _ _ _ _ _ _ _ _ _ _ _ (Row.below (B := w6.heap.size) R_t1_1 (Below.trans (b := wt) o6 oldB) (Nat.le_refl _)) (Row.below (B := wt.heap.size) R_t_1 oldB (Nat.le_refl _)) (fun _ _ => rfl) hn0_1 (Row.below (B := w6.heap.size) R_t1_2 (Below.trans (b := wt) o6 oldB) (Nat.le_refl _)) (Row.below (B := wt.heap.size) R_t_2 oldB (Nat.le_refl _)) (fun _ _ => rfl) hn0_2 (Row.below (B := w6.heap.size) R_t1_4 (Below.trans (b := wt) o6 oldB) (Nat.le_refl _)) (Row.below (B := wt.heap.size) R_t_4 oldB (Nat.le_refl _)) (fun _ _ => rfl) hn0_4 (Row.below (B := w6.heap.size) R_t1_5 (Below.trans (b := wt) o6 oldB) (Nat.le_refl _)) (Row.below (B := wt.heap.size) R_t_5 oldB (Nat.le_refl _)) (fun _ _ => rfl) hn0_5).mono ?_; rintro e wu ⟨rfl, o7⟩; replace o7 : Old wt wu := Below.trans (b := _) oldB (Below.mono o7 leA); clear q_aP_0 q_aP_1 q_aP_2 q_aP_3 q_aP_4 q_aP_5 q_aP q_t1_0 q_t1_1 q_t1_2 q_t1_3 q_t1_4 q_t1_5 q_t1; have E_aP := D_aP.old o7; have q_aP_0 := E_aP.cell 0 rfl; have q_aP_1 := E_aP.cell 1 rfl; have q_aP_2 := E_aP.cell 2 rfl; have q_aP_3 := E_aP.cell 3 rfl; have q_aP_4 := E_aP.cell 4 rfl; have q_aP_5 := E_aP.cell 5 rfl; have q_aP := E_aP.lt; have E_t1 := D_t1.old o7; have q_t1_0 := E_t1.cell 0 rfl; have q_t1_1 := E_t1.cell 1 rfl; have q_t1_2 := E_t1.cell 2 rfl; have q_t1_3 := E_t1.cell 3 rfl; have q_t1_4 := E_t1.cell 4 rfl; have q_t1_5 := E_t1.cell 5 rfl; have q_t1 := E_t1.lt))
    all_goals (go_wp2_with fail; go_meet; exact ⟨rfl, Old.trans o6 (Below.trans (b := _) o7 oldB)⟩)
  case rest =>
  obtain ⟨rfl, o7⟩ := hcut
  obtain ⟨w7, hw⟩ : ∃ x, x = wc := ⟨_, rfl⟩
  subst hw
  clear q_aP_0 q_aP_1 q_aP_2 q_aP_3 q_aP_4 q_aP_5 q_aP q_t1_0 q_t1_1 q_t1_2 q_t1_3 q_t1_4 q_t1_5 q_t1
  replace B_aP := B_aP.old o7
  replace B_aV := B_aV.old o7
  replace B_w0 := B_w0.old o7
  replace B_t1 := B_t1.old o7
  replace B_g0 := B_g0.old o7
  replace R_w0_1 := Row.below R_w0_1 o7 (Nat.le_refl _)
  replace R_w0_2 := Row.below R_w0_2 o7 (Nat.le_refl _)
  replace R_w0_4 := Row.below R_w0_4 o7 (Nat.le_refl _)
  replace R_w0_5 := Row.below R_w0_5 o7 (Nat.le_refl _)
  replace R_t1_1 := Row.below R_t1_1 o7 (Nat.le_refl _)
  replace R_t1_2 := Row.below R_t1_2 o7 (Nat.le_refl _)
  replace R_t1_4 := Row.below R_t1_4 o7 (Nat.le_refl _)
  replace R_t1_5 := Row.below R_t1_5 o7 (Nat.le_refl _)
  replace R_g0_1 := Row.below R_g0_1 o7 (Nat.le_refl _)
  replace R_g0_2 := Row.below R_g0_2 o7 (Nat.le_refl _)
  replace R_g0_4 := Row.below R_g0_4 o7 (Nat.le_refl _)
  replace R_g0_5 := Row.below R_g0_5 o7 (Nat.le_refl _)
  replace O := Old.trans O o7
  have z7 := o7.size
  clear o7
  have q_t1_0 := B_t1.cell 0 rfl
  have q_t1_1 := B_t1.cell 1 rfl
  have q_t1_2 := B_t1.cell 2 rfl
  have q_t1_3 := B_t1.cell 3 rfl
  have q_t1_4 := B_t1.cell 4 rfl
  have q_t1_5 := B_t1.cell 5 rfl
  have q_t1 := B_t1.lt
  go_wp2_with fail
  refine (markPoint_any _ _ _ _ _ _ _ _ _ _ _ _ _ _ _ _ _ _ _ _ _ _ _ _ R_t1_1 R_t1_2 R_t1_4 R_t1_5 ap_t1 hn0_1 hn0_2 hn0_4 hn0_5 (by omega) (by omega)).mono ?_
  rintro e w8 ⟨rfl, S_1, S_2, S_4, S_5, wm8_0, wm8_1, wm8_2, G_1, G_2, G_4, G_5⟩
  clear q_t1_0 q_t1_1 q_t1_2 q_t1_3 q_t1_4 q_t1_5 q_t1
  clear R_t1_1
  have R_t1_1 := S_1
  clear S_1
  clear R_t1_2
  have R_t1_2 := S_2
  clear S_2
  clear R_t1_4
  have R_t1_4 := S_4
  clear S_4
  clear R_t1_5
  have R_t1_5 := S_5
  clear S_5
  replace R_w0_1 := Row.apart R_w0_1 G_1 lim_w0_1 low_w0_1 lim_t1_1 low_t1_1 (by omega)
  replace R_w0_2 := Row.apart R_w0_2 G_1 lim_w0_2 low_w0_2 lim_t1_1 low_t1_1 (by omega)
  replace R_w0_4 := Row.apart R_w0_4 G_1 lim_w0_4 low_w0_4 lim_t1_1 low_t1_1 (by omega)
  replace R_w0_5 := Row.apart R_w0_5 G_1 lim_w0_5 low_w0_5 lim_t1_1 low_t1_1 (by omega)
  replace R_g0_1 := Row.apart R_g0_1 G_1 lim_g0_1 low_g0_1 lim_t1_1 low_t1_1 (by omega)
  replace R_g0_2 := Row.apart R_g0_2 G_1 lim_g0_2 low_g0_2 lim_t1_1 low_t1_1 (by omega)
  replace R_g0_4 := Row.apart R_g0_4 G_1 lim_g0_4 low_g0_4 lim_t1_1 low_t1_1 (by omega)
  replace R_g0_5 := Row.apart R_g0_5 G_1 lim_g0_5 low_g0_5 lim_t1_1 low_t1_1 (by omega)
  replace B_aP := B_aP.apart G_1 low_t1_1 lim_t1_1 (by omega)
  replace B_aV := B_aV.apart G_1 low_t1_1 lim_t1_1 (by omega)
  replace B_w0 := B_w0.apart G_1 low_t1_1 lim_t1_1 (by omega)
  replace B_t1 := B_t1.apart G_1 low_t1_1 lim_t1_1 (by omega)
  replace B_g0 := B_g0.apart G_1 low_t1_1 lim_t1_1 (by omega)
  replace O := Below.grown O G_1 O.size (low_t1_1.own (by omega))
  have z8_0 := G_1.size
  clear G_1
  replace R_w0_1 := Row.apart R_w0_1 G_2 lim_w0_1 low_w0_1 lim_t1_2 low_t1_2 (by omega)
  replace R_w0_2 := Row.apart R_w0_2 G_2 lim_w0_2 low_w0_2 lim_t1_2 low_t1_2 (by omega)
  replace R_w0_4 := Row.apart R_w0_4 G_2 lim_w0_4 low_w0_4 lim_t1_2 low_t1_2 (by omega)
  replace R_w0_5 := Row.apart R_w0_5 G_2 lim_w0_5 low_w0_5 lim_t1_2 low_t1_2 (by omega)
  replace R_g0_1 := Row.apart R_g0_1 G_2 lim_g0_1 low_g0_1 lim_t1_2 low_t1_2 (by omega)
  replace R_g0_2 := Row.apart R_g0_2 G_2 lim_g0_2 low_g0_2 lim_t1_2 low_t1_2 (by omega)
  replace R_g0_4 := Row.apart R_g0_4 G_2 lim_g0_4 low_g0_4 lim_t1_2 low_t1_2 (by omega)
  replace R_g0_5 := Row.apart R_g0_5 G_2 lim_g0_5 low_g0_5 lim_t1_2 low_t1_2 (by omega)
  replace B_aP := B_aP.apart G_2 low_t1_2 lim_t1_2 (by omega)
  replace B_aV := B_aV.apart G_2 low_t1_2 lim_t1_2 (by omega)
  replace B_w0 := B_w0.apart G_2 low_t1_2 lim_t1_2 (by omega)
  replace B_t1 := B_t1.apart G_2 low_t1_2 lim_t1_2 (by omega)
  replace B_g0 := B_g0.apart G_2 low_t1_2 lim_t1_2 (by omega)
  replace O := Below.grown O G_2 O.size (low_t1_2.own (by omega))
  have z8_1 := G_2.size
  clear G_2
  replace R_w0_1 := Row.apart R_w0_1 G_4 lim_w0_1 low_w0_1 lim_t1_4 low_t1_4 (by omega)
  replace R_w0_2 := Row.apart R_w0_2 G_4 lim_w0_2 low_w0_2 lim_t1_4 low_t1_4 (by omega)
  replace R_w0_4 := Row.apart R_w0_4 G_4 lim_w0_4 low_w0_4 lim_t1_4 low_t1_4 (by omega)
  replace R_w0_5 := Row.apart R_w0_5 G_4 lim_w0_5 low_w0_5 lim_t1_4 low_t1_4 (by omega)
  replace R_g0_1 := Row.apart R_g0_1 G_4 lim_g0_1 low_g0_1 lim_t1_4 low_t1_4 (by omega)
  replace R_g0_2 := Row.apart R_g0_2 G_4 lim_g0_2 low_g0_2 lim_t1_4 low_t1_4 (by omega)
  replace R_g0_4 := Row.apart R_g0_4 G_4 lim_g0_4 low_g0_4 lim_t1_4 low_t1_4 (by omega)
  replace R_g0_5 := Row.apart R_g0_5 G_4 lim_g0_5 low_g0_5 lim_t1_4 low_t1_4 (by omega)
  replace B_aP := B_aP.apart G_4 low_t1_4 lim_t1_4 (by omega)
  replace B_aV := B_aV.apart G_4 low_t1_4 lim_t1_4 (by omega)
  replace B_w0 := B_w0.apart G_4 low_t1_4 lim_t1_4 (by omega)
  replace B_t1 := B_t1.apart G_4 low_t1_4 lim_t1_4 (by omega)
  replace B_g0 := B_g0.apart G_4 low_t1_4 lim_t1_4 (by omega)
  replace O := Below.grown O G_4 O.size (low_t1_4.own (by omega))
  have z8_2 := G_4.size
  clear G_4
  replace R_w0_1 := Row.apart R_w0_1 G_5 lim_w0_1 low_w0_1 lim_t1_5 low_t1_5 (by omega)
  replace R_w0_2 := Row.apart R_w0_2 G_5 lim_w0_2 low_w0_2 lim_t1_5 low_t1_5 (by omega)
  replace R_w0_4 := Row.apart R_w0_4 G_5 lim_w0_4 low_w0_4 lim_t1_5 low_t1_5 (by omega)
  replace R_w0_5 := Row.apart R_w0_5 G_5 lim_w0_5 low_w0_5 lim_t1_5 low_t1_5 (by omega)
  replace R_g0_1 := Row.apart R_g0_1 G_5 lim_g0_1 low_g0_1 lim_t1_5 low_t1_5 (by omega)
  replace R_g0_2 := Row.apart R_g0_2 G_5 lim_g0_2 low_g0_2 lim_t1_5 low_t1_5 (by omega)
  replace R_g0_4 := Row.apart R_g0_4 G_5 lim_g0_4 low_g0_4 lim_t1_5 low_t1_5 (by omega)
  replace R_g0_5 := Row.apart R_g0_5 G_5 lim_g0_5 low_g0_5 lim_t1_5 low_t1_5 (by omega)
  replace B_aP := B_aP.apart G_5 low_t1_5 lim_t1_5 (by omega)
  replace B_aV := B_aV.apart G_5 low_t1_5 lim_t1_5 (by omega)
  replace B_w0 := B_w0.apart G_5 low_t1_5 lim_t1_5 (by omega)
  replace B_t1 := B_t1.apart G_5 low_t1_5 lim_t1_5 (by omega)
  replace B_g0 := B_g0.apart G_5 low_t1_5 lim_t1_5 (by omega)
  replace O := Below.grown O G_5 O.size (low_t1_5.own (by omega))
  have z8_3 := G_5.size
  clear G_5
  clear R_t1_1 lim_t1_1 low_t1_1
  clear R_t1_2 lim_t1_2 low_t1_2
  clear R_t1_4 lim_t1_4 low_t1_4
  clear R_t1_5 lim_t1_5 low_t1_5
  clear B_t1
  have q_w0_0 := B_w0.cell 0 rfl
  have q_w0_1 := B_w0.cell 1 rfl
  have q_w0_2 := B_w0.cell 2 rfl
  have q_w0_3 := B_w0.cell 3 rfl
  have q_w0_4 := B_w0.cell 4 rfl
  have q_w0_5 := B_w0.cell 5 rfl
  have q_w0 := B_w0.lt
  have q_g0_0 := B_g0.cell 0 rfl
  have q_g0_1 := B_g0.cell 1 rfl
  have q_g0_2 := B_g0.cell 2 rfl
  have q_g0_3 := B_g0.cell 3 rfl
  have q_g0_4 := B_g0.cell 4 rfl
  have q_g0_5 := B_g0.cell 5 rfl
  have q_g0 := B_g0.lt
  go_wp2_with fail
  refine (eqPoint_yes _ _ _ _ _ _ _ _ _ _ _ _ _ _ _ _ _ _ _ _ _ _ _ _ _ _ _ _ _ _ _ _ _ _ _ _ _ _ _ R_g0_1 R_w0_1 (fun _ _ => rfl) L_0_1 R_g0_2 R_w0_2 (fun _ _ => rfl) L_0_2 R_g0_4 R_w0_4 (fun _ _ => rfl) L_0_4 R_g0_5 R_w0_5 (fun _ _ => rfl) L_0_5).mono ?_
  rintro e w9 ⟨rfl, o9⟩
  clear q_w0_0 q_w0_1 q_w0_2 q_w0_3 q_w0_4 q_w0_5 q_w0 q_g0_0 q_g0_1 q_g0_2 q_g0_3 q_g0_4 q_g0_5 q_g0
  replace B_aP := B_aP.old o9
  replace B_aV := B_aV.old o9
  replace B_w0 := B_w0.old o9
  replace B_g0 := B_g0.old o9
  replace R_w0_1 := Row.below R_w0_1 o9 (Nat.le_refl _)
  replace R_w0_2 := Row.below R_w0_2 o9 (Nat.le_refl _)
  replace R_w0_4 := Row.below R_w0_4 o9 (Nat.le_refl _)
  replace R_w0_5 := Row.below R_w0_5 o9 (Nat.le_refl _)
  replace R_g0_1 := Row.below R_g0_1 o9 (Nat.le_refl _)
  replace R_g0_2 := Row.below R_g0_2 o9 (Nat.le_refl _)
  replace R_g0_4 := Row.below R_g0_4 o9 (Nat.le_refl _)
  replace R_g0_5 := Row.below R_g0_5 o9 (Nat.le_refl _)
  replace O := Old.trans O o9
  have z9 := o9.size
  clear o9
  have q_g0_0 := B_g0.cell 0 rfl
  have q_g0_1 := B_g0.cell 1 rfl
  have q_g0_2 := B_g0.cell 2 rfl
  have q_g0_3 := B_g0.cell 3 rfl
  have q_g0_4 := B_g0.cell 4 rfl
  have q_g0_5 := B_g0.cell 5 rfl
  have q_g0 := B_g0.lt
  go_wp2_with fail
  refine (markPoint_any _ _ _ _ _ _ _ _ _ _ _ _ _ _ _ _ _ _ _ _ _ _ _ _ R_g0_1 R_g0_2 R_g0_4 R_g0_5 ap_g0 L_0_1 L_0_2 L_0_4 L_0_5 (by omega) (by omega)).mono ?_
  rintro e w10 ⟨rfl, S_1, S_2, S_4, S_5, wm10_0, wm10_1, wm10_2, G_1, G_2, G_4, G_5⟩
  clear q_g0_0 q_g0_1 q_g0_2 q_g0_3 q_g0_4 q_g0_5 q_g0
  clear R_g0_1
  have R_g0_1 := S_1
  clear S_1
  clear R_g0_2
  have R_g0_2 := S_2
  clear S_2
  clear R_g0_4
  have R_g0_4 := S_4
  clear S_4
  clear R_g0_5
  have R_g0_5 := S_5
  clear S_5
  replace R_w0_1 := Row.apart R_w0_1 G_1 lim_w0_1 low_w0_1 lim_g0_1 low_g0_1 (by omega)
  replace R_w0_2 := Row.apart R_w0_2 G_1 lim_w0_2 low_w0_2 lim_g0_1 low_g0_1 (by omega)
  replace R_w0_4 := Row.apart R_w0_4 G_1 lim_w0_4 low_w0_4 lim_g0_1 low_g0_1 (by omega)
  replace R_w0_5 := Row.apart R_w0_5 G_1 lim_w0_5 low_w0_5 lim_g0_1 low_g0_1 (by omega)
  replace B_aP := B_aP.apart G_1 low_g0_1 lim_g0_1 (by omega)
  replace B_aV := B_aV.apart G_1 low_g0_1 lim_g0_1 (by omega)
  replace B_w0 := B_w0.apart G_1 low_g0_1 lim_g0_1 (by omega)
  replace B_g0 := B_g0.apart_off G_1 off_g0_1
  replace O := Below.grown O G_1 O.size (low_g0_1.own (by omega))
  have z10_0 := G_1.size
  clear G_1
  replace R_w0_1 := Row.apart R_w0_1 G_2 lim_w0_1 low_w0_1 lim_g0_2 low_g0_2 (by omega)
  replace R_w0_2 := Row.apart R_w0_2 G_2 lim_w0_2 low_w0_2 lim_g0_2 low_g0_2 (by omega)
  replace R_w0_4 := Row.apart R_w0_4 G_2 lim_w0_4 low_w0_4 lim_g0_2 low_g0_2 (by omega)
  replace R_w0_5 := Row.apart R_w0_5 G_2 lim_w0_5 low_w0_5 lim_g0_2 low_g0_2 (by omega)
  replace B_aP := B_aP.apart G_2 low_g0_2 lim_g0_2 (by omega)
  replace B_aV := B_aV.apart G_2 low_g0_2 lim_g0_2 (by omega)
  replace B_w0 := B_w0.apart G_2 low_g0_2 lim_g0_2 (by omega)
  replace B_g0 := B_g0.apart_off G_2 off_g0_2
  replace O := Below.grown O G_2 O.size (low_g0_2.own (by omega))
  have z10_1 := G_2.size
  clear G_2
  replace R_w0_1 := Row.apart R_w0_1 G_4 lim_w0_1 low_w0_1 lim_g0_4 low_g0_4 (by omega)
  replace R_w0_2 := Row.apart R_w0_2 G_4 lim_w0_2 low_w0_2 lim_g0_4 low_g0_4 (by omega)
  replace R_w0_4 := Row.apart R_w0_4 G_4 lim_w0_4 low_w0_4 lim_g0_4 low_g0_4 (by omega)
  replace R_w0_5 := Row.apart R_w0_5 G_4 lim_w0_5 low_w0_5 lim_g0_4 low_g0_4 (by omega)
  replace B_aP := B_aP.apart G_4 low_g0_4 lim_g0_4 (by omega)
  replace B_aV := B_aV.apart G_4 low_g0_4 lim_g0_4 (by omega)
  replace B_w0 := B_w0.apart G_4 low_g0_4 lim_g0_4 (by omega)
  replace B_g0 := B_g0.apart_off G_4 off_g0_4
  replace O := Below.grown O G_4 O.size (low_g0_4.own (by omega))
  have z10_2 := G_4.size
  clear G_4
  replace R_w0_1 := Row.apart R_w0_1 G_5 lim_w0_1 low_w0_1 lim_g0_5 low_g0_5 (by omega)
  replace R_w0_2 := Row.apart R_w0_2 G_5 lim_w0_2 low_w0_2 lim_g0_5 low_g0_5 (by omega)
  replace R_w0_4 := Row.apart R_w0_4 G_5 lim_w0_4 low_w0_4 lim_g0_5 low_g0_5 (by omega)
  replace R_w0_5 := Row.apart R_w0_5 G_5 lim_w0_5 low_w0_5 lim_g0_5 low_g0_5 (by omega)
  replace B_aP := B_aP.apart G_5 low_g0_5 lim_g0_5 (by omega)
  replace B_aV := B_aV.apart G_5 low_g0_5 lim_g0_5 (by omega)
  replace B_w0 := B_w0.apart G_5 low_g0_5 lim_g0_5 (by omega)
  replace B_g0 := B_g0.apart_off G_5 off_g0_5
  replace O := Below.grown O G_5 O.size (low_g0_5.own (by omega))
  have z10_3 := G_5.size
  clear G_5
  have q_g0_0 := B_g0.cell 0 rfl
  have q_g0_1 := B_g0.cell 1 rfl
  have q_g0_2 := B_g0.cell 2 rfl
  have q_g0_3 := B_g0.cell 3 rfl
  have q_g0_4 := B_g0.cell 4 rfl
  have q_g0_5 := B_g0.cell 5 rfl
  have q_g0 := B_g0.lt
  go_wp2_with fail
  refine (heldPoint_yes _ _ _ _ _ _ _ _ _ _ _ _ _ _ _ _ _ _ _ _ _ _ _ _ R_g0_1 (fun _ _ => rfl) L_0_1 R_g0_2 (fun _ _ => rfl) L_0_2 R_g0_4 (fun _ _ => rfl) L_0_4 R_g0_5 (fun _ _ => rfl) L_0_5 (by omega) (by omega)).mono ?_
  rintro e w11 ⟨rfl, o11⟩
  clear q_g0_0 q_g0_1 q_g0_2 q_g0_3 q_g0_4 q_g0_5 q_g0
  replace B_aP := B_aP.old o11
  replace B_aV := B_aV.old o11
  replace B_w0 := B_w0.old o11
  replace B_g0 := B_g0.old o11
  replace R_w0_1 := Row.below R_w0_1 o11 (Nat.le_refl _)
  replace R_w0_2 := Row.below R_w0_2 o11 (Nat.le_refl _)
  replace R_w0_4 := Row.below R_w0_4 o11 (Nat.le_refl _)
  replace R_w0_5 := Row.below R_w0_5 o11 (Nat.le_refl _)
  replace R_g0_1 := Row.below R_g0_1 o11 (Nat.le_refl _)
  replace R_g0_2 := Row.below R_g0_2 o11 (Nat.le_refl _)
  replace R_g0_4 := Row.below R_g0_4 o11 (Nat.le_refl _)
  replace R_g0_5 := Row.below R_g0_5 o11 (Nat.le_refl _)
  replace O := Old.trans O o11
  have z11 := o11.size
  clear o11
  have q_aP_0 := B_aP.cell 0 rfl
  have q_aP_1 := B_aP.cell 1 rfl
  have q_aP_2 := B_aP.cell 2 rfl
  have q_aP_3 := B_aP.cell 3 rfl
  have q_aP_4 := B_aP.cell 4 rfl
  have q_aP_5 := B_aP.cell 5 rfl
  have q_aP := B_aP.lt
  have q_aV_0 := B_aV.cell 0 rfl
  have q_aV_1 := B_aV.cell 1 rfl
  have q_aV := B_aV.lt
  have new11_aP : ¬ (w11.heap.size = w.heap.size) := (by omega)
  have enw11_aP : ¬ (w.heap.size = w11.heap.size) := (by omega)
  have new11_aV : ¬ (w11.heap.size = w.heap.size + 1) := (by omega)
  have enw11_aV : ¬ (w.heap.size + 1 = w11.heap.size) := (by omega)
  go_upto_region 24 with fail
  go_cut [12] (fun sl wx => ∃ (g : Nat) (A1 : Option Addr) (c1 : Nat) (A2 : Option Addr) (c2 : Nat) (A4 : Option Addr) (c4 : Nat) (A5 : Option Addr) (c5 : Nat), sl = .pointer (some ⟨g, 0, none⟩) ∧ w11.heap.size ≤ g ∧ Bx wx g #[.bool (sgnZ Z1), .slice A1 (Num.len (magZ Z1)) c1, .slice A2 (Num.len D1) c2, .bool (sgnZ Z2), .slice A4 (Num.len (magZ Z2)) c4, .slice A5 (Num.len D2) c5] ∧ Row wx w11.heap.size A1 (Num.len (magZ Z1)) c1 (digI (magZ Z1)) ∧ Row wx w11.heap.size A2 (Num.len D1) c2 (digI D1) ∧ Row wx w11.heap.size A4 (Num.len (magZ Z2)) c4 (digI (magZ Z2)) ∧ Row wx w11.heap.size A5 (Num.len D2) c5 (digI D2) ∧ (Apart A1 (Num.len (magZ Z1)) A2 (Num.len D1) ∧ Apart A1 (Num.len (magZ Z1)) A4 (Num.len (magZ Z2)) ∧ Apart A1 (Num.len (magZ Z1)) A5 (Num.len D2) ∧ Apart A2 (Num.len D1) A4 (Num.len (magZ Z2)) ∧ Apart A2 (Num.len D1) A5 (Num.len D2) ∧ Apart A4 (Num.len (magZ Z2)) A5 (Num.len D2)) ∧ Old w11 wx)
  case first =>
    go_region_held3 (fun w' => w'.cell? ⟨w.heap.size, 0, none⟩ = some (.bool v0_0) ∧ w'.cell? ⟨w.heap.size, 1, none⟩ = some (.slice A0_1 n0_1 c0_1) ∧ w'.cell? ⟨w.heap.size, 2, none⟩ = some (.slice A0_2 n0_2 c0_2) ∧ w'.cell? ⟨w.heap.size, 3, none⟩ = some (.bool v0_3) ∧ w'.cell? ⟨w.heap.size, 4, none⟩ = some (.slice A0_4 n0_4 c0_4) ∧ w'.cell? ⟨w.heap.size, 5, none⟩ = some (.slice A0_5 n0_5 c0_5) ∧ w'.cell? ⟨w.heap.size + 1, 0, none⟩ = some (.int .i64 a1_0) ∧ w'.cell? ⟨w.heap.size + 1, 1, none⟩ = some (.int .i64 a1_1)) (go_keep)
      (first
      | (go_at_call 31; (with_reducible refine (toPoint_any v0_0 A0_1 n0_1 c0_1 f0_1 A0_2 n0_2 c0_2 f0_2 v0_3 A0_4 n0_4 c0_4 f0_4 A0_5 n0_5 c0_5 f0_5 _ (h0_1.below (B := w.heap.size) (Below.trans (b := w11) O oldB) (Nat.le_refl _)) (h0_2.below (B := w.heap.size) (Below.trans (b := w11) O oldB) (Nat.le_refl _)) (h0_4.below (B := w.heap.size) (Below.trans (b := w11) O oldB) (Nat.le_refl _)) (h0_5.below (B := w.heap.size) (Below.trans (b := w11) O oldB) (Nat.le_refl _)) hn0_1 hn0_2 hn0_4 hn0_5).mono ?_); rintro e t1 ⟨A_t1_1, A_t1_2, A_t1_4, A_t1_5, rfl, R_t1_1, R_t1_2, R_t1_4, R_t1_5, ap_t1, o_t1⟩; (first | (clear qE0 qE1 qE2 qE3 qE4 qE5 fE0 fE1 fE2 fE3 fE4 fE5 qE) | skip); (first | (have E0 := Bx.old (Bx.new _ _ _) o_t1; have E : Bx t1 w11.heap.size #[.bool false, .slice none 0 0, .slice none 0 0, .bool false, .slice none 0 0, .slice none 0 0] := E0; clear E0; have hE := E.lt) | (have E0 := Bx.old (Bx.drew (Bx.new _ _ _)) o_t1; have E : Bx t1 w11.heap.size #[.bool false, .slice none 0 0, .slice none 0 0, .bool false, .slice none 0 0, .slice none 0 0] := E0; clear E0; have hE := E.lt) | (replace E := Bx.old E o_t1) | skip); replace o_t1 : Old w11 t1 := Below.trans (b := _) oldB (Below.mono o_t1 leA); have z_t1 := o_t1.size; have O_t1 := Old.trans O o_t1; clear q_aP_0 q_aP_1 q_aP_2 q_aP_3 q_aP_4 q_aP_5 q_aP q_aV_0 q_aV_1 q_aV; have D1_aP := B_aP.old o_t1; have q_aP_0 := D1_aP.cell 0 rfl; have q_aP_1 := D1_aP.cell 1 rfl; have q_aP_2 := D1_aP.cell 2 rfl; have q_aP_3 := D1_aP.cell 3 rfl; have q_aP_4 := D1_aP.cell 4 rfl; have q_aP_5 := D1_aP.cell 5 rfl; have q_aP := D1_aP.lt; have D1_aV := B_aV.old o_t1; have q_aV_0 := D1_aV.cell 0 rfl; have q_aV_1 := D1_aV.cell 1 rfl; have q_aV := D1_aV.lt; have net1_aP : ¬ (t1.heap.size = w.heap.size) := (by omega); have ent1_aP : ¬ (w.heap.size = t1.heap.size) := (by omega); have net1_aV : ¬ (t1.heap.size = w.heap.size + 1) := (by omega); have ent1_aV : ¬ (w.heap.size + 1 = t1.heap.size) := (by omega); (first | (have qE0 := E.cell 0 rfl; have qE1 := E.cell 1 rfl; have qE2 := E.cell 2 rfl; have qE3 := E.cell 3 rfl; have qE4 := E.cell 4 rfl; have qE5 := E.cell 5 rfl; have fE0 := E.frozen 0; have fE1 := E.frozen 1; have fE2 := E.frozen 2; have fE3 := E.frozen 3; have fE4 := E.frozen 4; have fE5 := E.frozen 5; have qE := E.lt) | skip))
      | (go_at_call 39; (with_reducible refine (toVec_any a1_0 a1_1 _  ).mono ?_); rintro e t2 ⟨rfl, o_t2⟩; (first | (clear qE0 qE1 qE2 qE3 qE4 qE5 fE0 fE1 fE2 fE3 fE4 fE5 qE) | skip); (first | (have E0 := Bx.old (Bx.new _ _ _) o_t2; have E : Bx t2 t1.heap.size #[.bool false, .slice none 0 0, .slice none 0 0, .bool false, .slice none 0 0, .slice none 0 0] := E0; clear E0; have hE := E.lt) | (have E0 := Bx.old (Bx.drew (Bx.new _ _ _)) o_t2; have E : Bx t2 t1.heap.size #[.bool false, .slice none 0 0, .slice none 0 0, .bool false, .slice none 0 0, .slice none 0 0] := E0; clear E0; have hE := E.lt) | (replace E := Bx.old E o_t2) | skip); replace o_t2 : Old t1 t2 := Below.trans (b := _) oldB (Below.mono o_t2 leA); have z_t2 := o_t2.size; have O_t2 := Old.trans O_t1 o_t2; clear q_aP_0 q_aP_1 q_aP_2 q_aP_3 q_aP_4 q_aP_5 q_aP q_aV_0 q_aV_1 q_aV; have D2_aP := D1_aP.old o_t2; have q_aP_0 := D2_aP.cell 0 rfl; have q_aP_1 := D2_aP.cell 1 rfl; have q_aP_2 := D2_aP.cell 2 rfl; have q_aP_3 := D2_aP.cell 3 rfl; have q_aP_4 := D2_aP.cell 4 rfl; have q_aP_5 := D2_aP.cell 5 rfl; have q_aP := D2_aP.lt; have D2_aV := D1_aV.old o_t2; have q_aV_0 := D2_aV.cell 0 rfl; have q_aV_1 := D2_aV.cell 1 rfl; have q_aV := D2_aV.lt; have net2_aP : ¬ (t2.heap.size = w.heap.size) := (by omega); have ent2_aP : ¬ (w.heap.size = t2.heap.size) := (by omega); have net2_aV : ¬ (t2.heap.size = w.heap.size + 1) := (by omega); have ent2_aV : ¬ (w.heap.size + 1 = t2.heap.size) := (by omega); replace R_t1_1 := Row.below R_t1_1 o_t2 (Nat.le_refl _); replace R_t1_2 := Row.below R_t1_2 o_t2 (Nat.le_refl _); replace R_t1_4 := Row.below R_t1_4 o_t2 (Nat.le_refl _); replace R_t1_5 := Row.below R_t1_5 o_t2 (Nat.le_refl _); (first | (have qE0 := E.cell 0 rfl; have qE1 := E.cell 1 rfl; have qE2 := E.cell 2 rfl; have qE3 := E.cell 3 rfl; have qE4 := E.cell 4 rfl; have qE5 := E.cell 5 rfl; have fE0 := E.frozen 0; have fE1 := E.frozen 1; have fE2 := E.frozen 2; have fE3 := E.frozen 3; have fE4 := E.frozen 4; have fE5 := E.frozen 5; have qE := E.lt) | skip))
      | (go_at_call 78; refine (impl_MovePoint a1_0 a1_1 _ _ _ _ _ _ _ _ _ _ _ _ _ _ _ _ _ _ _ _ _ _ _ b1_0 b1_1 (Row.below (B := t2.heap.size) R_t1_1 oldB (Nat.le_refl _)) (Row.below (B := t2.heap.size) R_t1_2 oldB (Nat.le_refl _)) (Row.below (B := t2.heap.size) R_t1_4 oldB (Nat.le_refl _)) (Row.below (B := t2.heap.size) R_t1_5 oldB (Nat.le_refl _)) hn0_1 hn0_2 hn0_4 hn0_5).mono ?_; rintro e tf ⟨⟨x0, x1, x2, x3, A_f_1, c_f_1, A_f_2, c_f_2, A_f_4, c_f_4, A_f_5, c_f_5, hv, he, R_f_1, R_f_2, R_f_4, R_f_5, ap_f⟩, o_f⟩; rw [HV0.out] at hv; obtain ⟨hv1, hv2⟩ := Prod.mk.inj hv; obtain ⟨rfl, rfl⟩ := Prod.mk.inj hv1; obtain ⟨rfl, rfl⟩ := Prod.mk.inj hv2; subst he; clear hv; (first | (clear qE0 qE1 qE2 qE3 qE4 qE5 fE0 fE1 fE2 fE3 fE4 fE5 qE) | skip); (first | (have E0 := Bx.old (Bx.new _ _ _) o_f; have E : Bx tf t2.heap.size #[.bool false, .slice none 0 0, .slice none 0 0, .bool false, .slice none 0 0, .slice none 0 0] := E0; clear E0; have hE := E.lt) | (have E0 := Bx.old (Bx.drew (Bx.new _ _ _)) o_f; have E : Bx tf t2.heap.size #[.bool false, .slice none 0 0, .slice none 0 0, .bool false, .slice none 0 0, .slice none 0 0] := E0; clear E0; have hE := E.lt) | (replace E := Bx.old E o_f) | skip); replace o_f : Old t2 tf := Below.trans (b := _) oldB (Below.mono o_f leA); have z_f := o_f.size; have O_f := Old.trans O_t2 o_f; clear q_aP_0 q_aP_1 q_aP_2 q_aP_3 q_aP_4 q_aP_5 q_aP q_aV_0 q_aV_1 q_aV; have DF_aP := D2_aP.old o_f; have q_aP_0 := DF_aP.cell 0 rfl; have q_aP_1 := DF_aP.cell 1 rfl; have q_aP_2 := DF_aP.cell 2 rfl; have q_aP_3 := DF_aP.cell 3 rfl; have q_aP_4 := DF_aP.cell 4 rfl; have q_aP_5 := DF_aP.cell 5 rfl; have q_aP := DF_aP.lt; have DF_aV := D2_aV.old o_f; have q_aV_0 := DF_aV.cell 0 rfl; have q_aV_1 := DF_aV.cell 1 rfl; have q_aV := DF_aV.lt; have netf_aP : ¬ (tf.heap.size = w.heap.size) := (by omega); have entf_aP : ¬ (w.heap.size = tf.heap.size) := (by omega); have netf_aV : ¬ (tf.heap.size = w.heap.size + 1) := (by omega); have entf_aV : ¬ (w.heap.size + 1 = tf.heap.size) := (by omega); (first | (have qE0 := E.cell 0 rfl; have qE1 := E.cell 1 rfl; have qE2 := E.cell 2 rfl; have qE3 := E.cell 3 rfl; have qE4 := E.cell 4 rfl; have qE5 := E.cell 5 rfl; have fE0 := E.frozen 0; have fE1 := E.frozen 1; have fE2 := E.frozen 2; have fE3 := E.frozen 3; have fE4 := E.frozen 4; have fE5 := E.frozen 5; have qE := E.lt) | skip)))
    all_goals (go_wp2_with fail; go_meet; exact ⟨_, _, _, _, _, _, _, _, _, rfl, leA, (by first | (with_reducible exact Bx.new _ _ _) | (with_reducible exact Bx.put6 E _ _ _ _ _ _) | (with_reducible exact Bx.put6 (Bx.new _ _ _) _ _ _ _ _ _)), (by first | (with_reducible exact Row.more (Row.far_set (Row.far_set (Row.far_set (Row.far_set (Row.far_set (Row.far_set R_f_1 (by first | (simp <;> done) | (simp; omega) | omega) _) (by first | (simp <;> done) | (simp; omega) | omega) _) (by first | (simp <;> done) | (simp; omega) | omega) _) (by first | (simp <;> done) | (simp; omega) | omega) _) (by first | (simp <;> done) | (simp; omega) | omega) _) (by first | (simp <;> done) | (simp; omega) | omega) _) leA) | (with_reducible exact Row.more (Row.below (B := tf.heap.size) R_f_1 oldB (Nat.le_refl _)) leA)), (by first | (with_reducible exact Row.more (Row.far_set (Row.far_set (Row.far_set (Row.far_set (Row.far_set (Row.far_set R_f_2 (by first | (simp <;> done) | (simp; omega) | omega) _) (by first | (simp <;> done) | (simp; omega) | omega) _) (by first | (simp <;> done) | (simp; omega) | omega) _) (by first | (simp <;> done) | (simp; omega) | omega) _) (by first | (simp <;> done) | (simp; omega) | omega) _) (by first | (simp <;> done) | (simp; omega) | omega) _) leA) | (with_reducible exact Row.more (Row.below (B := tf.heap.size) R_f_2 oldB (Nat.le_refl _)) leA)), (by first | (with_reducible exact Row.more (Row.far_set (Row.far_set (Row.far_set (Row.far_set (Row.far_set (Row.far_set R_f_4 (by first | (simp <;> done) | (simp; omega) | omega) _) (by first | (simp <;> done) | (simp; omega) | omega) _) (by first | (simp <;> done) | (simp; omega) | omega) _) (by first | (simp <;> done) | (simp; omega) | omega) _) (by first | (simp <;> done) | (simp; omega) | omega) _) (by first | (simp <;> done) | (simp; omega) | omega) _) leA) | (with_reducible exact Row.more (Row.below (B := tf.heap.size) R_f_4 oldB (Nat.le_refl _)) leA)), (by first | (with_reducible exact Row.more (Row.far_set (Row.far_set (Row.far_set (Row.far_set (Row.far_set (Row.far_set R_f_5 (by first | (simp <;> done) | (simp; omega) | omega) _) (by first | (simp <;> done) | (simp; omega) | omega) _) (by first | (simp <;> done) | (simp; omega) | omega) _) (by first | (simp <;> done) | (simp; omega) | omega) _) (by first | (simp <;> done) | (simp; omega) | omega) _) (by first | (simp <;> done) | (simp; omega) | omega) _) leA) | (with_reducible exact Row.more (Row.below (B := tf.heap.size) R_f_5 oldB (Nat.le_refl _)) leA)), ap_f, (Below.trans (b := tf) (Old.trans (Old.trans o_t1 o_t2) o_f) oldB)⟩)
  case rest =>
  obtain ⟨g_h0, A_h0_1, c_h0_1, A_h0_2, c_h0_2, A_h0_4, c_h0_4, A_h0_5, c_h0_5, rfl, hg_h0, B_h0, R_h0_1, R_h0_2, R_h0_4, R_h0_5, ap_h0, o12⟩ := hcut
  obtain ⟨w12, hw⟩ : ∃ x, x = wc := ⟨_, rfl⟩
  subst hw
  clear q_aP_0 q_aP_1 q_aP_2 q_aP_3 q_aP_4 q_aP_5 q_aP q_aV_0 q_aV_1 q_aV
  clear new11_aP enw11_aP new11_aV enw11_aV
  replace B_aP := B_aP.old o12
  replace B_aV := B_aV.old o12
  replace B_w0 := B_w0.old o12
  replace B_g0 := B_g0.old o12
  replace R_w0_1 := Row.below R_w0_1 o12 (Nat.le_refl _)
  replace R_w0_2 := Row.below R_w0_2 o12 (Nat.le_refl _)
  replace R_w0_4 := Row.below R_w0_4 o12 (Nat.le_refl _)
  replace R_w0_5 := Row.below R_w0_5 o12 (Nat.le_refl _)
  replace R_g0_1 := Row.below R_g0_1 o12 (Nat.le_refl _)
  replace R_g0_2 := Row.below R_g0_2 o12 (Nat.le_refl _)
  replace R_g0_4 := Row.below R_g0_4 o12 (Nat.le_refl _)
  replace R_g0_5 := Row.below R_g0_5 o12 (Nat.le_refl _)
  replace O := Old.trans O o12
  have z12 := o12.size
  clear o12
  have lim_h0_1 := R_h0_1.lim
  have low_h0_1 := Low.mono (lo' := w11.heap.size + 0) R_h0_1.low (by first | exact Nat.le_refl _ | (simp <;> omega))
  have lim_h0_2 := R_h0_2.lim
  have low_h0_2 := Low.mono (lo' := w11.heap.size + 0) R_h0_2.low (by first | exact Nat.le_refl _ | (simp <;> omega))
  have lim_h0_4 := R_h0_4.lim
  have low_h0_4 := Low.mono (lo' := w11.heap.size + 0) R_h0_4.low (by first | exact Nat.le_refl _ | (simp <;> omega))
  have lim_h0_5 := R_h0_5.lim
  have low_h0_5 := Low.mono (lo' := w11.heap.size + 0) R_h0_5.low (by first | exact Nat.le_refl _ | (simp <;> omega))
  have lt_h0 := B_h0.lt
  have off_h0_1 := Row.off R_h0_1 B_h0 (no_int6 _ _ _ _ _ _ _ _ _ _ _ _ _ _)
  have off_h0_2 := Row.off R_h0_2 B_h0 (no_int6 _ _ _ _ _ _ _ _ _ _ _ _ _ _)
  have off_h0_4 := Row.off R_h0_4 B_h0 (no_int6 _ _ _ _ _ _ _ _ _ _ _ _ _ _)
  have off_h0_5 := Row.off R_h0_5 B_h0 (no_int6 _ _ _ _ _ _ _ _ _ _ _ _ _ _)
  clear B_aP
  clear B_aV
  have q_w0_0 := B_w0.cell 0 rfl
  have q_w0_1 := B_w0.cell 1 rfl
  have q_w0_2 := B_w0.cell 2 rfl
  have q_w0_3 := B_w0.cell 3 rfl
  have q_w0_4 := B_w0.cell 4 rfl
  have q_w0_5 := B_w0.cell 5 rfl
  have q_w0 := B_w0.lt
  have q_h0_0 := B_h0.cell 0 rfl
  have q_h0_1 := B_h0.cell 1 rfl
  have q_h0_2 := B_h0.cell 2 rfl
  have q_h0_3 := B_h0.cell 3 rfl
  have q_h0_4 := B_h0.cell 4 rfl
  have q_h0_5 := B_h0.cell 5 rfl
  have q_h0 := B_h0.lt
  go_wp2_with fail
  refine (eqPoint_yes _ _ _ _ _ _ _ _ _ _ _ _ _ _ _ _ _ _ _ _ _ _ _ _ _ _ _ _ _ _ _ _ _ _ _ _ _ _ _ R_h0_1 R_w0_1 (fun _ _ => rfl) L_0_1 R_h0_2 R_w0_2 (fun _ _ => rfl) L_0_2 R_h0_4 R_w0_4 (fun _ _ => rfl) L_0_4 R_h0_5 R_w0_5 (fun _ _ => rfl) L_0_5).mono ?_
  rintro e w13 ⟨rfl, o13⟩
  clear q_w0_0 q_w0_1 q_w0_2 q_w0_3 q_w0_4 q_w0_5 q_w0 q_h0_0 q_h0_1 q_h0_2 q_h0_3 q_h0_4 q_h0_5 q_h0
  replace B_w0 := B_w0.old o13
  replace B_g0 := B_g0.old o13
  replace B_h0 := B_h0.old o13
  replace R_w0_1 := Row.below R_w0_1 o13 (Nat.le_refl _)
  replace R_w0_2 := Row.below R_w0_2 o13 (Nat.le_refl _)
  replace R_w0_4 := Row.below R_w0_4 o13 (Nat.le_refl _)
  replace R_w0_5 := Row.below R_w0_5 o13 (Nat.le_refl _)
  replace R_g0_1 := Row.below R_g0_1 o13 (Nat.le_refl _)
  replace R_g0_2 := Row.below R_g0_2 o13 (Nat.le_refl _)
  replace R_g0_4 := Row.below R_g0_4 o13 (Nat.le_refl _)
  replace R_g0_5 := Row.below R_g0_5 o13 (Nat.le_refl _)
  replace R_h0_1 := Row.below R_h0_1 o13 (Nat.le_refl _)
  replace R_h0_2 := Row.below R_h0_2 o13 (Nat.le_refl _)
  replace R_h0_4 := Row.below R_h0_4 o13 (Nat.le_refl _)
  replace R_h0_5 := Row.below R_h0_5 o13 (Nat.le_refl _)
  replace O := Old.trans O o13
  have z13 := o13.size
  clear o13
  have q_g0_0 := B_g0.cell 0 rfl
  have q_g0_1 := B_g0.cell 1 rfl
  have q_g0_2 := B_g0.cell 2 rfl
  have q_g0_3 := B_g0.cell 3 rfl
  have q_g0_4 := B_g0.cell 4 rfl
  have q_g0_5 := B_g0.cell 5 rfl
  have q_g0 := B_g0.lt
  go_wp2_with fail
  refine (heldPoint_yes _ _ _ _ _ _ _ _ _ _ _ _ _ _ _ _ _ _ _ _ _ _ _ _ R_g0_1 (fun _ _ => rfl) L_0_1 R_g0_2 (fun _ _ => rfl) L_0_2 R_g0_4 (fun _ _ => rfl) L_0_4 R_g0_5 (fun _ _ => rfl) L_0_5 (by omega) (by omega)).mono ?_
  rintro e w14 ⟨rfl, o14⟩
  clear q_g0_0 q_g0_1 q_g0_2 q_g0_3 q_g0_4 q_g0_5 q_g0
  replace B_w0 := B_w0.old o14
  replace B_g0 := B_g0.old o14
  replace B_h0 := B_h0.old o14
  replace R_w0_1 := Row.below R_w0_1 o14 (Nat.le_refl _)
  replace R_w0_2 := Row.below R_w0_2 o14 (Nat.le_refl _)
  replace R_w0_4 := Row.below R_w0_4 o14 (Nat.le_refl _)
  replace R_w0_5 := Row.below R_w0_5 o14 (Nat.le_refl _)
  replace R_g0_1 := Row.below R_g0_1 o14 (Nat.le_refl _)
  replace R_g0_2 := Row.below R_g0_2 o14 (Nat.le_refl _)
  replace R_g0_4 := Row.below R_g0_4 o14 (Nat.le_refl _)
  replace R_g0_5 := Row.below R_g0_5 o14 (Nat.le_refl _)
  replace R_h0_1 := Row.below R_h0_1 o14 (Nat.le_refl _)
  replace R_h0_2 := Row.below R_h0_2 o14 (Nat.le_refl _)
  replace R_h0_4 := Row.below R_h0_4 o14 (Nat.le_refl _)
  replace R_h0_5 := Row.below R_h0_5 o14 (Nat.le_refl _)
  replace O := Old.trans O o14
  have z14 := o14.size
  clear o14
  go_wp2
  go_ret
  exact ⟨rfl, O⟩

set_option maxRecDepth 100000 in
theorem liftedMovePoint (os : Os) (started : os.Started) (H : Type) (enc : TypeId × Value → H) :
    ReturnsInHanded {} Try.checked os 22 .any (Rows.fnExactMovePointSpec.pre6 enc Try.prog Try.f22 Rows.fnExactMovePointRow.domain false) (Rows.fnExactMovePointSpec.post enc Try.prog Try.f22 false true false false) := by
  refine returnsInHanded_of_change (C := Try.checked) ownKnob_none started (by kernel_rfl) Try.func22
    (ChangeSpec.witness6 (enc := enc) (C := Try.checked) false ⟨#[], #[.agg #[.bool false, .slice none 0 0, .slice none 0 0, .bool false, .slice none 0 0, .slice none 0 0], .agg #[.int .i64 0, .int .i64 0]], []⟩ 8 (by kernel_rfl) (by kernel_rfl) (by kernel_rfl) (by kernel_rfl)) ?_
  intro W base args ds gs before hval0 hW hcnd _
  have hval : ∀ (j : Nat) t v, Try.f22.params[j]? = some t → args[j]? = some v → Value.okWide Try.prog W .any base t v := hval0
  have hW' := hW
  obtain ⟨p, q, hA0, hV, rfl, hfz, hnd⟩ := hW
  have hA : DataW.TrodAll enc Try.prog W 0 (fun _ => true) true Try.f22.params.toList args.toList ds p := hA0
  rw [Try.params22] at hA hval
  obtain ⟨v0, vs0, d0, ds0, p0, q0, hargs, rfl, rfl, h0, r0⟩ := trodAll_cons hA
  obtain ⟨v1, vs1, d1, ds1, p1, q1, rfl, rfl, rfl, h1, r1⟩ := trodAll_cons r0
  obtain ⟨rfl, rfl, rfl⟩ := trodAll_nil r1
  obtain rfl : args = #[v0, v1] := by cases args; simp_all
  obtain ⟨rfl, rfl⟩ := trodVars_none hV
  have k0 := h0
  have lt0 : ∀ x ∈ p0, x.block < W.heap.size := by obtain ⟨m, hm⟩ := k0; exact DataW.trod_lt m _ _ _ hm
  obtain ⟨x0_0, A0_1, n0_1, c0_1, f0_1, A0_2, n0_2, c0_2, f0_2, x0_3, A0_4, n0_4, c0_4, f0_4, A0_5, n0_5, c0_5, f0_5, rfl, g0_1, m0_1, g0_2, m0_2, g0_4, m0_4, g0_5, m0_5⟩ := open_point (hval 0 35 v0 rfl rfl) h0
  have k1 := h1
  have lt1 : ∀ x ∈ p1, x.block < W.heap.size := by obtain ⟨m, hm⟩ := k1; exact DataW.trod_lt m _ _ _ hm
  obtain ⟨a1_0, a1_1, rfl, g1_0, g1_1⟩ := open_vec (hval 1 46 v1 rfl rfl) h1
  clear hA0 hval0
  refine (walkMovePoint x0_0 A0_1 n0_1 c0_1 f0_1 A0_2 n0_2 c0_2 f0_2 x0_3 A0_4 n0_4 c0_4 f0_4 A0_5 n0_5 c0_5 f0_5 a1_0 a1_1 W g0_1 g0_2 g0_4 g0_5 g1_0 g1_1 m0_1 m0_2 m0_4 m0_5).mono fun e W' ⟨he, bel⟩ => ?_
  subst he
  exact ⟨_, rfl, _, _, _, [], _, [], hW', trodAll_mk1 (shut_bool Try.underlying4 _), (trodAll_cons_mk (Below.trod laidOut (by kernel_rfl) (of_decide_eq_true (by kernel_rfl)) k0 bel lt0) (trodAll_cons_mk (Below.trod laidOut (by kernel_rfl) (of_decide_eq_true (by kernel_rfl)) k1 bel lt1) trodAll_mk0)), rfl, bel.frame _, fun h => by cases h⟩

theorem inPlaceMovePoint : (Rows.fnExactMovePointRow.inPlace == Try.prog.inPlace 22) = true := by kernel_rfl
theorem unfollowedMovePoint : (Rows.fnExactMovePointRow.unfollowed == Try.prog.unfollowed 22) = true := by kernel_rfl
theorem recursesMovePoint : (Rows.fnExactMovePointRow.recurses == Try.prog.recurses 22) = true := by kernel_rfl
theorem namedMovePoint : (Rows.fnExactMovePointRow.named == Try.prog.varsNamed 22) = true := by kernel_rfl
theorem closedMovePoint : joinedFacts Try.prog 22 Try.f22 Rows.fnExactMovePointSpec Rows.fnExactMovePointRow = true :=
  joined_of (by kernel_rfl) laidOut mapsRowed_yes (by kernel_rfl) (by kernel_rfl) (by kernel_rfl) stops_none (by kernel_rfl) knobs_none inPlaceMovePoint unfollowedMovePoint recursesMovePoint namedMovePoint
    (by kernel_rfl) (by kernel_rfl) (by kernel_rfl) (by kernel_rfl) (by kernel_rfl) (by kernel_rfl) (by kernel_rfl) (by kernel_rfl) (by kernel_rfl) plainKeys_yes (by kernel_rfl) (by kernel_rfl) stopsHeard_yes mayEnter_yes liftsFinal_no (by kernel_rfl) make_cut (by kernel_rfl)
    (by kernel_rfl) (by kernel_rfl) (by kernel_rfl) (by kernel_rfl) (by kernel_rfl)

/-- The statement. -/
theorem fnExactMovePoint_holds : Rows.FnExactMovePointSaid :=
  OpenClaim.holds_of_wide 22 Try.f22 rfl rfl rfl rfl rfl rfl rfl ⟨rfl, rfl, rfl, rfl, rfl⟩ rfl rfl rfl rfl rfl (by kernel_rfl) Try.func22 closedMovePoint
    (of_decide_eq_true (by kernel_rfl)) (by unfold Func.isWrapper; first | (rw [if_pos (by decide +kernel)]; kernel_rfl) | (rw [if_neg (by decide +kernel)]; exact ⟨rfl, rfl⟩))
    (fun os started H enc _ => liftedMovePoint os started H enc)
end Go.Proofs.Ytnkeenejcpkelaa
