import Derived.Test.YtgchbbjhdeobpaaArgs
import Derived.Deep.DeepCutAuto
import Derived.Deep.RegionHeld3
import Derived.Deep.DrawnRows
import Derived.Test.YtgchbbjhdeobpaaBoxes
import Derived.Test.YtgchbbjhdeobpaaPointLaw
import Derived.Test.YtgchbbjhdeobpaaPtDist
import Derived.Test.YtgchbbjhdeobpaaRatArgs
import Derived.Test.YtgchbbjhdeobpaaWq
/-
  The law FnExactSquareDistance: the program's function and the reference's return the same, the arguments are left as they were, and the result is memory of its own.
-/
namespace Go.Proofs.Ytgchbbjhdeobpaa
set_option linter.unusedVariables false
open Go.ChangeShapes Go.WideShapes Go.ChangeAt Go.RowKit
open Go.ChangeMaps (open_string shut_string)
attribute [local go_sem ↓] Go.wp_at_zero Go.wp_at_succ
set_option maxRecDepth 100000 in
set_option maxHeartbeats 8000000 in
theorem walkSquareDistance (v0_0 : Bool) (A0_1 : Option Addr) (n0_1 c0_1 : Nat) (f0_1 : Nat → Int) (A0_2 : Option Addr) (n0_2 c0_2 : Nat) (f0_2 : Nat → Int) (v0_3 : Bool) (A0_4 : Option Addr) (n0_4 c0_4 : Nat) (f0_4 : Nat → Int) (A0_5 : Option Addr) (n0_5 c0_5 : Nat) (f0_5 : Nat → Int) (v1_0 : Bool) (A1_1 : Option Addr) (n1_1 c1_1 : Nat) (f1_1 : Nat → Int) (A1_2 : Option Addr) (n1_2 c1_2 : Nat) (f1_2 : Nat → Int) (v1_3 : Bool) (A1_4 : Option Addr) (n1_4 c1_4 : Nat) (f1_4 : Nat → Int) (A1_5 : Option Addr) (n1_5 c1_5 : Nat) (f1_5 : Nat → Int) (w : World) (h0_1 : Rd w A0_1 n0_1 c0_1 f0_1) (h0_2 : Rd w A0_2 n0_2 c0_2 f0_2) (h0_4 : Rd w A0_4 n0_4 c0_4 f0_4) (h0_5 : Rd w A0_5 n0_5 c0_5 f0_5) (h1_1 : Rd w A1_1 n1_1 c1_1 f1_1) (h1_2 : Rd w A1_2 n1_2 c1_2 f1_2) (h1_4 : Rd w A1_4 n1_4 c1_4 f1_4) (h1_5 : Rd w A1_5 n1_5 c1_5 f1_5) (hm0_1 : n0_1 ≤ 9223372036854775807) (hm0_2 : n0_2 ≤ 9223372036854775807) (hm0_4 : n0_4 ≤ 9223372036854775807) (hm0_5 : n0_5 ≤ 9223372036854775807) (hm1_1 : n1_1 ≤ 9223372036854775807) (hm1_2 : n1_2 ≤ 9223372036854775807) (hm1_4 : n1_4 ≤ 9223372036854775807) (hm1_5 : n1_5 ≤ 9223372036854775807) :
    Calls Try.prog 3 #[.agg #[.bool v0_0, .slice A0_1 n0_1 c0_1, .slice A0_2 n0_2 c0_2, .bool v0_3, .slice A0_4 n0_4 c0_4, .slice A0_5 n0_5 c0_5], .agg #[.bool v1_0, .slice A1_1 n1_1 c1_1, .slice A1_2 n1_2 c1_2, .bool v1_3, .slice A1_4 n1_4 c1_4, .slice A1_5 n1_5 c1_5]] w fun e w' => e = .returned (.bool true) ∧ Old w w' := by
  have NV := vSquareDistance_norm v0_0 n0_1 f0_1 n0_2 f0_2 v0_3 n0_4 f0_4 n0_5 f0_5 v1_0 n1_1 f1_1 n1_2 f1_2 v1_3 n1_4 f1_4 n1_5 f1_5
  obtain ⟨Z0, D0, hV0⟩ : ∃ z d, vSquareDistance v0_0 n0_1 f0_1 n0_2 f0_2 v0_3 n0_4 f0_4 n0_5 f0_5 v1_0 n1_1 f1_1 n1_2 f1_2 v1_3 n1_4 f1_4 n1_5 f1_5 = (z, d) := ⟨_, _, rfl⟩
  rw [hV0] at NV
  have HV0 := Lib.hid hV0
  have NL := norm_len NV
  simp only at NL
  have L_0_1 : Num.len (magZ Z0) ≤ 1048576 := by omega
  have L_0_2 : Num.len D0 ≤ 1048576 := by omega
  clear NV NL hV0
  have O := Old.refl w
  go_enter Try.func3, Try.ntmps3
  go_wp2_with fail
  by_cases hs0 : (n0_1 : Int) + (n0_2 : Int) + (n0_4 : Int) + (n0_5 : Int) ≤ 1048576
  case neg =>
    refine (szPoint_no _ _ _ _ _ _ _ _ _ _ _ _ _ _ _ _ hm0_1 hm0_2 hm0_4 hm0_5 (by omega) (by omega) hs0).mono ?_
    rintro e w1 ⟨rfl, o1⟩
    go_wp2
    go_ret
    exact ⟨rfl, Old.trans O (Below.trans (b := _) oldB (Below.mono o1 (by simp <;> omega)))⟩
  have hn0_1 : n0_1 ≤ 1048576 := by omega
  have hn0_2 : n0_2 ≤ 1048576 := by omega
  have hn0_4 : n0_4 ≤ 1048576 := by omega
  have hn0_5 : n0_5 ≤ 1048576 := by omega
  refine (szPoint_yes _ _ _ _ _ _ _ _ _ _ _ _ _ _ _ _ hm0_1 hm0_2 hm0_4 hm0_5 (by omega) (by omega) hs0).mono ?_
  rintro e w1 ⟨rfl, o1⟩
  have B_aP : Bx w1 w.heap.size #[.bool v0_0, .slice A0_1 n0_1 c0_1, .slice A0_2 n0_2 c0_2, .bool v0_3, .slice A0_4 n0_4 c0_4, .slice A0_5 n0_5 c0_5] := Bx.old (Bx.alloc (Bx.new _ _ _) _) o1
  have B_aQ : Bx w1 (w.heap.size + 1) #[.bool v1_0, .slice A1_1 n1_1 c1_1, .slice A1_2 n1_2 c1_2, .bool v1_3, .slice A1_4 n1_4 c1_4, .slice A1_5 n1_5 c1_5] := by have h := Bx.old (Bx.new _ _ _) o1; simpa using h
  have zb1 := B_aQ.lt
  replace o1 : Old w w1 := Below.trans (b := _) oldB (Below.mono o1 (by simp <;> omega))
  replace O := Old.trans O o1
  have z1 := o1.size
  clear o1
  have hl0 : ¬ 1048576 - (n0_1 : Int) - (n0_2 : Int) - (n0_4 : Int) - (n0_5 : Int) < 0 := by omega
  have q_aQ_0 := B_aQ.cell 0 rfl
  have q_aQ_1 := B_aQ.cell 1 rfl
  have q_aQ_2 := B_aQ.cell 2 rfl
  have q_aQ_3 := B_aQ.cell 3 rfl
  have q_aQ_4 := B_aQ.cell 4 rfl
  have q_aQ_5 := B_aQ.cell 5 rfl
  have q_aQ := B_aQ.lt
  go_wp2_with fail
  by_cases hs1 : (n1_1 : Int) + (n1_2 : Int) + (n1_4 : Int) + (n1_5 : Int) ≤ 1048576 - (n0_1 : Int) - (n0_2 : Int) - (n0_4 : Int) - (n0_5 : Int)
  case neg =>
    refine (szPoint_no _ _ _ _ _ _ _ _ _ _ _ _ _ _ _ _ hm1_1 hm1_2 hm1_4 hm1_5 (by omega) (by omega) hs1).mono ?_
    rintro e w2 ⟨rfl, o2⟩
    go_wp2
    go_ret
    exact ⟨rfl, Old.trans O (Below.trans (b := _) oldB (Below.mono o2 (by simp <;> omega)))⟩
  have hn1_1 : n1_1 ≤ 1048576 := by omega
  have hn1_2 : n1_2 ≤ 1048576 := by omega
  have hn1_4 : n1_4 ≤ 1048576 := by omega
  have hn1_5 : n1_5 ≤ 1048576 := by omega
  refine (szPoint_yes _ _ _ _ _ _ _ _ _ _ _ _ _ _ _ _ hm1_1 hm1_2 hm1_4 hm1_5 (by omega) (by omega) hs1).mono ?_
  rintro e w2 ⟨rfl, o2⟩
  clear q_aQ_0 q_aQ_1 q_aQ_2 q_aQ_3 q_aQ_4 q_aQ_5 q_aQ
  replace B_aP := B_aP.old o2
  replace B_aQ := B_aQ.old o2
  replace O := Old.trans O o2
  have z2 := o2.size
  clear o2
  have hl1 : ¬ 1048576 - (n0_1 : Int) - (n0_2 : Int) - (n0_4 : Int) - (n0_5 : Int) - (n1_1 : Int) - (n1_2 : Int) - (n1_4 : Int) - (n1_5 : Int) < 0 := by omega
  have q_aP_0 := B_aP.cell 0 rfl
  have q_aP_1 := B_aP.cell 1 rfl
  have q_aP_2 := B_aP.cell 2 rfl
  have q_aP_3 := B_aP.cell 3 rfl
  have q_aP_4 := B_aP.cell 4 rfl
  have q_aP_5 := B_aP.cell 5 rfl
  have q_aP := B_aP.lt
  have q_aQ_0 := B_aQ.cell 0 rfl
  have q_aQ_1 := B_aQ.cell 1 rfl
  have q_aQ_2 := B_aQ.cell 2 rfl
  have q_aQ_3 := B_aQ.cell 3 rfl
  have q_aQ_4 := B_aQ.cell 4 rfl
  have q_aQ_5 := B_aQ.cell 5 rfl
  have q_aQ := B_aQ.lt
  have new2_aP : ¬ (w2.heap.size = w.heap.size) := (by omega)
  have enw2_aP : ¬ (w.heap.size = w2.heap.size) := (by omega)
  have new2_aQ : ¬ (w2.heap.size = w.heap.size + 1) := (by omega)
  have enw2_aQ : ¬ (w.heap.size + 1 = w2.heap.size) := (by omega)
  go_upto_region 8 with fail
  go_cut [6] (fun sl wx => ∃ (g : Nat) (A1 : Option Addr) (c1 : Nat) (A2 : Option Addr) (c2 : Nat), sl = .pointer (some ⟨g, 0, none⟩) ∧ w2.heap.size ≤ g ∧ Bx wx g #[.bool (sgnZ Z0), .slice A1 (Num.len (magZ Z0)) c1, .slice A2 (Num.len D0) c2] ∧ Row wx w2.heap.size A1 (Num.len (magZ Z0)) c1 (digI (magZ Z0)) ∧ Row wx w2.heap.size A2 (Num.len D0) c2 (digI D0) ∧ (Apart A1 (Num.len (magZ Z0)) A2 (Num.len D0)) ∧ Old w2 wx)
  case first =>
    go_region_held3 (fun w' => w'.cell? ⟨w.heap.size, 0, none⟩ = some (.bool v0_0) ∧ w'.cell? ⟨w.heap.size, 1, none⟩ = some (.slice A0_1 n0_1 c0_1) ∧ w'.cell? ⟨w.heap.size, 2, none⟩ = some (.slice A0_2 n0_2 c0_2) ∧ w'.cell? ⟨w.heap.size, 3, none⟩ = some (.bool v0_3) ∧ w'.cell? ⟨w.heap.size, 4, none⟩ = some (.slice A0_4 n0_4 c0_4) ∧ w'.cell? ⟨w.heap.size, 5, none⟩ = some (.slice A0_5 n0_5 c0_5) ∧ w'.cell? ⟨w.heap.size + 1, 0, none⟩ = some (.bool v1_0) ∧ w'.cell? ⟨w.heap.size + 1, 1, none⟩ = some (.slice A1_1 n1_1 c1_1) ∧ w'.cell? ⟨w.heap.size + 1, 2, none⟩ = some (.slice A1_2 n1_2 c1_2) ∧ w'.cell? ⟨w.heap.size + 1, 3, none⟩ = some (.bool v1_3) ∧ w'.cell? ⟨w.heap.size + 1, 4, none⟩ = some (.slice A1_4 n1_4 c1_4) ∧ w'.cell? ⟨w.heap.size + 1, 5, none⟩ = some (.slice A1_5 n1_5 c1_5)) (go_keep)
      (first
      | (go_at_call 6; (with_reducible refine (toPoint_any v0_0 A0_1 n0_1 c0_1 f0_1 A0_2 n0_2 c0_2 f0_2 v0_3 A0_4 n0_4 c0_4 f0_4 A0_5 n0_5 c0_5 f0_5 _ (h0_1.below (B := w.heap.size) (Below.trans (b := w2) O oldB) (Nat.le_refl _)) (h0_2.below (B := w.heap.size) (Below.trans (b := w2) O oldB) (Nat.le_refl _)) (h0_4.below (B := w.heap.size) (Below.trans (b := w2) O oldB) (Nat.le_refl _)) (h0_5.below (B := w.heap.size) (Below.trans (b := w2) O oldB) (Nat.le_refl _)) hn0_1 hn0_2 hn0_4 hn0_5).mono ?_); rintro e t1 ⟨A_t1_1, A_t1_2, A_t1_4, A_t1_5, rfl, R_t1_1, R_t1_2, R_t1_4, R_t1_5, ap_t1, o_t1⟩; (first | (clear qE0 qE1 qE2 fE0 fE1 fE2 qE) | skip); (first | (have E0 := Bx.old (Bx.new _ _ _) o_t1; have E : Bx t1 w2.heap.size #[.bool false, .slice none 0 0, .slice none 0 0] := E0; clear E0; have hE := E.lt) | (have E0 := Bx.old (Bx.drew (Bx.new _ _ _)) o_t1; have E : Bx t1 w2.heap.size #[.bool false, .slice none 0 0, .slice none 0 0] := E0; clear E0; have hE := E.lt) | (replace E := Bx.old E o_t1) | skip); replace o_t1 : Old w2 t1 := Below.trans (b := _) oldB (Below.mono o_t1 leA); have z_t1 := o_t1.size; have O_t1 := Old.trans O o_t1; clear q_aP_0 q_aP_1 q_aP_2 q_aP_3 q_aP_4 q_aP_5 q_aP q_aQ_0 q_aQ_1 q_aQ_2 q_aQ_3 q_aQ_4 q_aQ_5 q_aQ; have D1_aP := B_aP.old o_t1; have q_aP_0 := D1_aP.cell 0 rfl; have q_aP_1 := D1_aP.cell 1 rfl; have q_aP_2 := D1_aP.cell 2 rfl; have q_aP_3 := D1_aP.cell 3 rfl; have q_aP_4 := D1_aP.cell 4 rfl; have q_aP_5 := D1_aP.cell 5 rfl; have q_aP := D1_aP.lt; have D1_aQ := B_aQ.old o_t1; have q_aQ_0 := D1_aQ.cell 0 rfl; have q_aQ_1 := D1_aQ.cell 1 rfl; have q_aQ_2 := D1_aQ.cell 2 rfl; have q_aQ_3 := D1_aQ.cell 3 rfl; have q_aQ_4 := D1_aQ.cell 4 rfl; have q_aQ_5 := D1_aQ.cell 5 rfl; have q_aQ := D1_aQ.lt; have net1_aP : ¬ (t1.heap.size = w.heap.size) := (by omega); have ent1_aP : ¬ (w.heap.size = t1.heap.size) := (by omega); have net1_aQ : ¬ (t1.heap.size = w.heap.size + 1) := (by omega); have ent1_aQ : ¬ (w.heap.size + 1 = t1.heap.size) := (by omega); (first | (have qE0 := E.cell 0 rfl; have qE1 := E.cell 1 rfl; have qE2 := E.cell 2 rfl; have fE0 := E.frozen 0; have fE1 := E.frozen 1; have fE2 := E.frozen 2; have qE := E.lt) | skip))
      | (go_at_call 6; (with_reducible refine (toPoint_any v1_0 A1_1 n1_1 c1_1 f1_1 A1_2 n1_2 c1_2 f1_2 v1_3 A1_4 n1_4 c1_4 f1_4 A1_5 n1_5 c1_5 f1_5 _ (h1_1.below (B := w.heap.size) (Below.trans (b := t1) O_t1 oldB) (Nat.le_refl _)) (h1_2.below (B := w.heap.size) (Below.trans (b := t1) O_t1 oldB) (Nat.le_refl _)) (h1_4.below (B := w.heap.size) (Below.trans (b := t1) O_t1 oldB) (Nat.le_refl _)) (h1_5.below (B := w.heap.size) (Below.trans (b := t1) O_t1 oldB) (Nat.le_refl _)) hn1_1 hn1_2 hn1_4 hn1_5).mono ?_); rintro e t2 ⟨A_t2_1, A_t2_2, A_t2_4, A_t2_5, rfl, R_t2_1, R_t2_2, R_t2_4, R_t2_5, ap_t2, o_t2⟩; (first | (clear qE0 qE1 qE2 fE0 fE1 fE2 qE) | skip); (first | (have E0 := Bx.old (Bx.new _ _ _) o_t2; have E : Bx t2 t1.heap.size #[.bool false, .slice none 0 0, .slice none 0 0] := E0; clear E0; have hE := E.lt) | (have E0 := Bx.old (Bx.drew (Bx.new _ _ _)) o_t2; have E : Bx t2 t1.heap.size #[.bool false, .slice none 0 0, .slice none 0 0] := E0; clear E0; have hE := E.lt) | (replace E := Bx.old E o_t2) | skip); replace o_t2 : Old t1 t2 := Below.trans (b := _) oldB (Below.mono o_t2 leA); have z_t2 := o_t2.size; have O_t2 := Old.trans O_t1 o_t2; clear q_aP_0 q_aP_1 q_aP_2 q_aP_3 q_aP_4 q_aP_5 q_aP q_aQ_0 q_aQ_1 q_aQ_2 q_aQ_3 q_aQ_4 q_aQ_5 q_aQ; have D2_aP := D1_aP.old o_t2; have q_aP_0 := D2_aP.cell 0 rfl; have q_aP_1 := D2_aP.cell 1 rfl; have q_aP_2 := D2_aP.cell 2 rfl; have q_aP_3 := D2_aP.cell 3 rfl; have q_aP_4 := D2_aP.cell 4 rfl; have q_aP_5 := D2_aP.cell 5 rfl; have q_aP := D2_aP.lt; have D2_aQ := D1_aQ.old o_t2; have q_aQ_0 := D2_aQ.cell 0 rfl; have q_aQ_1 := D2_aQ.cell 1 rfl; have q_aQ_2 := D2_aQ.cell 2 rfl; have q_aQ_3 := D2_aQ.cell 3 rfl; have q_aQ_4 := D2_aQ.cell 4 rfl; have q_aQ_5 := D2_aQ.cell 5 rfl; have q_aQ := D2_aQ.lt; have net2_aP : ¬ (t2.heap.size = w.heap.size) := (by omega); have ent2_aP : ¬ (w.heap.size = t2.heap.size) := (by omega); have net2_aQ : ¬ (t2.heap.size = w.heap.size + 1) := (by omega); have ent2_aQ : ¬ (w.heap.size + 1 = t2.heap.size) := (by omega); replace R_t1_1 := Row.below R_t1_1 o_t2 (Nat.le_refl _); replace R_t1_2 := Row.below R_t1_2 o_t2 (Nat.le_refl _); replace R_t1_4 := Row.below R_t1_4 o_t2 (Nat.le_refl _); replace R_t1_5 := Row.below R_t1_5 o_t2 (Nat.le_refl _); (first | (have qE0 := E.cell 0 rfl; have qE1 := E.cell 1 rfl; have qE2 := E.cell 2 rfl; have fE0 := E.frozen 0; have fE1 := E.frozen 1; have fE2 := E.frozen 2; have qE := E.lt) | skip))
      | (go_at_call 5; refine (spec_SquareDistance _ _ _ _ _ _ _ _ _ _ _ _ _ _ _ _ _ _ _ _ _ _ _ _ _ _ _ _ _ _ _ _ _ _ _ _ _ _ _ _ _ _ _ _ _ (Row.below (B := t2.heap.size) R_t1_1 oldB (Nat.le_refl _)) (Row.below (B := t2.heap.size) R_t1_2 oldB (Nat.le_refl _)) (Row.below (B := t2.heap.size) R_t1_4 oldB (Nat.le_refl _)) (Row.below (B := t2.heap.size) R_t1_5 oldB (Nat.le_refl _)) (Row.below (B := t2.heap.size) R_t2_1 oldB (Nat.le_refl _)) (Row.below (B := t2.heap.size) R_t2_2 oldB (Nat.le_refl _)) (Row.below (B := t2.heap.size) R_t2_4 oldB (Nat.le_refl _)) (Row.below (B := t2.heap.size) R_t2_5 oldB (Nat.le_refl _)) hn0_1 hn0_2 hn0_4 hn0_5 hn1_1 hn1_2 hn1_4 hn1_5).mono ?_; rintro e tf ⟨⟨x0, x1, A_f_1, c_f_1, A_f_2, c_f_2, hv, he, R_f_1, R_f_2, ap_f⟩, o_f⟩; rw [HV0.out] at hv; obtain ⟨rfl, rfl⟩ := Prod.mk.inj hv; subst he; (first | (clear qE0 qE1 qE2 fE0 fE1 fE2 qE) | skip); (first | (have E0 := Bx.old (Bx.new _ _ _) o_f; have E : Bx tf t2.heap.size #[.bool false, .slice none 0 0, .slice none 0 0] := E0; clear E0; have hE := E.lt) | (have E0 := Bx.old (Bx.drew (Bx.new _ _ _)) o_f; have E : Bx tf t2.heap.size #[.bool false, .slice none 0 0, .slice none 0 0] := E0; clear E0; have hE := E.lt) | (replace E := Bx.old E o_f) | skip); replace o_f : Old t2 tf := Below.trans (b := _) oldB (Below.mono o_f leA); have z_f := o_f.size; have O_f := Old.trans O_t2 o_f; clear q_aP_0 q_aP_1 q_aP_2 q_aP_3 q_aP_4 q_aP_5 q_aP q_aQ_0 q_aQ_1 q_aQ_2 q_aQ_3 q_aQ_4 q_aQ_5 q_aQ; have DF_aP := D2_aP.old o_f; have q_aP_0 := DF_aP.cell 0 rfl; have q_aP_1 := DF_aP.cell 1 rfl; have q_aP_2 := DF_aP.cell 2 rfl; have q_aP_3 := DF_aP.cell 3 rfl; have q_aP_4 := DF_aP.cell 4 rfl; have q_aP_5 := DF_aP.cell 5 rfl; have q_aP := DF_aP.lt; have DF_aQ := D2_aQ.old o_f; have q_aQ_0 := DF_aQ.cell 0 rfl; have q_aQ_1 := DF_aQ.cell 1 rfl; have q_aQ_2 := DF_aQ.cell 2 rfl; have q_aQ_3 := DF_aQ.cell 3 rfl; have q_aQ_4 := DF_aQ.cell 4 rfl; have q_aQ_5 := DF_aQ.cell 5 rfl; have q_aQ := DF_aQ.lt; have netf_aP : ¬ (tf.heap.size = w.heap.size) := (by omega); have entf_aP : ¬ (w.heap.size = tf.heap.size) := (by omega); have netf_aQ : ¬ (tf.heap.size = w.heap.size + 1) := (by omega); have entf_aQ : ¬ (w.heap.size + 1 = tf.heap.size) := (by omega); (first | (have qE0 := E.cell 0 rfl; have qE1 := E.cell 1 rfl; have qE2 := E.cell 2 rfl; have fE0 := E.frozen 0; have fE1 := E.frozen 1; have fE2 := E.frozen 2; have qE := E.lt) | skip)))
    all_goals (go_wp2_with fail; go_meet; exact ⟨_, _, _, _, _, rfl, leA, (by first | (with_reducible exact Bx.new _ _ _) | (with_reducible exact Bx.put3 E _ _ _) | (with_reducible exact Bx.put3 (Bx.new _ _ _) _ _ _)), (by first | (with_reducible exact Row.more (Row.far_set (Row.far_set (Row.far_set R_f_1 (by first | (simp <;> done) | (simp; omega) | omega) _) (by first | (simp <;> done) | (simp; omega) | omega) _) (by first | (simp <;> done) | (simp; omega) | omega) _) leA) | (with_reducible exact Row.more (Row.below (B := tf.heap.size) R_f_1 oldB (Nat.le_refl _)) leA)), (by first | (with_reducible exact Row.more (Row.far_set (Row.far_set (Row.far_set R_f_2 (by first | (simp <;> done) | (simp; omega) | omega) _) (by first | (simp <;> done) | (simp; omega) | omega) _) (by first | (simp <;> done) | (simp; omega) | omega) _) leA) | (with_reducible exact Row.more (Row.below (B := tf.heap.size) R_f_2 oldB (Nat.le_refl _)) leA)), ap_f, (Below.trans (b := tf) (Old.trans (Old.trans o_t1 o_t2) o_f) oldB)⟩)
  case rest =>
  obtain ⟨g_w0, A_w0_1, c_w0_1, A_w0_2, c_w0_2, rfl, hg_w0, B_w0, R_w0_1, R_w0_2, ap_w0, o3⟩ := hcut
  obtain ⟨w3, hw⟩ : ∃ x, x = wc := ⟨_, rfl⟩
  subst hw
  clear q_aP_0 q_aP_1 q_aP_2 q_aP_3 q_aP_4 q_aP_5 q_aP q_aQ_0 q_aQ_1 q_aQ_2 q_aQ_3 q_aQ_4 q_aQ_5 q_aQ
  clear new2_aP enw2_aP new2_aQ enw2_aQ
  replace B_aP := B_aP.old o3
  replace B_aQ := B_aQ.old o3
  replace O := Old.trans O o3
  have z3 := o3.size
  clear o3
  have lim_w0_1 := R_w0_1.lim
  have low_w0_1 := Low.mono (lo' := w2.heap.size + 0) R_w0_1.low (by first | exact Nat.le_refl _ | (simp <;> omega))
  have lim_w0_2 := R_w0_2.lim
  have low_w0_2 := Low.mono (lo' := w2.heap.size + 0) R_w0_2.low (by first | exact Nat.le_refl _ | (simp <;> omega))
  have lt_w0 := B_w0.lt
  have off_w0_1 := Row.off R_w0_1 B_w0 (no_int3 _ _ _ _ _ _ _)
  have off_w0_2 := Row.off R_w0_2 B_w0 (no_int3 _ _ _ _ _ _ _)
  have q_aP_0 := B_aP.cell 0 rfl
  have q_aP_1 := B_aP.cell 1 rfl
  have q_aP_2 := B_aP.cell 2 rfl
  have q_aP_3 := B_aP.cell 3 rfl
  have q_aP_4 := B_aP.cell 4 rfl
  have q_aP_5 := B_aP.cell 5 rfl
  have q_aP := B_aP.lt
  go_wp2_with fail
  refine (toPoint_any _ _ _ _ _ _ _ _ _ _ _ _ _ _ _ _ _ _ _ (h0_1.below (B := w.heap.size) (Below.trans (b := w3) O oldB) (Nat.le_refl _)) (h0_2.below (B := w.heap.size) (Below.trans (b := w3) O oldB) (Nat.le_refl _)) (h0_4.below (B := w.heap.size) (Below.trans (b := w3) O oldB) (Nat.le_refl _)) (h0_5.below (B := w.heap.size) (Below.trans (b := w3) O oldB) (Nat.le_refl _)) hn0_1 hn0_2 hn0_4 hn0_5).mono ?_
  rintro e w4 ⟨A_t1_1, A_t1_2, A_t1_4, A_t1_5, rfl, R_t1_1, R_t1_2, R_t1_4, R_t1_5, ap_t1, o4⟩
  clear q_aP_0 q_aP_1 q_aP_2 q_aP_3 q_aP_4 q_aP_5 q_aP
  replace B_aP := B_aP.old o4
  replace B_aQ := B_aQ.old o4
  replace B_w0 := B_w0.old o4
  replace R_w0_1 := Row.below R_w0_1 o4 (Nat.le_refl _)
  replace R_w0_2 := Row.below R_w0_2 o4 (Nat.le_refl _)
  replace O := Old.trans O o4
  have z4 := o4.size
  clear o4
  have lim_t1_1 := R_t1_1.lim
  have low_t1_1 := Low.mono (lo' := w3.heap.size + 0) R_t1_1.low (by first | exact Nat.le_refl _ | (simp <;> omega))
  have lim_t1_2 := R_t1_2.lim
  have low_t1_2 := Low.mono (lo' := w3.heap.size + 0) R_t1_2.low (by first | exact Nat.le_refl _ | (simp <;> omega))
  have lim_t1_4 := R_t1_4.lim
  have low_t1_4 := Low.mono (lo' := w3.heap.size + 0) R_t1_4.low (by first | exact Nat.le_refl _ | (simp <;> omega))
  have lim_t1_5 := R_t1_5.lim
  have low_t1_5 := Low.mono (lo' := w3.heap.size + 0) R_t1_5.low (by first | exact Nat.le_refl _ | (simp <;> omega))
  have q_aQ_0 := B_aQ.cell 0 rfl
  have q_aQ_1 := B_aQ.cell 1 rfl
  have q_aQ_2 := B_aQ.cell 2 rfl
  have q_aQ_3 := B_aQ.cell 3 rfl
  have q_aQ_4 := B_aQ.cell 4 rfl
  have q_aQ_5 := B_aQ.cell 5 rfl
  have q_aQ := B_aQ.lt
  go_wp2_with fail
  refine (toPoint_any _ _ _ _ _ _ _ _ _ _ _ _ _ _ _ _ _ _ _ (h1_1.below (B := w.heap.size) (Below.trans (b := w4) O oldB) (Nat.le_refl _)) (h1_2.below (B := w.heap.size) (Below.trans (b := w4) O oldB) (Nat.le_refl _)) (h1_4.below (B := w.heap.size) (Below.trans (b := w4) O oldB) (Nat.le_refl _)) (h1_5.below (B := w.heap.size) (Below.trans (b := w4) O oldB) (Nat.le_refl _)) hn1_1 hn1_2 hn1_4 hn1_5).mono ?_
  rintro e w5 ⟨A_t2_1, A_t2_2, A_t2_4, A_t2_5, rfl, R_t2_1, R_t2_2, R_t2_4, R_t2_5, ap_t2, o5⟩
  clear q_aQ_0 q_aQ_1 q_aQ_2 q_aQ_3 q_aQ_4 q_aQ_5 q_aQ
  have B_t1 : Bx w5 w4.heap.size #[.bool v0_0, .slice A_t1_1 n0_1 n0_1, .slice A_t1_2 n0_2 n0_2, .bool v0_3, .slice A_t1_4 n0_4 n0_4, .slice A_t1_5 n0_5 n0_5] := Bx.old (Bx.new _ _ _) o5
  have zb5 := B_t1.lt
  replace o5 : Old w4 w5 := Below.trans (b := _) oldB (Below.mono o5 (by simp <;> omega))
  replace B_aP := B_aP.old o5
  replace B_aQ := B_aQ.old o5
  replace B_w0 := B_w0.old o5
  replace R_w0_1 := Row.below R_w0_1 o5 (Nat.le_refl _)
  replace R_w0_2 := Row.below R_w0_2 o5 (Nat.le_refl _)
  replace R_t1_1 := Row.below R_t1_1 o5 (Nat.le_refl _)
  replace R_t1_2 := Row.below R_t1_2 o5 (Nat.le_refl _)
  replace R_t1_4 := Row.below R_t1_4 o5 (Nat.le_refl _)
  replace R_t1_5 := Row.below R_t1_5 o5 (Nat.le_refl _)
  replace O := Old.trans O o5
  have z5 := o5.size
  clear o5
  have lim_t2_1 := R_t2_1.lim
  have low_t2_1 := Low.mono (lo' := w4.heap.size + 1) R_t2_1.low (by first | exact Nat.le_refl _ | (simp <;> omega))
  have lim_t2_2 := R_t2_2.lim
  have low_t2_2 := Low.mono (lo' := w4.heap.size + 1) R_t2_2.low (by first | exact Nat.le_refl _ | (simp <;> omega))
  have lim_t2_4 := R_t2_4.lim
  have low_t2_4 := Low.mono (lo' := w4.heap.size + 1) R_t2_4.low (by first | exact Nat.le_refl _ | (simp <;> omega))
  have lim_t2_5 := R_t2_5.lim
  have low_t2_5 := Low.mono (lo' := w4.heap.size + 1) R_t2_5.low (by first | exact Nat.le_refl _ | (simp <;> omega))
  have q_t1_0 := B_t1.cell 0 rfl
  have q_t1_1 := B_t1.cell 1 rfl
  have q_t1_2 := B_t1.cell 2 rfl
  have q_t1_3 := B_t1.cell 3 rfl
  have q_t1_4 := B_t1.cell 4 rfl
  have q_t1_5 := B_t1.cell 5 rfl
  have q_t1 := B_t1.lt
  go_wp2_with fail
  refine (impl_SquareDistance _ _ _ _ _ _ _ _ _ _ _ _ _ _ _ _ _ _ _ _ _ _ _ _ _ _ _ _ _ _ _ _ _ _ _ _ _ _ _ _ _ _ _ _ _ (Row.below (B := w5.heap.size) R_t1_1 oldB (Nat.le_refl _)) (Row.below (B := w5.heap.size) R_t1_2 oldB (Nat.le_refl _)) (Row.below (B := w5.heap.size) R_t1_4 oldB (Nat.le_refl _)) (Row.below (B := w5.heap.size) R_t1_5 oldB (Nat.le_refl _)) (Row.below (B := w5.heap.size) R_t2_1 oldB (Nat.le_refl _)) (Row.below (B := w5.heap.size) R_t2_2 oldB (Nat.le_refl _)) (Row.below (B := w5.heap.size) R_t2_4 oldB (Nat.le_refl _)) (Row.below (B := w5.heap.size) R_t2_5 oldB (Nat.le_refl _)) hn0_1 hn0_2 hn0_4 hn0_5 hn1_1 hn1_2 hn1_4 hn1_5).mono ?_
  rintro e w6 ⟨⟨x0, x1, A_g0_1, c_g0_1, A_g0_2, c_g0_2, hv, he, R_g0_1, R_g0_2, ap_g0⟩, o6⟩
  rw [HV0.out] at hv
  obtain ⟨rfl, rfl⟩ := Prod.mk.inj hv
  subst he
  clear q_t1_0 q_t1_1 q_t1_2 q_t1_3 q_t1_4 q_t1_5 q_t1
  have B_t2 : Bx w6 w5.heap.size #[.bool v1_0, .slice A_t2_1 n1_1 n1_1, .slice A_t2_2 n1_2 n1_2, .bool v1_3, .slice A_t2_4 n1_4 n1_4, .slice A_t2_5 n1_5 n1_5] := Bx.old (Bx.new _ _ _) o6
  have zb6 := B_t2.lt
  replace o6 : Old w5 w6 := Below.trans (b := _) oldB (Below.mono o6 (by simp <;> omega))
  replace B_aP := B_aP.old o6
  replace B_aQ := B_aQ.old o6
  replace B_w0 := B_w0.old o6
  replace B_t1 := B_t1.old o6
  replace R_w0_1 := Row.below R_w0_1 o6 (Nat.le_refl _)
  replace R_w0_2 := Row.below R_w0_2 o6 (Nat.le_refl _)
  replace R_t1_1 := Row.below R_t1_1 o6 (Nat.le_refl _)
  replace R_t1_2 := Row.below R_t1_2 o6 (Nat.le_refl _)
  replace R_t1_4 := Row.below R_t1_4 o6 (Nat.le_refl _)
  replace R_t1_5 := Row.below R_t1_5 o6 (Nat.le_refl _)
  replace R_t2_1 := Row.below R_t2_1 o6 (Nat.le_refl _)
  replace R_t2_2 := Row.below R_t2_2 o6 (Nat.le_refl _)
  replace R_t2_4 := Row.below R_t2_4 o6 (Nat.le_refl _)
  replace R_t2_5 := Row.below R_t2_5 o6 (Nat.le_refl _)
  replace O := Old.trans O o6
  have z6 := o6.size
  clear o6
  have lim_g0_1 := R_g0_1.lim
  have low_g0_1 := Low.mono (lo' := w5.heap.size + 1) R_g0_1.low (by first | exact Nat.le_refl _ | (simp <;> omega))
  have lim_g0_2 := R_g0_2.lim
  have low_g0_2 := Low.mono (lo' := w5.heap.size + 1) R_g0_2.low (by first | exact Nat.le_refl _ | (simp <;> omega))
  have q_w0_0 := B_w0.cell 0 rfl
  have q_w0_1 := B_w0.cell 1 rfl
  have q_w0_2 := B_w0.cell 2 rfl
  have q_w0 := B_w0.lt
  go_wp2_with fail
  refine (eqRat_yes _ _ _ _ _ _ _ _ _ _ _ _ _ _ _ _ _ _ _ _ (Row.below (B := w6.heap.size) R_g0_1 oldB (Nat.le_refl _)) (Row.below (B := w6.heap.size) R_w0_1 oldB (Nat.le_refl _)) (fun _ _ => rfl) L_0_1 (Row.below (B := w6.heap.size) R_g0_2 oldB (Nat.le_refl _)) (Row.below (B := w6.heap.size) R_w0_2 oldB (Nat.le_refl _)) (fun _ _ => rfl) L_0_2).mono ?_
  rintro e w7 ⟨rfl, o7⟩
  clear q_w0_0 q_w0_1 q_w0_2 q_w0
  have B_g0 : Bx w7 w6.heap.size #[.bool (sgnZ Z0), .slice A_g0_1 (Num.len (magZ Z0)) c_g0_1, .slice A_g0_2 (Num.len D0) c_g0_2] := Bx.old (Bx.new _ _ _) o7
  have zb7 := B_g0.lt
  replace o7 : Old w6 w7 := Below.trans (b := _) oldB (Below.mono o7 (by simp <;> omega))
  replace B_aP := B_aP.old o7
  replace B_aQ := B_aQ.old o7
  replace B_w0 := B_w0.old o7
  replace B_t1 := B_t1.old o7
  replace B_t2 := B_t2.old o7
  replace R_w0_1 := Row.below R_w0_1 o7 (Nat.le_refl _)
  replace R_w0_2 := Row.below R_w0_2 o7 (Nat.le_refl _)
  replace R_t1_1 := Row.below R_t1_1 o7 (Nat.le_refl _)
  replace R_t1_2 := Row.below R_t1_2 o7 (Nat.le_refl _)
  replace R_t1_4 := Row.below R_t1_4 o7 (Nat.le_refl _)
  replace R_t1_5 := Row.below R_t1_5 o7 (Nat.le_refl _)
  replace R_t2_1 := Row.below R_t2_1 o7 (Nat.le_refl _)
  replace R_t2_2 := Row.below R_t2_2 o7 (Nat.le_refl _)
  replace R_t2_4 := Row.below R_t2_4 o7 (Nat.le_refl _)
  replace R_t2_5 := Row.below R_t2_5 o7 (Nat.le_refl _)
  replace R_g0_1 := Row.below R_g0_1 o7 (Nat.le_refl _)
  replace R_g0_2 := Row.below R_g0_2 o7 (Nat.le_refl _)
  replace O := Old.trans O o7
  have z7 := o7.size
  clear o7
  have q_aP_0 := B_aP.cell 0 rfl
  have q_aP_1 := B_aP.cell 1 rfl
  have q_aP_2 := B_aP.cell 2 rfl
  have q_aP_3 := B_aP.cell 3 rfl
  have q_aP_4 := B_aP.cell 4 rfl
  have q_aP_5 := B_aP.cell 5 rfl
  have q_aP := B_aP.lt
  have q_t1_0 := B_t1.cell 0 rfl
  have q_t1_1 := B_t1.cell 1 rfl
  have q_t1_2 := B_t1.cell 2 rfl
  have q_t1_3 := B_t1.cell 3 rfl
  have q_t1_4 := B_t1.cell 4 rfl
  have q_t1_5 := B_t1.cell 5 rfl
  have q_t1 := B_t1.lt
  go_upto_region 14 with fail
  go_cut [44] (fun sl wx => sl = .bool false ∧ Old w7 wx)
  case first =>
    go_region_held3 (fun w' => w'.cell? ⟨w.heap.size, 0, none⟩ = some (.bool v0_0) ∧ w'.cell? ⟨w.heap.size, 1, none⟩ = some (.slice A0_1 n0_1 c0_1) ∧ w'.cell? ⟨w.heap.size, 2, none⟩ = some (.slice A0_2 n0_2 c0_2) ∧ w'.cell? ⟨w.heap.size, 3, none⟩ = some (.bool v0_3) ∧ w'.cell? ⟨w.heap.size, 4, none⟩ = some (.slice A0_4 n0_4 c0_4) ∧ w'.cell? ⟨w.heap.size, 5, none⟩ = some (.slice A0_5 n0_5 c0_5) ∧ w'.cell? ⟨w4.heap.size, 0, none⟩ = some (.bool v0_0) ∧ w'.cell? ⟨w4.heap.size, 1, none⟩ = some (.slice A_t1_1 n0_1 n0_1) ∧ w'.cell? ⟨w4.heap.size, 2, none⟩ = some (.slice A_t1_2 n0_2 n0_2) ∧ w'.cell? ⟨w4.heap.size, 3, none⟩ = some (.bool v0_3) ∧ w'.cell? ⟨w4.heap.size, 4, none⟩ = some (.slice A_t1_4 n0_4 n0_4) ∧ w'.cell? ⟨w4.heap.size, 5, none⟩ = some (.slice A_t1_5 n0_5 n0_5)) (go_keep)
      (first
      | (go_at_call 6; refine (toPoint_any v0_0 A0_1 n0_1 c0_1 f0_1 A0_2 n0_2 c0_2 f0_2 v0_3 A0_4 n0_4 c0_4 f0_4 A0_5 n0_5 c0_5 f0_5 _ (h0_1.below (B := w.heap.size) (Below.trans (b := w7) O oldB) (Nat.le_refl _)) (h0_2.below (B := w.heap.size) (Below.trans (b := w7) O oldB) (Nat.le_refl _)) (h0_4.below (B := w.heap.size) (Below.trans (b := w7) O oldB) (Nat.le_refl _)) (h0_5.below (B := w.heap.size) (Below.trans (b := w7) O oldB) (Nat.le_refl _)) hn0_1 hn0_2 hn0_4 hn0_5).mono ?_; rintro e wt ⟨A_t_1, A_t_2, A_t_4, A_t_5, rfl, R_t_1, R_t_2, R_t_4, R_t_5, ap_t, o6⟩; replace o6 : Old w7 wt := Below.trans (b := _) oldB (Below.mono o6 leA); clear q_aP_0 q_aP_1 q_aP_2 q_aP_3 q_aP_4 q_aP_5 q_aP q_t1_0 q_t1_1 q_t1_2 q_t1_3 q_t1_4 q_t1_5 q_t1; have D_aP := B_aP.old o6; have q_aP_0 := D_aP.cell 0 rfl; have q_aP_1 := D_aP.cell 1 rfl; have q_aP_2 := D_aP.cell 2 rfl; have q_aP_3 := D_aP.cell 3 rfl; have q_aP_4 := D_aP.cell 4 rfl; have q_aP_5 := D_aP.cell 5 rfl; have q_aP := D_aP.lt; have D_t1 := B_t1.old o6; have q_t1_0 := D_t1.cell 0 rfl; have q_t1_1 := D_t1.cell 1 rfl; have q_t1_2 := D_t1.cell 2 rfl; have q_t1_3 := D_t1.cell 3 rfl; have q_t1_4 := D_t1.cell 4 rfl; have q_t1_5 := D_t1.cell 5 rfl; have q_t1 := D_t1.lt)
      | (go_at_call 9; refine (eqPoint_yes _ _ _ _ _ _ _ _ _ _ _ _ _ _ _ _ _ _ _ _ _ _ _ _ _ _ _ _ _ _ _ _ _ _ _ _ _ _ _ (Row.below (B := w7.heap.size) R_t1_1 (Below.trans (b := wt) o6 oldB) (Nat.le_refl _)) (Row.below (B := wt.heap.size) R_t_1 oldB (Nat.le_refl _)) (fun _ _ => rfl) hn0_1 (Row.below (B := w7.heap.size) R_t1_2 (Below.trans (b := wt) o6 oldB) (Nat.le_refl _)) (Row.below (B := wt.heap.size) R_t_2 oldB (Nat.le_refl _)) (fun _ _ => rfl) hn0_2 (Row.below (B := w7.heap.size) R_t1_4 (Below.trans (b := wt) o6 oldB) (Nat.le_refl _)) (Row.below (B := wt.heap.size) R_t_4 oldB (Nat.le_refl _)) (fun _ _ => rfl) hn0_4 (Row.below (B := w7.heap.size) R_t1_5 (Below.trans (b := wt) o6 oldB) (Nat.le_refl _)) (Row.below (B := wt.heap.size) R_t_5 oldB (Nat.le_refl _)) (fun _ _ => rfl) hn0_5).mono ?_; rintro e wu ⟨rfl, o7⟩; replace o7 : Old wt wu := Below.trans (b := _) oldB (Below.mono o7 leA); clear q_aP_0 q_aP_1 q_aP_2 q_aP_3 q_aP_4 q_aP_5 q_aP q_t1_0 q_t1_1 q_t1_2 q_t1_3 q_t1_4 q_t1_5 q_t1; have E_aP := D_aP.old o7; have q_aP_0 := E_aP.cell 0 rfl; have q_aP_1 := E_aP.cell 1 rfl; have q_aP_2 := E_aP.cell 2 rfl; have q_aP_3 := E_aP.cell 3 rfl; have q_aP_4 := E_aP.cell 4 rfl; have q_aP_5 := E_aP.cell 5 rfl; have q_aP := E_aP.lt; have E_t1 := D_t1.old o7; have q_t1_0 := E_t1.cell 0 rfl; have q_t1_1 := E_t1.cell 1 rfl; have q_t1_2 := E_t1.cell 2 rfl; have q_t1_3 := E_t1.cell 3 rfl; have q_t1_4 := E_t1.cell 4 rfl; have q_t1_5 := E_t1.cell 5 rfl; have q_t1 := E_t1.lt))
    all_goals (go_wp2_with fail; go_meet; exact ⟨rfl, Old.trans o6 (Below.trans (b := _) o7 oldB)⟩)
  case rest =>
  obtain ⟨rfl, o8⟩ := hcut
  obtain ⟨w8, hw⟩ : ∃ x, x = wc := ⟨_, rfl⟩
  subst hw
  clear q_aP_0 q_aP_1 q_aP_2 q_aP_3 q_aP_4 q_aP_5 q_aP q_t1_0 q_t1_1 q_t1_2 q_t1_3 q_t1_4 q_t1_5 q_t1
  replace B_aP := B_aP.old o8
  replace B_aQ := B_aQ.old o8
  replace B_w0 := B_w0.old o8
  replace B_t1 := B_t1.old o8
  replace B_t2 := B_t2.old o8
  replace B_g0 := B_g0.old o8
  replace R_w0_1 := Row.below R_w0_1 o8 (Nat.le_refl _)
  replace R_w0_2 := Row.below R_w0_2 o8 (Nat.le_refl _)
  replace R_t1_1 := Row.below R_t1_1 o8 (Nat.le_refl _)
  replace R_t1_2 := Row.below R_t1_2 o8 (Nat.le_refl _)
  replace R_t1_4 := Row.below R_t1_4 o8 (Nat.le_refl _)
  replace R_t1_5 := Row.below R_t1_5 o8 (Nat.le_refl _)
  replace R_t2_1 := Row.below R_t2_1 o8 (Nat.le_refl _)
  replace R_t2_2 := Row.below R_t2_2 o8 (Nat.le_refl _)
  replace R_t2_4 := Row.below R_t2_4 o8 (Nat.le_refl _)
  replace R_t2_5 := Row.below R_t2_5 o8 (Nat.le_refl _)
  replace R_g0_1 := Row.below R_g0_1 o8 (Nat.le_refl _)
  replace R_g0_2 := Row.below R_g0_2 o8 (Nat.le_refl _)
  replace O := Old.trans O o8
  have z8 := o8.size
  clear o8
  have q_aQ_0 := B_aQ.cell 0 rfl
  have q_aQ_1 := B_aQ.cell 1 rfl
  have q_aQ_2 := B_aQ.cell 2 rfl
  have q_aQ_3 := B_aQ.cell 3 rfl
  have q_aQ_4 := B_aQ.cell 4 rfl
  have q_aQ_5 := B_aQ.cell 5 rfl
  have q_aQ := B_aQ.lt
  have q_t2_0 := B_t2.cell 0 rfl
  have q_t2_1 := B_t2.cell 1 rfl
  have q_t2_2 := B_t2.cell 2 rfl
  have q_t2_3 := B_t2.cell 3 rfl
  have q_t2_4 := B_t2.cell 4 rfl
  have q_t2_5 := B_t2.cell 5 rfl
  have q_t2 := B_t2.lt
  go_upto_region 16 with fail
  go_cut [49] (fun sl wx => sl = .bool false ∧ Old w8 wx)
  case first =>
    go_region_held3 (fun w' => w'.cell? ⟨w.heap.size + 1, 0, none⟩ = some (.bool v1_0) ∧ w'.cell? ⟨w.heap.size + 1, 1, none⟩ = some (.slice A1_1 n1_1 c1_1) ∧ w'.cell? ⟨w.heap.size + 1, 2, none⟩ = some (.slice A1_2 n1_2 c1_2) ∧ w'.cell? ⟨w.heap.size + 1, 3, none⟩ = some (.bool v1_3) ∧ w'.cell? ⟨w.heap.size + 1, 4, none⟩ = some (.slice A1_4 n1_4 c1_4) ∧ w'.cell? ⟨w.heap.size + 1, 5, none⟩ = some (.slice A1_5 n1_5 c1_5) ∧ w'.cell? ⟨w5.heap.size, 0, none⟩ = some (.bool v1_0) ∧ w'.cell? ⟨w5.heap.size, 1, none⟩ = some (.slice A_t2_1 n1_1 n1_1) ∧ w'.cell? ⟨w5.heap.size, 2, none⟩ = some (.slice A_t2_2 n1_2 n1_2) ∧ w'.cell? ⟨w5.heap.size, 3, none⟩ = some (.bool v1_3) ∧ w'.cell? ⟨w5.heap.size, 4, none⟩ = some (.slice A_t2_4 n1_4 n1_4) ∧ w'.cell? ⟨w5.heap.size, 5, none⟩ = some (.slice A_t2_5 n1_5 n1_5)) (go_keep)
      (first
      | (go_at_call 6; refine (toPoint_any v1_0 A1_1 n1_1 c1_1 f1_1 A1_2 n1_2 c1_2 f1_2 v1_3 A1_4 n1_4 c1_4 f1_4 A1_5 n1_5 c1_5 f1_5 _ (h1_1.below (B := w.heap.size) (Below.trans (b := w8) O oldB) (Nat.le_refl _)) (h1_2.below (B := w.heap.size) (Below.trans (b := w8) O oldB) (Nat.le_refl _)) (h1_4.below (B := w.heap.size) (Below.trans (b := w8) O oldB) (Nat.le_refl _)) (h1_5.below (B := w.heap.size) (Below.trans (b := w8) O oldB) (Nat.le_refl _)) hn1_1 hn1_2 hn1_4 hn1_5).mono ?_; rintro e wt ⟨A_t_1, A_t_2, A_t_4, A_t_5, rfl, R_t_1, R_t_2, R_t_4, R_t_5, ap_t, o6⟩; replace o6 : Old w8 wt := Below.trans (b := _) oldB (Below.mono o6 leA); clear q_aQ_0 q_aQ_1 q_aQ_2 q_aQ_3 q_aQ_4 q_aQ_5 q_aQ q_t2_0 q_t2_1 q_t2_2 q_t2_3 q_t2_4 q_t2_5 q_t2; have D_aQ := B_aQ.old o6; have q_aQ_0 := D_aQ.cell 0 rfl; have q_aQ_1 := D_aQ.cell 1 rfl; have q_aQ_2 := D_aQ.cell 2 rfl; have q_aQ_3 := D_aQ.cell 3 rfl; have q_aQ_4 := D_aQ.cell 4 rfl; have q_aQ_5 := D_aQ.cell 5 rfl; have q_aQ := D_aQ.lt; have D_t2 := B_t2.old o6; have q_t2_0 := D_t2.cell 0 rfl; have q_t2_1 := D_t2.cell 1 rfl; have q_t2_2 := D_t2.cell 2 rfl; have q_t2_3 := D_t2.cell 3 rfl; have q_t2_4 := D_t2.cell 4 rfl; have q_t2_5 := D_t2.cell 5 rfl; have q_t2 := D_t2.lt)
      | (go_at_call 9; refine (eqPoint_yes _ _ _ _ _ _ _ _ _ _ _ _ _ _ _ _ _ _ _ _ _ _ _ _ _ _ _ _ _ _ _ _ _ _ _ _ _ _ _ (Row.below (B := w8.heap.size) R_t2_1 (Below.trans (b := wt) o6 oldB) (Nat.le_refl _)) (Row.below (B := wt.heap.size) R_t_1 oldB (Nat.le_refl _)) (fun _ _ => rfl) hn1_1 (Row.below (B := w8.heap.size) R_t2_2 (Below.trans (b := wt) o6 oldB) (Nat.le_refl _)) (Row.below (B := wt.heap.size) R_t_2 oldB (Nat.le_refl _)) (fun _ _ => rfl) hn1_2 (Row.below (B := w8.heap.size) R_t2_4 (Below.trans (b := wt) o6 oldB) (Nat.le_refl _)) (Row.below (B := wt.heap.size) R_t_4 oldB (Nat.le_refl _)) (fun _ _ => rfl) hn1_4 (Row.below (B := w8.heap.size) R_t2_5 (Below.trans (b := wt) o6 oldB) (Nat.le_refl _)) (Row.below (B := wt.heap.size) R_t_5 oldB (Nat.le_refl _)) (fun _ _ => rfl) hn1_5).mono ?_; rintro e wu ⟨rfl, o7⟩; replace o7 : Old wt wu := Below.trans (b := _) oldB (Below.mono o7 leA); clear q_aQ_0 q_aQ_1 q_aQ_2 q_aQ_3 q_aQ_4 q_aQ_5 q_aQ q_t2_0 q_t2_1 q_t2_2 q_t2_3 q_t2_4 q_t2_5 q_t2; have E_aQ := D_aQ.old o7; have q_aQ_0 := E_aQ.cell 0 rfl; have q_aQ_1 := E_aQ.cell 1 rfl; have q_aQ_2 := E_aQ.cell 2 rfl; have q_aQ_3 := E_aQ.cell 3 rfl; have q_aQ_4 := E_aQ.cell 4 rfl; have q_aQ_5 := E_aQ.cell 5 rfl; have q_aQ := E_aQ.lt; have E_t2 := D_t2.old o7; have q_t2_0 := E_t2.cell 0 rfl; have q_t2_1 := E_t2.cell 1 rfl; have q_t2_2 := E_t2.cell 2 rfl; have q_t2_3 := E_t2.cell 3 rfl; have q_t2_4 := E_t2.cell 4 rfl; have q_t2_5 := E_t2.cell 5 rfl; have q_t2 := E_t2.lt))
    all_goals (go_wp2_with fail; go_meet; exact ⟨rfl, Old.trans o6 (Below.trans (b := _) o7 oldB)⟩)
  case rest =>
  obtain ⟨rfl, o9⟩ := hcut
  obtain ⟨w9, hw⟩ : ∃ x, x = wc := ⟨_, rfl⟩
  subst hw
  clear q_aQ_0 q_aQ_1 q_aQ_2 q_aQ_3 q_aQ_4 q_aQ_5 q_aQ q_t2_0 q_t2_1 q_t2_2 q_t2_3 q_t2_4 q_t2_5 q_t2
  replace B_aP := B_aP.old o9
  replace B_aQ := B_aQ.old o9
  replace B_w0 := B_w0.old o9
  replace B_t1 := B_t1.old o9
  replace B_t2 := B_t2.old o9
  replace B_g0 := B_g0.old o9
  replace R_w0_1 := Row.below R_w0_1 o9 (Nat.le_refl _)
  replace R_w0_2 := Row.below R_w0_2 o9 (Nat.le_refl _)
  replace R_t1_1 := Row.below R_t1_1 o9 (Nat.le_refl _)
  replace R_t1_2 := Row.below R_t1_2 o9 (Nat.le_refl _)
  replace R_t1_4 := Row.below R_t1_4 o9 (Nat.le_refl _)
  replace R_t1_5 := Row.below R_t1_5 o9 (Nat.le_refl _)
  replace R_t2_1 := Row.below R_t2_1 o9 (Nat.le_refl _)
  replace R_t2_2 := Row.below R_t2_2 o9 (Nat.le_refl _)
  replace R_t2_4 := Row.below R_t2_4 o9 (Nat.le_refl _)
  replace R_t2_5 := Row.below R_t2_5 o9 (Nat.le_refl _)
  replace R_g0_1 := Row.below R_g0_1 o9 (Nat.le_refl _)
  replace R_g0_2 := Row.below R_g0_2 o9 (Nat.le_refl _)
  replace O := Old.trans O o9
  have z9 := o9.size
  clear o9
  have q_t1_0 := B_t1.cell 0 rfl
  have q_t1_1 := B_t1.cell 1 rfl
  have q_t1_2 := B_t1.cell 2 rfl
  have q_t1_3 := B_t1.cell 3 rfl
  have q_t1_4 := B_t1.cell 4 rfl
  have q_t1_5 := B_t1.cell 5 rfl
  have q_t1 := B_t1.lt
  go_wp2_with fail
  refine (markPoint_any _ _ _ _ _ _ _ _ _ _ _ _ _ _ _ _ _ _ _ _ _ _ _ _ R_t1_1 R_t1_2 R_t1_4 R_t1_5 ap_t1 hn0_1 hn0_2 hn0_4 hn0_5 (by omega) (by omega)).mono ?_
  rintro e w10 ⟨rfl, S_1, S_2, S_4, S_5, wm10_0, wm10_1, wm10_2, G_1, G_2, G_4, G_5⟩
  clear q_t1_0 q_t1_1 q_t1_2 q_t1_3 q_t1_4 q_t1_5 q_t1
  clear R_t1_1
  have R_t1_1 := S_1
  clear S_1
  clear R_t1_2
  have R_t1_2 := S_2
  clear S_2
  clear R_t1_4
  have R_t1_4 := S_4
  clear S_4
  clear R_t1_5
  have R_t1_5 := S_5
  clear S_5
  replace R_w0_1 := Row.apart R_w0_1 G_1 lim_w0_1 low_w0_1 lim_t1_1 low_t1_1 (by omega)
  replace R_w0_2 := Row.apart R_w0_2 G_1 lim_w0_2 low_w0_2 lim_t1_1 low_t1_1 (by omega)
  replace R_t2_1 := Row.apart R_t2_1 G_1 lim_t2_1 low_t2_1 lim_t1_1 low_t1_1 (by omega)
  replace R_t2_2 := Row.apart R_t2_2 G_1 lim_t2_2 low_t2_2 lim_t1_1 low_t1_1 (by omega)
  replace R_t2_4 := Row.apart R_t2_4 G_1 lim_t2_4 low_t2_4 lim_t1_1 low_t1_1 (by omega)
  replace R_t2_5 := Row.apart R_t2_5 G_1 lim_t2_5 low_t2_5 lim_t1_1 low_t1_1 (by omega)
  replace R_g0_1 := Row.apart R_g0_1 G_1 lim_g0_1 low_g0_1 lim_t1_1 low_t1_1 (by omega)
  replace R_g0_2 := Row.apart R_g0_2 G_1 lim_g0_2 low_g0_2 lim_t1_1 low_t1_1 (by omega)
  replace B_aP := B_aP.apart G_1 low_t1_1 lim_t1_1 (by omega)
  replace B_aQ := B_aQ.apart G_1 low_t1_1 lim_t1_1 (by omega)
  replace B_w0 := B_w0.apart G_1 low_t1_1 lim_t1_1 (by omega)
  replace B_t1 := B_t1.apart G_1 low_t1_1 lim_t1_1 (by omega)
  replace B_t2 := B_t2.apart G_1 low_t1_1 lim_t1_1 (by omega)
  replace B_g0 := B_g0.apart G_1 low_t1_1 lim_t1_1 (by omega)
  replace O := Below.grown O G_1 O.size (low_t1_1.own (by omega))
  have z10_0 := G_1.size
  clear G_1
  replace R_w0_1 := Row.apart R_w0_1 G_2 lim_w0_1 low_w0_1 lim_t1_2 low_t1_2 (by omega)
  replace R_w0_2 := Row.apart R_w0_2 G_2 lim_w0_2 low_w0_2 lim_t1_2 low_t1_2 (by omega)
  replace R_t2_1 := Row.apart R_t2_1 G_2 lim_t2_1 low_t2_1 lim_t1_2 low_t1_2 (by omega)
  replace R_t2_2 := Row.apart R_t2_2 G_2 lim_t2_2 low_t2_2 lim_t1_2 low_t1_2 (by omega)
  replace R_t2_4 := Row.apart R_t2_4 G_2 lim_t2_4 low_t2_4 lim_t1_2 low_t1_2 (by omega)
  replace R_t2_5 := Row.apart R_t2_5 G_2 lim_t2_5 low_t2_5 lim_t1_2 low_t1_2 (by omega)
  replace R_g0_1 := Row.apart R_g0_1 G_2 lim_g0_1 low_g0_1 lim_t1_2 low_t1_2 (by omega)
  replace R_g0_2 := Row.apart R_g0_2 G_2 lim_g0_2 low_g0_2 lim_t1_2 low_t1_2 (by omega)
  replace B_aP := B_aP.apart G_2 low_t1_2 lim_t1_2 (by omega)
  replace B_aQ := B_aQ.apart G_2 low_t1_2 lim_t1_2 (by omega)
  replace B_w0 := B_w0.apart G_2 low_t1_2 lim_t1_2 (by omega)
  replace B_t1 := B_t1.apart G_2 low_t1_2 lim_t1_2 (by omega)
  replace B_t2 := B_t2.apart G_2 low_t1_2 lim_t1_2 (by omega)
  replace B_g0 := B_g0.apart G_2 low_t1_2 lim_t1_2 (by omega)
  replace O := Below.grown O G_2 O.size (low_t1_2.own (by omega))
  have z10_1 := G_2.size
  clear G_2
  replace R_w0_1 := Row.apart R_w0_1 G_4 lim_w0_1 low_w0_1 lim_t1_4 low_t1_4 (by omega)
  replace R_w0_2 := Row.apart R_w0_2 G_4 lim_w0_2 low_w0_2 lim_t1_4 low_t1_4 (by omega)
  replace R_t2_1 := Row.apart R_t2_1 G_4 lim_t2_1 low_t2_1 lim_t1_4 low_t1_4 (by omega)
  replace R_t2_2 := Row.apart R_t2_2 G_4 lim_t2_2 low_t2_2 lim_t1_4 low_t1_4 (by omega)
  replace R_t2_4 := Row.apart R_t2_4 G_4 lim_t2_4 low_t2_4 lim_t1_4 low_t1_4 (by omega)
  replace R_t2_5 := Row.apart R_t2_5 G_4 lim_t2_5 low_t2_5 lim_t1_4 low_t1_4 (by omega)
  replace R_g0_1 := Row.apart R_g0_1 G_4 lim_g0_1 low_g0_1 lim_t1_4 low_t1_4 (by omega)
  replace R_g0_2 := Row.apart R_g0_2 G_4 lim_g0_2 low_g0_2 lim_t1_4 low_t1_4 (by omega)
  replace B_aP := B_aP.apart G_4 low_t1_4 lim_t1_4 (by omega)
  replace B_aQ := B_aQ.apart G_4 low_t1_4 lim_t1_4 (by omega)
  replace B_w0 := B_w0.apart G_4 low_t1_4 lim_t1_4 (by omega)
  replace B_t1 := B_t1.apart G_4 low_t1_4 lim_t1_4 (by omega)
  replace B_t2 := B_t2.apart G_4 low_t1_4 lim_t1_4 (by omega)
  replace B_g0 := B_g0.apart G_4 low_t1_4 lim_t1_4 (by omega)
  replace O := Below.grown O G_4 O.size (low_t1_4.own (by omega))
  have z10_2 := G_4.size
  clear G_4
  replace R_w0_1 := Row.apart R_w0_1 G_5 lim_w0_1 low_w0_1 lim_t1_5 low_t1_5 (by omega)
  replace R_w0_2 := Row.apart R_w0_2 G_5 lim_w0_2 low_w0_2 lim_t1_5 low_t1_5 (by omega)
  replace R_t2_1 := Row.apart R_t2_1 G_5 lim_t2_1 low_t2_1 lim_t1_5 low_t1_5 (by omega)
  replace R_t2_2 := Row.apart R_t2_2 G_5 lim_t2_2 low_t2_2 lim_t1_5 low_t1_5 (by omega)
  replace R_t2_4 := Row.apart R_t2_4 G_5 lim_t2_4 low_t2_4 lim_t1_5 low_t1_5 (by omega)
  replace R_t2_5 := Row.apart R_t2_5 G_5 lim_t2_5 low_t2_5 lim_t1_5 low_t1_5 (by omega)
  replace R_g0_1 := Row.apart R_g0_1 G_5 lim_g0_1 low_g0_1 lim_t1_5 low_t1_5 (by omega)
  replace R_g0_2 := Row.apart R_g0_2 G_5 lim_g0_2 low_g0_2 lim_t1_5 low_t1_5 (by omega)
  replace B_aP := B_aP.apart G_5 low_t1_5 lim_t1_5 (by omega)
  replace B_aQ := B_aQ.apart G_5 low_t1_5 lim_t1_5 (by omega)
  replace B_w0 := B_w0.apart G_5 low_t1_5 lim_t1_5 (by omega)
  replace B_t1 := B_t1.apart G_5 low_t1_5 lim_t1_5 (by omega)
  replace B_t2 := B_t2.apart G_5 low_t1_5 lim_t1_5 (by omega)
  replace B_g0 := B_g0.apart G_5 low_t1_5 lim_t1_5 (by omega)
  replace O := Below.grown O G_5 O.size (low_t1_5.own (by omega))
  have z10_3 := G_5.size
  clear G_5
  clear R_t1_1 lim_t1_1 low_t1_1
  clear R_t1_2 lim_t1_2 low_t1_2
  clear R_t1_4 lim_t1_4 low_t1_4
  clear R_t1_5 lim_t1_5 low_t1_5
  clear B_t1
  have q_t2_0 := B_t2.cell 0 rfl
  have q_t2_1 := B_t2.cell 1 rfl
  have q_t2_2 := B_t2.cell 2 rfl
  have q_t2_3 := B_t2.cell 3 rfl
  have q_t2_4 := B_t2.cell 4 rfl
  have q_t2_5 := B_t2.cell 5 rfl
  have q_t2 := B_t2.lt
  go_wp2_with fail
  refine (markPoint_any _ _ _ _ _ _ _ _ _ _ _ _ _ _ _ _ _ _ _ _ _ _ _ _ R_t2_1 R_t2_2 R_t2_4 R_t2_5 ap_t2 hn1_1 hn1_2 hn1_4 hn1_5 (by omega) (by omega)).mono ?_
  rintro e w11 ⟨rfl, S_1, S_2, S_4, S_5, wm11_0, wm11_1, wm11_2, G_1, G_2, G_4, G_5⟩
  clear q_t2_0 q_t2_1 q_t2_2 q_t2_3 q_t2_4 q_t2_5 q_t2
  clear R_t2_1
  have R_t2_1 := S_1
  clear S_1
  clear R_t2_2
  have R_t2_2 := S_2
  clear S_2
  clear R_t2_4
  have R_t2_4 := S_4
  clear S_4
  clear R_t2_5
  have R_t2_5 := S_5
  clear S_5
  replace R_w0_1 := Row.apart R_w0_1 G_1 lim_w0_1 low_w0_1 lim_t2_1 low_t2_1 (by omega)
  replace R_w0_2 := Row.apart R_w0_2 G_1 lim_w0_2 low_w0_2 lim_t2_1 low_t2_1 (by omega)
  replace R_g0_1 := Row.apart R_g0_1 G_1 lim_g0_1 low_g0_1 lim_t2_1 low_t2_1 (by omega)
  replace R_g0_2 := Row.apart R_g0_2 G_1 lim_g0_2 low_g0_2 lim_t2_1 low_t2_1 (by omega)
  replace B_aP := B_aP.apart G_1 low_t2_1 lim_t2_1 (by omega)
  replace B_aQ := B_aQ.apart G_1 low_t2_1 lim_t2_1 (by omega)
  replace B_w0 := B_w0.apart G_1 low_t2_1 lim_t2_1 (by omega)
  replace B_t2 := B_t2.apart G_1 low_t2_1 lim_t2_1 (by omega)
  replace B_g0 := B_g0.apart G_1 low_t2_1 lim_t2_1 (by omega)
  replace O := Below.grown O G_1 O.size (low_t2_1.own (by omega))
  have z11_0 := G_1.size
  clear G_1
  replace R_w0_1 := Row.apart R_w0_1 G_2 lim_w0_1 low_w0_1 lim_t2_2 low_t2_2 (by omega)
  replace R_w0_2 := Row.apart R_w0_2 G_2 lim_w0_2 low_w0_2 lim_t2_2 low_t2_2 (by omega)
  replace R_g0_1 := Row.apart R_g0_1 G_2 lim_g0_1 low_g0_1 lim_t2_2 low_t2_2 (by omega)
  replace R_g0_2 := Row.apart R_g0_2 G_2 lim_g0_2 low_g0_2 lim_t2_2 low_t2_2 (by omega)
  replace B_aP := B_aP.apart G_2 low_t2_2 lim_t2_2 (by omega)
  replace B_aQ := B_aQ.apart G_2 low_t2_2 lim_t2_2 (by omega)
  replace B_w0 := B_w0.apart G_2 low_t2_2 lim_t2_2 (by omega)
  replace B_t2 := B_t2.apart G_2 low_t2_2 lim_t2_2 (by omega)
  replace B_g0 := B_g0.apart G_2 low_t2_2 lim_t2_2 (by omega)
  replace O := Below.grown O G_2 O.size (low_t2_2.own (by omega))
  have z11_1 := G_2.size
  clear G_2
  replace R_w0_1 := Row.apart R_w0_1 G_4 lim_w0_1 low_w0_1 lim_t2_4 low_t2_4 (by omega)
  replace R_w0_2 := Row.apart R_w0_2 G_4 lim_w0_2 low_w0_2 lim_t2_4 low_t2_4 (by omega)
  replace R_g0_1 := Row.apart R_g0_1 G_4 lim_g0_1 low_g0_1 lim_t2_4 low_t2_4 (by omega)
  replace R_g0_2 := Row.apart R_g0_2 G_4 lim_g0_2 low_g0_2 lim_t2_4 low_t2_4 (by omega)
  replace B_aP := B_aP.apart G_4 low_t2_4 lim_t2_4 (by omega)
  replace B_aQ := B_aQ.apart G_4 low_t2_4 lim_t2_4 (by omega)
  replace B_w0 := B_w0.apart G_4 low_t2_4 lim_t2_4 (by omega)
  replace B_t2 := B_t2.apart G_4 low_t2_4 lim_t2_4 (by omega)
  replace B_g0 := B_g0.apart G_4 low_t2_4 lim_t2_4 (by omega)
  replace O := Below.grown O G_4 O.size (low_t2_4.own (by omega))
  have z11_2 := G_4.size
  clear G_4
  replace R_w0_1 := Row.apart R_w0_1 G_5 lim_w0_1 low_w0_1 lim_t2_5 low_t2_5 (by omega)
  replace R_w0_2 := Row.apart R_w0_2 G_5 lim_w0_2 low_w0_2 lim_t2_5 low_t2_5 (by omega)
  replace R_g0_1 := Row.apart R_g0_1 G_5 lim_g0_1 low_g0_1 lim_t2_5 low_t2_5 (by omega)
  replace R_g0_2 := Row.apart R_g0_2 G_5 lim_g0_2 low_g0_2 lim_t2_5 low_t2_5 (by omega)
  replace B_aP := B_aP.apart G_5 low_t2_5 lim_t2_5 (by omega)
  replace B_aQ := B_aQ.apart G_5 low_t2_5 lim_t2_5 (by omega)
  replace B_w0 := B_w0.apart G_5 low_t2_5 lim_t2_5 (by omega)
  replace B_t2 := B_t2.apart G_5 low_t2_5 lim_t2_5 (by omega)
  replace B_g0 := B_g0.apart G_5 low_t2_5 lim_t2_5 (by omega)
  replace O := Below.grown O G_5 O.size (low_t2_5.own (by omega))
  have z11_3 := G_5.size
  clear G_5
  clear R_t2_1 lim_t2_1 low_t2_1
  clear R_t2_2 lim_t2_2 low_t2_2
  clear R_t2_4 lim_t2_4 low_t2_4
  clear R_t2_5 lim_t2_5 low_t2_5
  clear B_t2
  have q_w0_0 := B_w0.cell 0 rfl
  have q_w0_1 := B_w0.cell 1 rfl
  have q_w0_2 := B_w0.cell 2 rfl
  have q_w0 := B_w0.lt
  have q_g0_0 := B_g0.cell 0 rfl
  have q_g0_1 := B_g0.cell 1 rfl
  have q_g0_2 := B_g0.cell 2 rfl
  have q_g0 := B_g0.lt
  go_wp2_with fail
  refine (eqRat_yes _ _ _ _ _ _ _ _ _ _ _ _ _ _ _ _ _ _ _ _ R_g0_1 R_w0_1 (fun _ _ => rfl) L_0_1 R_g0_2 R_w0_2 (fun _ _ => rfl) L_0_2).mono ?_
  rintro e w12 ⟨rfl, o12⟩
  clear q_w0_0 q_w0_1 q_w0_2 q_w0 q_g0_0 q_g0_1 q_g0_2 q_g0
  replace B_aP := B_aP.old o12
  replace B_aQ := B_aQ.old o12
  replace B_w0 := B_w0.old o12
  replace B_g0 := B_g0.old o12
  replace R_w0_1 := Row.below R_w0_1 o12 (Nat.le_refl _)
  replace R_w0_2 := Row.below R_w0_2 o12 (Nat.le_refl _)
  replace R_g0_1 := Row.below R_g0_1 o12 (Nat.le_refl _)
  replace R_g0_2 := Row.below R_g0_2 o12 (Nat.le_refl _)
  replace O := Old.trans O o12
  have z12 := o12.size
  clear o12
  have q_g0_0 := B_g0.cell 0 rfl
  have q_g0_1 := B_g0.cell 1 rfl
  have q_g0_2 := B_g0.cell 2 rfl
  have q_g0 := B_g0.lt
  go_wp2_with fail
  refine (markRat_any _ _ _ _ _ _ _ _ _ _ _ _ _ R_g0_1 R_g0_2 ap_g0 L_0_1 L_0_2 (by omega) (by omega)).mono ?_
  rintro e w13 ⟨rfl, S_1, S_2, wm13_0, G_1, G_2⟩
  clear q_g0_0 q_g0_1 q_g0_2 q_g0
  clear R_g0_1
  have R_g0_1 := S_1
  clear S_1
  clear R_g0_2
  have R_g0_2 := S_2
  clear S_2
  replace R_w0_1 := Row.apart R_w0_1 G_1 lim_w0_1 low_w0_1 lim_g0_1 low_g0_1 (by omega)
  replace R_w0_2 := Row.apart R_w0_2 G_1 lim_w0_2 low_w0_2 lim_g0_1 low_g0_1 (by omega)
  replace B_aP := B_aP.apart G_1 low_g0_1 lim_g0_1 (by omega)
  replace B_aQ := B_aQ.apart G_1 low_g0_1 lim_g0_1 (by omega)
  replace B_w0 := B_w0.apart G_1 low_g0_1 lim_g0_1 (by omega)
  replace B_g0 := B_g0.apart G_1 low_g0_1 lim_g0_1 (by omega)
  replace O := Below.grown O G_1 O.size (low_g0_1.own (by omega))
  have z13_0 := G_1.size
  clear G_1
  replace R_w0_1 := Row.apart R_w0_1 G_2 lim_w0_1 low_w0_1 lim_g0_2 low_g0_2 (by omega)
  replace R_w0_2 := Row.apart R_w0_2 G_2 lim_w0_2 low_w0_2 lim_g0_2 low_g0_2 (by omega)
  replace B_aP := B_aP.apart G_2 low_g0_2 lim_g0_2 (by omega)
  replace B_aQ := B_aQ.apart G_2 low_g0_2 lim_g0_2 (by omega)
  replace B_w0 := B_w0.apart G_2 low_g0_2 lim_g0_2 (by omega)
  replace B_g0 := B_g0.apart G_2 low_g0_2 lim_g0_2 (by omega)
  replace O := Below.grown O G_2 O.size (low_g0_2.own (by omega))
  have z13_1 := G_2.size
  clear G_2
  have q_g0_0 := B_g0.cell 0 rfl
  have q_g0_1 := B_g0.cell 1 rfl
  have q_g0_2 := B_g0.cell 2 rfl
  have q_g0 := B_g0.lt
  go_wp2_with fail
  refine (heldRat_yes _ _ _ _ _ _ _ _ _ _ _ _ _ R_g0_1 (fun _ _ => rfl) L_0_1 R_g0_2 (fun _ _ => rfl) L_0_2 (by omega) (by omega)).mono ?_
  rintro e w14 ⟨rfl, o14⟩
  clear q_g0_0 q_g0_1 q_g0_2 q_g0
  replace B_aP := B_aP.old o14
  replace B_aQ := B_aQ.old o14
  replace B_w0 := B_w0.old o14
  replace B_g0 := B_g0.old o14
  replace R_w0_1 := Row.below R_w0_1 o14 (Nat.le_refl _)
  replace R_w0_2 := Row.below R_w0_2 o14 (Nat.le_refl _)
  replace R_g0_1 := Row.below R_g0_1 o14 (Nat.le_refl _)
  replace R_g0_2 := Row.below R_g0_2 o14 (Nat.le_refl _)
  replace O := Old.trans O o14
  have z14 := o14.size
  clear o14
  have q_aP_0 := B_aP.cell 0 rfl
  have q_aP_1 := B_aP.cell 1 rfl
  have q_aP_2 := B_aP.cell 2 rfl
  have q_aP_3 := B_aP.cell 3 rfl
  have q_aP_4 := B_aP.cell 4 rfl
  have q_aP_5 := B_aP.cell 5 rfl
  have q_aP := B_aP.lt
  have q_aQ_0 := B_aQ.cell 0 rfl
  have q_aQ_1 := B_aQ.cell 1 rfl
  have q_aQ_2 := B_aQ.cell 2 rfl
  have q_aQ_3 := B_aQ.cell 3 rfl
  have q_aQ_4 := B_aQ.cell 4 rfl
  have q_aQ_5 := B_aQ.cell 5 rfl
  have q_aQ := B_aQ.lt
  have new14_aP : ¬ (w14.heap.size = w.heap.size) := (by omega)
  have enw14_aP : ¬ (w.heap.size = w14.heap.size) := (by omega)
  have new14_aQ : ¬ (w14.heap.size = w.heap.size + 1) := (by omega)
  have enw14_aQ : ¬ (w.heap.size + 1 = w14.heap.size) := (by omega)
  go_upto_region 31 with fail
  go_cut [13] (fun sl wx => ∃ (g : Nat) (A1 : Option Addr) (c1 : Nat) (A2 : Option Addr) (c2 : Nat), sl = .pointer (some ⟨g, 0, none⟩) ∧ w14.heap.size ≤ g ∧ Bx wx g #[.bool (sgnZ Z0), .slice A1 (Num.len (magZ Z0)) c1, .slice A2 (Num.len D0) c2] ∧ Row wx w14.heap.size A1 (Num.len (magZ Z0)) c1 (digI (magZ Z0)) ∧ Row wx w14.heap.size A2 (Num.len D0) c2 (digI D0) ∧ (Apart A1 (Num.len (magZ Z0)) A2 (Num.len D0)) ∧ Old w14 wx)
  case first =>
    go_region_held3 (fun w' => w'.cell? ⟨w.heap.size, 0, none⟩ = some (.bool v0_0) ∧ w'.cell? ⟨w.heap.size, 1, none⟩ = some (.slice A0_1 n0_1 c0_1) ∧ w'.cell? ⟨w.heap.size, 2, none⟩ = some (.slice A0_2 n0_2 c0_2) ∧ w'.cell? ⟨w.heap.size, 3, none⟩ = some (.bool v0_3) ∧ w'.cell? ⟨w.heap.size, 4, none⟩ = some (.slice A0_4 n0_4 c0_4) ∧ w'.cell? ⟨w.heap.size, 5, none⟩ = some (.slice A0_5 n0_5 c0_5) ∧ w'.cell? ⟨w.heap.size + 1, 0, none⟩ = some (.bool v1_0) ∧ w'.cell? ⟨w.heap.size + 1, 1, none⟩ = some (.slice A1_1 n1_1 c1_1) ∧ w'.cell? ⟨w.heap.size + 1, 2, none⟩ = some (.slice A1_2 n1_2 c1_2) ∧ w'.cell? ⟨w.heap.size + 1, 3, none⟩ = some (.bool v1_3) ∧ w'.cell? ⟨w.heap.size + 1, 4, none⟩ = some (.slice A1_4 n1_4 c1_4) ∧ w'.cell? ⟨w.heap.size + 1, 5, none⟩ = some (.slice A1_5 n1_5 c1_5)) (go_keep)
      (first
      | (go_at_call 6; (with_reducible refine (toPoint_any v0_0 A0_1 n0_1 c0_1 f0_1 A0_2 n0_2 c0_2 f0_2 v0_3 A0_4 n0_4 c0_4 f0_4 A0_5 n0_5 c0_5 f0_5 _ (h0_1.below (B := w.heap.size) (Below.trans (b := w14) O oldB) (Nat.le_refl _)) (h0_2.below (B := w.heap.size) (Below.trans (b := w14) O oldB) (Nat.le_refl _)) (h0_4.below (B := w.heap.size) (Below.trans (b := w14) O oldB) (Nat.le_refl _)) (h0_5.below (B := w.heap.size) (Below.trans (b := w14) O oldB) (Nat.le_refl _)) hn0_1 hn0_2 hn0_4 hn0_5).mono ?_); rintro e t1 ⟨A_t1_1, A_t1_2, A_t1_4, A_t1_5, rfl, R_t1_1, R_t1_2, R_t1_4, R_t1_5, ap_t1, o_t1⟩; (first | (clear qE0 qE1 qE2 fE0 fE1 fE2 qE) | skip); (first | (have E0 := Bx.old (Bx.new _ _ _) o_t1; have E : Bx t1 w14.heap.size #[.bool false, .slice none 0 0, .slice none 0 0] := E0; clear E0; have hE := E.lt) | (have E0 := Bx.old (Bx.drew (Bx.new _ _ _)) o_t1; have E : Bx t1 w14.heap.size #[.bool false, .slice none 0 0, .slice none 0 0] := E0; clear E0; have hE := E.lt) | (replace E := Bx.old E o_t1) | skip); replace o_t1 : Old w14 t1 := Below.trans (b := _) oldB (Below.mono o_t1 leA); have z_t1 := o_t1.size; have O_t1 := Old.trans O o_t1; clear q_aP_0 q_aP_1 q_aP_2 q_aP_3 q_aP_4 q_aP_5 q_aP q_aQ_0 q_aQ_1 q_aQ_2 q_aQ_3 q_aQ_4 q_aQ_5 q_aQ; have D1_aP := B_aP.old o_t1; have q_aP_0 := D1_aP.cell 0 rfl; have q_aP_1 := D1_aP.cell 1 rfl; have q_aP_2 := D1_aP.cell 2 rfl; have q_aP_3 := D1_aP.cell 3 rfl; have q_aP_4 := D1_aP.cell 4 rfl; have q_aP_5 := D1_aP.cell 5 rfl; have q_aP := D1_aP.lt; have D1_aQ := B_aQ.old o_t1; have q_aQ_0 := D1_aQ.cell 0 rfl; have q_aQ_1 := D1_aQ.cell 1 rfl; have q_aQ_2 := D1_aQ.cell 2 rfl; have q_aQ_3 := D1_aQ.cell 3 rfl; have q_aQ_4 := D1_aQ.cell 4 rfl; have q_aQ_5 := D1_aQ.cell 5 rfl; have q_aQ := D1_aQ.lt; have net1_aP : ¬ (t1.heap.size = w.heap.size) := (by omega); have ent1_aP : ¬ (w.heap.size = t1.heap.size) := (by omega); have net1_aQ : ¬ (t1.heap.size = w.heap.size + 1) := (by omega); have ent1_aQ : ¬ (w.heap.size + 1 = t1.heap.size) := (by omega); (first | (have qE0 := E.cell 0 rfl; have qE1 := E.cell 1 rfl; have qE2 := E.cell 2 rfl; have fE0 := E.frozen 0; have fE1 := E.frozen 1; have fE2 := E.frozen 2; have qE := E.lt) | skip))
      | (go_at_call 6; (with_reducible refine (toPoint_any v1_0 A1_1 n1_1 c1_1 f1_1 A1_2 n1_2 c1_2 f1_2 v1_3 A1_4 n1_4 c1_4 f1_4 A1_5 n1_5 c1_5 f1_5 _ (h1_1.below (B := w.heap.size) (Below.trans (b := t1) O_t1 oldB) (Nat.le_refl _)) (h1_2.below (B := w.heap.size) (Below.trans (b := t1) O_t1 oldB) (Nat.le_refl _)) (h1_4.below (B := w.heap.size) (Below.trans (b := t1) O_t1 oldB) (Nat.le_refl _)) (h1_5.below (B := w.heap.size) (Below.trans (b := t1) O_t1 oldB) (Nat.le_refl _)) hn1_1 hn1_2 hn1_4 hn1_5).mono ?_); rintro e t2 ⟨A_t2_1, A_t2_2, A_t2_4, A_t2_5, rfl, R_t2_1, R_t2_2, R_t2_4, R_t2_5, ap_t2, o_t2⟩; (first | (clear qE0 qE1 qE2 fE0 fE1 fE2 qE) | skip); (first | (have E0 := Bx.old (Bx.new _ _ _) o_t2; have E : Bx t2 t1.heap.size #[.bool false, .slice none 0 0, .slice none 0 0] := E0; clear E0; have hE := E.lt) | (have E0 := Bx.old (Bx.drew (Bx.new _ _ _)) o_t2; have E : Bx t2 t1.heap.size #[.bool false, .slice none 0 0, .slice none 0 0] := E0; clear E0; have hE := E.lt) | (replace E := Bx.old E o_t2) | skip); replace o_t2 : Old t1 t2 := Below.trans (b := _) oldB (Below.mono o_t2 leA); have z_t2 := o_t2.size; have O_t2 := Old.trans O_t1 o_t2; clear q_aP_0 q_aP_1 q_aP_2 q_aP_3 q_aP_4 q_aP_5 q_aP q_aQ_0 q_aQ_1 q_aQ_2 q_aQ_3 q_aQ_4 q_aQ_5 q_aQ; have D2_aP := D1_aP.old o_t2; have q_aP_0 := D2_aP.cell 0 rfl; have q_aP_1 := D2_aP.cell 1 rfl; have q_aP_2 := D2_aP.cell 2 rfl; have q_aP_3 := D2_aP.cell 3 rfl; have q_aP_4 := D2_aP.cell 4 rfl; have q_aP_5 := D2_aP.cell 5 rfl; have q_aP := D2_aP.lt; have D2_aQ := D1_aQ.old o_t2; have q_aQ_0 := D2_aQ.cell 0 rfl; have q_aQ_1 := D2_aQ.cell 1 rfl; have q_aQ_2 := D2_aQ.cell 2 rfl; have q_aQ_3 := D2_aQ.cell 3 rfl; have q_aQ_4 := D2_aQ.cell 4 rfl; have q_aQ_5 := D2_aQ.cell 5 rfl; have q_aQ := D2_aQ.lt; have net2_aP : ¬ (t2.heap.size = w.heap.size) := (by omega); have ent2_aP : ¬ (w.heap.size = t2.heap.size) := (by omega); have net2_aQ : ¬ (t2.heap.size = w.heap.size + 1) := (by omega); have ent2_aQ : ¬ (w.heap.size + 1 = t2.heap.size) := (by omega); replace R_t1_1 := Row.below R_t1_1 o_t2 (Nat.le_refl _); replace R_t1_2 := Row.below R_t1_2 o_t2 (Nat.le_refl _); replace R_t1_4 := Row.below R_t1_4 o_t2 (Nat.le_refl _); replace R_t1_5 := Row.below R_t1_5 o_t2 (Nat.le_refl _); (first | (have qE0 := E.cell 0 rfl; have qE1 := E.cell 1 rfl; have qE2 := E.cell 2 rfl; have fE0 := E.frozen 0; have fE1 := E.frozen 1; have fE2 := E.frozen 2; have qE := E.lt) | skip))
      | (go_at_call 7; refine (impl_SquareDistance _ _ _ _ _ _ _ _ _ _ _ _ _ _ _ _ _ _ _ _ _ _ _ _ _ _ _ _ _ _ _ _ _ _ _ _ _ _ _ _ _ _ _ _ _ (Row.below (B := t2.heap.size) R_t1_1 oldB (Nat.le_refl _)) (Row.below (B := t2.heap.size) R_t1_2 oldB (Nat.le_refl _)) (Row.below (B := t2.heap.size) R_t1_4 oldB (Nat.le_refl _)) (Row.below (B := t2.heap.size) R_t1_5 oldB (Nat.le_refl _)) (Row.below (B := t2.heap.size) R_t2_1 oldB (Nat.le_refl _)) (Row.below (B := t2.heap.size) R_t2_2 oldB (Nat.le_refl _)) (Row.below (B := t2.heap.size) R_t2_4 oldB (Nat.le_refl _)) (Row.below (B := t2.heap.size) R_t2_5 oldB (Nat.le_refl _)) hn0_1 hn0_2 hn0_4 hn0_5 hn1_1 hn1_2 hn1_4 hn1_5).mono ?_; rintro e tf ⟨⟨x0, x1, A_f_1, c_f_1, A_f_2, c_f_2, hv, he, R_f_1, R_f_2, ap_f⟩, o_f⟩; rw [HV0.out] at hv; obtain ⟨rfl, rfl⟩ := Prod.mk.inj hv; subst he; (first | (clear qE0 qE1 qE2 fE0 fE1 fE2 qE) | skip); (first | (have E0 := Bx.old (Bx.new _ _ _) o_f; have E : Bx tf t2.heap.size #[.bool false, .slice none 0 0, .slice none 0 0] := E0; clear E0; have hE := E.lt) | (have E0 := Bx.old (Bx.drew (Bx.new _ _ _)) o_f; have E : Bx tf t2.heap.size #[.bool false, .slice none 0 0, .slice none 0 0] := E0; clear E0; have hE := E.lt) | (replace E := Bx.old E o_f) | skip); replace o_f : Old t2 tf := Below.trans (b := _) oldB (Below.mono o_f leA); have z_f := o_f.size; have O_f := Old.trans O_t2 o_f; clear q_aP_0 q_aP_1 q_aP_2 q_aP_3 q_aP_4 q_aP_5 q_aP q_aQ_0 q_aQ_1 q_aQ_2 q_aQ_3 q_aQ_4 q_aQ_5 q_aQ; have DF_aP := D2_aP.old o_f; have q_aP_0 := DF_aP.cell 0 rfl; have q_aP_1 := DF_aP.cell 1 rfl; have q_aP_2 := DF_aP.cell 2 rfl; have q_aP_3 := DF_aP.cell 3 rfl; have q_aP_4 := DF_aP.cell 4 rfl; have q_aP_5 := DF_aP.cell 5 rfl; have q_aP := DF_aP.lt; have DF_aQ := D2_aQ.old o_f; have q_aQ_0 := DF_aQ.cell 0 rfl; have q_aQ_1 := DF_aQ.cell 1 rfl; have q_aQ_2 := DF_aQ.cell 2 rfl; have q_aQ_3 := DF_aQ.cell 3 rfl; have q_aQ_4 := DF_aQ.cell 4 rfl; have q_aQ_5 := DF_aQ.cell 5 rfl; have q_aQ := DF_aQ.lt; have netf_aP : ¬ (tf.heap.size = w.heap.size) := (by omega); have entf_aP : ¬ (w.heap.size = tf.heap.size) := (by omega); have netf_aQ : ¬ (tf.heap.size = w.heap.size + 1) := (by omega); have entf_aQ : ¬ (w.heap.size + 1 = tf.heap.size) := (by omega); (first | (have qE0 := E.cell 0 rfl; have qE1 := E.cell 1 rfl; have qE2 := E.cell 2 rfl; have fE0 := E.frozen 0; have fE1 := E.frozen 1; have fE2 := E.frozen 2; have qE := E.lt) | skip)))
    all_goals (go_wp2_with fail; go_meet; exact ⟨_, _, _, _, _, rfl, leA, (by first | (with_reducible exact Bx.new _ _ _) | (with_reducible exact Bx.put3 E _ _ _) | (with_reducible exact Bx.put3 (Bx.new _ _ _) _ _ _)), (by first | (with_reducible exact Row.more (Row.far_set (Row.far_set (Row.far_set R_f_1 (by first | (simp <;> done) | (simp; omega) | omega) _) (by first | (simp <;> done) | (simp; omega) | omega) _) (by first | (simp <;> done) | (simp; omega) | omega) _) leA) | (with_reducible exact Row.more (Row.below (B := tf.heap.size) R_f_1 oldB (Nat.le_refl _)) leA)), (by first | (with_reducible exact Row.more (Row.far_set (Row.far_set (Row.far_set R_f_2 (by first | (simp <;> done) | (simp; omega) | omega) _) (by first | (simp <;> done) | (simp; omega) | omega) _) (by first | (simp <;> done) | (simp; omega) | omega) _) leA) | (with_reducible exact Row.more (Row.below (B := tf.heap.size) R_f_2 oldB (Nat.le_refl _)) leA)), ap_f, (Below.trans (b := tf) (Old.trans (Old.trans o_t1 o_t2) o_f) oldB)⟩)
  case rest =>
  obtain ⟨g_h0, A_h0_1, c_h0_1, A_h0_2, c_h0_2, rfl, hg_h0, B_h0, R_h0_1, R_h0_2, ap_h0, o15⟩ := hcut
  obtain ⟨w15, hw⟩ : ∃ x, x = wc := ⟨_, rfl⟩
  subst hw
  clear q_aP_0 q_aP_1 q_aP_2 q_aP_3 q_aP_4 q_aP_5 q_aP q_aQ_0 q_aQ_1 q_aQ_2 q_aQ_3 q_aQ_4 q_aQ_5 q_aQ
  clear new14_aP enw14_aP new14_aQ enw14_aQ
  replace B_aP := B_aP.old o15
  replace B_aQ := B_aQ.old o15
  replace B_w0 := B_w0.old o15
  replace B_g0 := B_g0.old o15
  replace R_w0_1 := Row.below R_w0_1 o15 (Nat.le_refl _)
  replace R_w0_2 := Row.below R_w0_2 o15 (Nat.le_refl _)
  replace R_g0_1 := Row.below R_g0_1 o15 (Nat.le_refl _)
  replace R_g0_2 := Row.below R_g0_2 o15 (Nat.le_refl _)
  replace O := Old.trans O o15
  have z15 := o15.size
  clear o15
  have lim_h0_1 := R_h0_1.lim
  have low_h0_1 := Low.mono (lo' := w14.heap.size + 0) R_h0_1.low (by first | exact Nat.le_refl _ | (simp <;> omega))
  have lim_h0_2 := R_h0_2.lim
  have low_h0_2 := Low.mono (lo' := w14.heap.size + 0) R_h0_2.low (by first | exact Nat.le_refl _ | (simp <;> omega))
  have lt_h0 := B_h0.lt
  have off_h0_1 := Row.off R_h0_1 B_h0 (no_int3 _ _ _ _ _ _ _)
  have off_h0_2 := Row.off R_h0_2 B_h0 (no_int3 _ _ _ _ _ _ _)
  clear B_aP
  clear B_aQ
  have q_w0_0 := B_w0.cell 0 rfl
  have q_w0_1 := B_w0.cell 1 rfl
  have q_w0_2 := B_w0.cell 2 rfl
  have q_w0 := B_w0.lt
  have q_h0_0 := B_h0.cell 0 rfl
  have q_h0_1 := B_h0.cell 1 rfl
  have q_h0_2 := B_h0.cell 2 rfl
  have q_h0 := B_h0.lt
  go_wp2_with fail
  refine (eqRat_yes _ _ _ _ _ _ _ _ _ _ _ _ _ _ _ _ _ _ _ _ R_h0_1 R_w0_1 (fun _ _ => rfl) L_0_1 R_h0_2 R_w0_2 (fun _ _ => rfl) L_0_2).mono ?_
  rintro e w16 ⟨rfl, o16⟩
  clear q_w0_0 q_w0_1 q_w0_2 q_w0 q_h0_0 q_h0_1 q_h0_2 q_h0
  replace B_w0 := B_w0.old o16
  replace B_g0 := B_g0.old o16
  replace B_h0 := B_h0.old o16
  replace R_w0_1 := Row.below R_w0_1 o16 (Nat.le_refl _)
  replace R_w0_2 := Row.below R_w0_2 o16 (Nat.le_refl _)
  replace R_g0_1 := Row.below R_g0_1 o16 (Nat.le_refl _)
  replace R_g0_2 := Row.below R_g0_2 o16 (Nat.le_refl _)
  replace R_h0_1 := Row.below R_h0_1 o16 (Nat.le_refl _)
  replace R_h0_2 := Row.below R_h0_2 o16 (Nat.le_refl _)
  replace O := Old.trans O o16
  have z16 := o16.size
  clear o16
  have q_g0_0 := B_g0.cell 0 rfl
  have q_g0_1 := B_g0.cell 1 rfl
  have q_g0_2 := B_g0.cell 2 rfl
  have q_g0 := B_g0.lt
  go_wp2_with fail
  refine (heldRat_yes _ _ _ _ _ _ _ _ _ _ _ _ _ R_g0_1 (fun _ _ => rfl) L_0_1 R_g0_2 (fun _ _ => rfl) L_0_2 (by omega) (by omega)).mono ?_
  rintro e w17 ⟨rfl, o17⟩
  clear q_g0_0 q_g0_1 q_g0_2 q_g0
  replace B_w0 := B_w0.old o17
  replace B_g0 := B_g0.old o17
  replace B_h0 := B_h0.old o17
  replace R_w0_1 := Row.below R_w0_1 o17 (Nat.le_refl _)
  replace R_w0_2 := Row.below R_w0_2 o17 (Nat.le_refl _)
  replace R_g0_1 := Row.below R_g0_1 o17 (Nat.le_refl _)
  replace R_g0_2 := Row.below R_g0_2 o17 (Nat.le_refl _)
  replace R_h0_1 := Row.below R_h0_1 o17 (Nat.le_refl _)
  replace R_h0_2 := Row.below R_h0_2 o17 (Nat.le_refl _)
  replace O := Old.trans O o17
  have z17 := o17.size
  clear o17
  go_wp2
  go_ret
  exact ⟨rfl, O⟩

set_option maxRecDepth 100000 in
theorem liftedSquareDistance (os : Os) (started : os.Started) (H : Type) (enc : TypeId × Value → H) :
    ReturnsInHanded {} Try.checked os 3 .any (Rows.fnExactSquareDistanceSpec.pre6 enc Try.prog Try.f3 Rows.fnExactSquareDistanceRow.domain false) (Rows.fnExactSquareDistanceSpec.post enc Try.prog Try.f3 false true false false) := by
  refine returnsInHanded_of_change (C := Try.checked) ownKnob_none started (by kernel_rfl) Try.func3
    (ChangeSpec.witness6 (enc := enc) (C := Try.checked) false ⟨#[], #[.agg #[.bool false, .slice none 0 0, .slice none 0 0, .bool false, .slice none 0 0, .slice none 0 0], .agg #[.bool false, .slice none 0 0, .slice none 0 0, .bool false, .slice none 0 0, .slice none 0 0]], []⟩ 8 (by kernel_rfl) (by kernel_rfl) (by kernel_rfl) (by kernel_rfl)) ?_
  intro W base args ds gs before hval0 hW hcnd _
  have hval : ∀ (j : Nat) t v, Try.f3.params[j]? = some t → args[j]? = some v → Value.okWide Try.prog W .any base t v := hval0
  have hW' := hW
  obtain ⟨p, q, hA0, hV, rfl, hfz, hnd⟩ := hW
  have hA : DataW.TrodAll enc Try.prog W 0 (fun _ => true) true Try.f3.params.toList args.toList ds p := hA0
  rw [Try.params3] at hA hval
  obtain ⟨v0, vs0, d0, ds0, p0, q0, hargs, rfl, rfl, h0, r0⟩ := trodAll_cons hA
  obtain ⟨v1, vs1, d1, ds1, p1, q1, rfl, rfl, rfl, h1, r1⟩ := trodAll_cons r0
  obtain ⟨rfl, rfl, rfl⟩ := trodAll_nil r1
  obtain rfl : args = #[v0, v1] := by cases args; simp_all
  obtain ⟨rfl, rfl⟩ := trodVars_none hV
  have k0 := h0
  have lt0 : ∀ x ∈ p0, x.block < W.heap.size := by obtain ⟨m, hm⟩ := k0; exact DataW.trod_lt m _ _ _ hm
  obtain ⟨x0_0, A0_1, n0_1, c0_1, f0_1, A0_2, n0_2, c0_2, f0_2, x0_3, A0_4, n0_4, c0_4, f0_4, A0_5, n0_5, c0_5, f0_5, rfl, g0_1, m0_1, g0_2, m0_2, g0_4, m0_4, g0_5, m0_5⟩ := open_point (hval 0 28 v0 rfl rfl) h0
  have k1 := h1
  have lt1 : ∀ x ∈ p1, x.block < W.heap.size := by obtain ⟨m, hm⟩ := k1; exact DataW.trod_lt m _ _ _ hm
  obtain ⟨x1_0, A1_1, n1_1, c1_1, f1_1, A1_2, n1_2, c1_2, f1_2, x1_3, A1_4, n1_4, c1_4, f1_4, A1_5, n1_5, c1_5, f1_5, rfl, g1_1, m1_1, g1_2, m1_2, g1_4, m1_4, g1_5, m1_5⟩ := open_point (hval 1 28 v1 rfl rfl) h1
  clear hA0 hval0
  refine (walkSquareDistance x0_0 A0_1 n0_1 c0_1 f0_1 A0_2 n0_2 c0_2 f0_2 x0_3 A0_4 n0_4 c0_4 f0_4 A0_5 n0_5 c0_5 f0_5 x1_0 A1_1 n1_1 c1_1 f1_1 A1_2 n1_2 c1_2 f1_2 x1_3 A1_4 n1_4 c1_4 f1_4 A1_5 n1_5 c1_5 f1_5 W g0_1 g0_2 g0_4 g0_5 g1_1 g1_2 g1_4 g1_5 m0_1 m0_2 m0_4 m0_5 m1_1 m1_2 m1_4 m1_5).mono fun e W' ⟨he, bel⟩ => ?_
  subst he
  exact ⟨_, rfl, _, _, _, [], _, [], hW', trodAll_mk1 (shut_bool Try.underlying4 _), (trodAll_cons_mk (Below.trod laidOut (by kernel_rfl) (of_decide_eq_true (by kernel_rfl)) k0 bel lt0) (trodAll_cons_mk (Below.trod laidOut (by kernel_rfl) (of_decide_eq_true (by kernel_rfl)) k1 bel lt1) trodAll_mk0)), rfl, bel.frame _, fun h => by cases h⟩

theorem inPlaceSquareDistance : (Rows.fnExactSquareDistanceRow.inPlace == Try.prog.inPlace 3) = true := by kernel_rfl
theorem unfollowedSquareDistance : (Rows.fnExactSquareDistanceRow.unfollowed == Try.prog.unfollowed 3) = true := by kernel_rfl
theorem recursesSquareDistance : (Rows.fnExactSquareDistanceRow.recurses == Try.prog.recurses 3) = true := by kernel_rfl
theorem namedSquareDistance : (Rows.fnExactSquareDistanceRow.named == Try.prog.varsNamed 3) = true := by kernel_rfl
theorem closedSquareDistance : joinedFacts Try.prog 3 Try.f3 Rows.fnExactSquareDistanceSpec Rows.fnExactSquareDistanceRow = true :=
  joined_of (by kernel_rfl) laidOut mapsRowed_yes (by kernel_rfl) (by kernel_rfl) (by kernel_rfl) stops_none (by kernel_rfl) knobs_none inPlaceSquareDistance unfollowedSquareDistance recursesSquareDistance namedSquareDistance
    (by kernel_rfl) (by kernel_rfl) (by kernel_rfl) (by kernel_rfl) (by kernel_rfl) (by kernel_rfl) (by kernel_rfl) (by kernel_rfl) (by kernel_rfl) plainKeys_yes (by kernel_rfl) (by kernel_rfl) stopsHeard_yes mayEnter_yes liftsFinal_no (by kernel_rfl) make_cut (by kernel_rfl)
    (by kernel_rfl) (by kernel_rfl) (by kernel_rfl) (by kernel_rfl) (by kernel_rfl)

/-- The statement. -/
theorem fnExactSquareDistance_holds : Rows.FnExactSquareDistanceSaid :=
  OpenClaim.holds_of_wide 3 Try.f3 rfl rfl rfl rfl rfl rfl rfl ⟨rfl, rfl, rfl, rfl, rfl⟩ rfl rfl rfl rfl rfl (by kernel_rfl) Try.func3 closedSquareDistance
    (of_decide_eq_true (by kernel_rfl)) (by unfold Func.isWrapper; first | (rw [if_pos (by decide +kernel)]; kernel_rfl) | (rw [if_neg (by decide +kernel)]; exact ⟨rfl, rfl⟩))
    (fun os started H enc _ => liftedSquareDistance os started H enc)
end Go.Proofs.Ytgchbbjhdeobpaa
