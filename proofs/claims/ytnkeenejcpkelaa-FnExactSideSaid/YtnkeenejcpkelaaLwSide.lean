import Derived.Test.YtnkeenejcpkelaaArgs
import Derived.Deep.DeepCutAuto
import Derived.Deep.RegionHeld3
import Derived.Deep.DrawnRows
import Derived.Test.YtnkeenejcpkelaaBoxes
import Derived.Test.YtnkeenejcpkelaaPointLaw
import Derived.Test.YtnkeenejcpkelaaPtSide
import Derived.Test.YtnkeenejcpkelaaRatArgs
import Derived.Test.YtnkeenejcpkelaaWq
/-
  The law FnExactSide: the program's function and the reference's return the same, the arguments are left as they were, and the result is memory of its own.
-/
namespace Go.Proofs.Ytnkeenejcpkelaa
set_option linter.unusedVariables false
open Go.ChangeShapes Go.WideShapes Go.ChangeAt Go.RowKit
open Go.ChangeMaps (open_string shut_string)
attribute [local go_sem ↓] Go.wp_at_zero Go.wp_at_succ
set_option maxRecDepth 100000 in
set_option maxHeartbeats 8000000 in
theorem walkSide (v0_0 : Bool) (A0_1 : Option Addr) (n0_1 c0_1 : Nat) (f0_1 : Nat → Int) (A0_2 : Option Addr) (n0_2 c0_2 : Nat) (f0_2 : Nat → Int) (v0_3 : Bool) (A0_4 : Option Addr) (n0_4 c0_4 : Nat) (f0_4 : Nat → Int) (A0_5 : Option Addr) (n0_5 c0_5 : Nat) (f0_5 : Nat → Int) (v1_0 : Bool) (A1_1 : Option Addr) (n1_1 c1_1 : Nat) (f1_1 : Nat → Int) (A1_2 : Option Addr) (n1_2 c1_2 : Nat) (f1_2 : Nat → Int) (v1_3 : Bool) (A1_4 : Option Addr) (n1_4 c1_4 : Nat) (f1_4 : Nat → Int) (A1_5 : Option Addr) (n1_5 c1_5 : Nat) (f1_5 : Nat → Int) (v2_0 : Bool) (A2_1 : Option Addr) (n2_1 c2_1 : Nat) (f2_1 : Nat → Int) (A2_2 : Option Addr) (n2_2 c2_2 : Nat) (f2_2 : Nat → Int) (v2_3 : Bool) (A2_4 : Option Addr) (n2_4 c2_4 : Nat) (f2_4 : Nat → Int) (A2_5 : Option Addr) (n2_5 c2_5 : Nat) (f2_5 : Nat → Int) (w : World) (h0_1 : Rd w A0_1 n0_1 c0_1 f0_1) (h0_2 : Rd w A0_2 n0_2 c0_2 f0_2) (h0_4 : Rd w A0_4 n0_4 c0_4 f0_4) (h0_5 : Rd w A0_5 n0_5 c0_5 f0_5) (h1_1 : Rd w A1_1 n1_1 c1_1 f1_1) (h1_2 : Rd w A1_2 n1_2 c1_2 f1_2) (h1_4 : Rd w A1_4 n1_4 c1_4 f1_4) (h1_5 : Rd w A1_5 n1_5 c1_5 f1_5) (h2_1 : Rd w A2_1 n2_1 c2_1 f2_1) (h2_2 : Rd w A2_2 n2_2 c2_2 f2_2) (h2_4 : Rd w A2_4 n2_4 c2_4 f2_4) (h2_5 : Rd w A2_5 n2_5 c2_5 f2_5) (hm0_1 : n0_1 ≤ 9223372036854775807) (hm0_2 : n0_2 ≤ 9223372036854775807) (hm0_4 : n0_4 ≤ 9223372036854775807) (hm0_5 : n0_5 ≤ 9223372036854775807) (hm1_1 : n1_1 ≤ 9223372036854775807) (hm1_2 : n1_2 ≤ 9223372036854775807) (hm1_4 : n1_4 ≤ 9223372036854775807) (hm1_5 : n1_5 ≤ 9223372036854775807) (hm2_1 : n2_1 ≤ 9223372036854775807) (hm2_2 : n2_2 ≤ 9223372036854775807) (hm2_4 : n2_4 ≤ 9223372036854775807) (hm2_5 : n2_5 ≤ 9223372036854775807) :
    Calls Try.prog 20 #[.agg #[.bool v0_0, .slice A0_1 n0_1 c0_1, .slice A0_2 n0_2 c0_2, .bool v0_3, .slice A0_4 n0_4 c0_4, .slice A0_5 n0_5 c0_5], .agg #[.bool v1_0, .slice A1_1 n1_1 c1_1, .slice A1_2 n1_2 c1_2, .bool v1_3, .slice A1_4 n1_4 c1_4, .slice A1_5 n1_5 c1_5], .agg #[.bool v2_0, .slice A2_1 n2_1 c2_1, .slice A2_2 n2_2 c2_2, .bool v2_3, .slice A2_4 n2_4 c2_4, .slice A2_5 n2_5 c2_5]] w fun e w' => e = .returned (.bool true) ∧ Old w w' := by
  have O := Old.refl w
  go_enter Try.func20, Try.ntmps20
  go_wp2_with fail
  by_cases hs0 : (n0_1 : Int) + (n0_2 : Int) + (n0_4 : Int) + (n0_5 : Int) ≤ 1048576
  case neg =>
    refine (szPoint_no _ _ _ _ _ _ _ _ _ _ _ _ _ _ _ _ hm0_1 hm0_2 hm0_4 hm0_5 (by omega) (by omega) hs0).mono ?_
    rintro e w1 ⟨rfl, o1⟩
    go_wp2
    go_ret
    exact ⟨rfl, Old.trans O (Below.trans (b := _) oldB (Below.mono o1 (by simp <;> omega)))⟩
  have hn0_1 : n0_1 ≤ 1048576 := by omega
  have hn0_2 : n0_2 ≤ 1048576 := by omega
  have hn0_4 : n0_4 ≤ 1048576 := by omega
  have hn0_5 : n0_5 ≤ 1048576 := by omega
  refine (szPoint_yes _ _ _ _ _ _ _ _ _ _ _ _ _ _ _ _ hm0_1 hm0_2 hm0_4 hm0_5 (by omega) (by omega) hs0).mono ?_
  rintro e w1 ⟨rfl, o1⟩
  have B_aP : Bx w1 w.heap.size #[.bool v0_0, .slice A0_1 n0_1 c0_1, .slice A0_2 n0_2 c0_2, .bool v0_3, .slice A0_4 n0_4 c0_4, .slice A0_5 n0_5 c0_5] := Bx.old (Bx.alloc (Bx.alloc (Bx.new _ _ _) _) _) o1
  have B_aQ : Bx w1 (w.heap.size + 1) #[.bool v1_0, .slice A1_1 n1_1 c1_1, .slice A1_2 n1_2 c1_2, .bool v1_3, .slice A1_4 n1_4 c1_4, .slice A1_5 n1_5 c1_5] := by have h := Bx.old (Bx.alloc (Bx.new _ _ _) _) o1; simpa using h
  have B_aR : Bx w1 (w.heap.size + 1 + 1) #[.bool v2_0, .slice A2_1 n2_1 c2_1, .slice A2_2 n2_2 c2_2, .bool v2_3, .slice A2_4 n2_4 c2_4, .slice A2_5 n2_5 c2_5] := by have h := Bx.old (Bx.new _ _ _) o1; simpa using h
  have zb1 := B_aR.lt
  replace o1 : Old w w1 := Below.trans (b := _) oldB (Below.mono o1 (by simp <;> omega))
  replace O := Old.trans O o1
  have z1 := o1.size
  clear o1
  have hl0 : ¬ 1048576 - (n0_1 : Int) - (n0_2 : Int) - (n0_4 : Int) - (n0_5 : Int) < 0 := by omega
  have q_aQ_0 := B_aQ.cell 0 rfl
  have q_aQ_1 := B_aQ.cell 1 rfl
  have q_aQ_2 := B_aQ.cell 2 rfl
  have q_aQ_3 := B_aQ.cell 3 rfl
  have q_aQ_4 := B_aQ.cell 4 rfl
  have q_aQ_5 := B_aQ.cell 5 rfl
  have q_aQ := B_aQ.lt
  go_wp2_with fail
  by_cases hs1 : (n1_1 : Int) + (n1_2 : Int) + (n1_4 : Int) + (n1_5 : Int) ≤ 1048576 - (n0_1 : Int) - (n0_2 : Int) - (n0_4 : Int) - (n0_5 : Int)
  case neg =>
    refine (szPoint_no _ _ _ _ _ _ _ _ _ _ _ _ _ _ _ _ hm1_1 hm1_2 hm1_4 hm1_5 (by omega) (by omega) hs1).mono ?_
    rintro e w2 ⟨rfl, o2⟩
    go_wp2
    go_ret
    exact ⟨rfl, Old.trans O (Below.trans (b := _) oldB (Below.mono o2 (by simp <;> omega)))⟩
  have hn1_1 : n1_1 ≤ 1048576 := by omega
  have hn1_2 : n1_2 ≤ 1048576 := by omega
  have hn1_4 : n1_4 ≤ 1048576 := by omega
  have hn1_5 : n1_5 ≤ 1048576 := by omega
  refine (szPoint_yes _ _ _ _ _ _ _ _ _ _ _ _ _ _ _ _ hm1_1 hm1_2 hm1_4 hm1_5 (by omega) (by omega) hs1).mono ?_
  rintro e w2 ⟨rfl, o2⟩
  clear q_aQ_0 q_aQ_1 q_aQ_2 q_aQ_3 q_aQ_4 q_aQ_5 q_aQ
  replace B_aP := B_aP.old o2
  replace B_aQ := B_aQ.old o2
  replace B_aR := B_aR.old o2
  replace O := Old.trans O o2
  have z2 := o2.size
  clear o2
  have hl1 : ¬ 1048576 - (n0_1 : Int) - (n0_2 : Int) - (n0_4 : Int) - (n0_5 : Int) - (n1_1 : Int) - (n1_2 : Int) - (n1_4 : Int) - (n1_5 : Int) < 0 := by omega
  have q_aR_0 := B_aR.cell 0 rfl
  have q_aR_1 := B_aR.cell 1 rfl
  have q_aR_2 := B_aR.cell 2 rfl
  have q_aR_3 := B_aR.cell 3 rfl
  have q_aR_4 := B_aR.cell 4 rfl
  have q_aR_5 := B_aR.cell 5 rfl
  have q_aR := B_aR.lt
  go_wp2_with fail
  by_cases hs2 : (n2_1 : Int) + (n2_2 : Int) + (n2_4 : Int) + (n2_5 : Int) ≤ 1048576 - (n0_1 : Int) - (n0_2 : Int) - (n0_4 : Int) - (n0_5 : Int) - (n1_1 : Int) - (n1_2 : Int) - (n1_4 : Int) - (n1_5 : Int)
  case neg =>
    refine (szPoint_no _ _ _ _ _ _ _ _ _ _ _ _ _ _ _ _ hm2_1 hm2_2 hm2_4 hm2_5 (by omega) (by omega) hs2).mono ?_
    rintro e w3 ⟨rfl, o3⟩
    go_wp2
    go_ret
    exact ⟨rfl, Old.trans O (Below.trans (b := _) oldB (Below.mono o3 (by simp <;> omega)))⟩
  have hn2_1 : n2_1 ≤ 1048576 := by omega
  have hn2_2 : n2_2 ≤ 1048576 := by omega
  have hn2_4 : n2_4 ≤ 1048576 := by omega
  have hn2_5 : n2_5 ≤ 1048576 := by omega
  refine (szPoint_yes _ _ _ _ _ _ _ _ _ _ _ _ _ _ _ _ hm2_1 hm2_2 hm2_4 hm2_5 (by omega) (by omega) hs2).mono ?_
  rintro e w3 ⟨rfl, o3⟩
  clear q_aR_0 q_aR_1 q_aR_2 q_aR_3 q_aR_4 q_aR_5 q_aR
  replace B_aP := B_aP.old o3
  replace B_aQ := B_aQ.old o3
  replace B_aR := B_aR.old o3
  replace O := Old.trans O o3
  have z3 := o3.size
  clear o3
  have hl2 : ¬ 1048576 - (n0_1 : Int) - (n0_2 : Int) - (n0_4 : Int) - (n0_5 : Int) - (n1_1 : Int) - (n1_2 : Int) - (n1_4 : Int) - (n1_5 : Int) - (n2_1 : Int) - (n2_2 : Int) - (n2_4 : Int) - (n2_5 : Int) < 0 := by omega
  have q_aP_0 := B_aP.cell 0 rfl
  have q_aP_1 := B_aP.cell 1 rfl
  have q_aP_2 := B_aP.cell 2 rfl
  have q_aP_3 := B_aP.cell 3 rfl
  have q_aP_4 := B_aP.cell 4 rfl
  have q_aP_5 := B_aP.cell 5 rfl
  have q_aP := B_aP.lt
  have q_aQ_0 := B_aQ.cell 0 rfl
  have q_aQ_1 := B_aQ.cell 1 rfl
  have q_aQ_2 := B_aQ.cell 2 rfl
  have q_aQ_3 := B_aQ.cell 3 rfl
  have q_aQ_4 := B_aQ.cell 4 rfl
  have q_aQ_5 := B_aQ.cell 5 rfl
  have q_aQ := B_aQ.lt
  have q_aR_0 := B_aR.cell 0 rfl
  have q_aR_1 := B_aR.cell 1 rfl
  have q_aR_2 := B_aR.cell 2 rfl
  have q_aR_3 := B_aR.cell 3 rfl
  have q_aR_4 := B_aR.cell 4 rfl
  have q_aR_5 := B_aR.cell 5 rfl
  have q_aR := B_aR.lt
  have new3_aP : ¬ (w3.heap.size = w.heap.size) := (by omega)
  have enw3_aP : ¬ (w.heap.size = w3.heap.size) := (by omega)
  have new3_aQ : ¬ (w3.heap.size = w.heap.size + 1) := (by omega)
  have enw3_aQ : ¬ (w.heap.size + 1 = w3.heap.size) := (by omega)
  have new3_aR : ¬ (w3.heap.size = w.heap.size + 1 + 1) := (by omega)
  have enw3_aR : ¬ (w.heap.size + 1 + 1 = w3.heap.size) := (by omega)
  go_upto_region 11 with fail
  go_cut [8] (fun sl wx => sl = .int .i64 (rSide v0_0 n0_1 f0_1 n0_2 f0_2 v0_3 n0_4 f0_4 n0_5 f0_5 v1_0 n1_1 f1_1 n1_2 f1_2 v1_3 n1_4 f1_4 n1_5 f1_5 v2_0 n2_1 f2_1 n2_2 f2_2 v2_3 n2_4 f2_4 n2_5 f2_5) ∧ Old w3 wx)
  case first =>
    go_region_held3 (fun w' => w'.cell? ⟨w.heap.size, 0, none⟩ = some (.bool v0_0) ∧ w'.cell? ⟨w.heap.size, 1, none⟩ = some (.slice A0_1 n0_1 c0_1) ∧ w'.cell? ⟨w.heap.size, 2, none⟩ = some (.slice A0_2 n0_2 c0_2) ∧ w'.cell? ⟨w.heap.size, 3, none⟩ = some (.bool v0_3) ∧ w'.cell? ⟨w.heap.size, 4, none⟩ = some (.slice A0_4 n0_4 c0_4) ∧ w'.cell? ⟨w.heap.size, 5, none⟩ = some (.slice A0_5 n0_5 c0_5) ∧ w'.cell? ⟨w.heap.size + 1, 0, none⟩ = some (.bool v1_0) ∧ w'.cell? ⟨w.heap.size + 1, 1, none⟩ = some (.slice A1_1 n1_1 c1_1) ∧ w'.cell? ⟨w.heap.size + 1, 2, none⟩ = some (.slice A1_2 n1_2 c1_2) ∧ w'.cell? ⟨w.heap.size + 1, 3, none⟩ = some (.bool v1_3) ∧ w'.cell? ⟨w.heap.size + 1, 4, none⟩ = some (.slice A1_4 n1_4 c1_4) ∧ w'.cell? ⟨w.heap.size + 1, 5, none⟩ = some (.slice A1_5 n1_5 c1_5) ∧ w'.cell? ⟨w.heap.size + 1 + 1, 0, none⟩ = some (.bool v2_0) ∧ w'.cell? ⟨w.heap.size + 1 + 1, 1, none⟩ = some (.slice A2_1 n2_1 c2_1) ∧ w'.cell? ⟨w.heap.size + 1 + 1, 2, none⟩ = some (.slice A2_2 n2_2 c2_2) ∧ w'.cell? ⟨w.heap.size + 1 + 1, 3, none⟩ = some (.bool v2_3) ∧ w'.cell? ⟨w.heap.size + 1 + 1, 4, none⟩ = some (.slice A2_4 n2_4 c2_4) ∧ w'.cell? ⟨w.heap.size + 1 + 1, 5, none⟩ = some (.slice A2_5 n2_5 c2_5)) (go_keep)
      (first
      | (go_at_call 31; (with_reducible refine (toPoint_any v0_0 A0_1 n0_1 c0_1 f0_1 A0_2 n0_2 c0_2 f0_2 v0_3 A0_4 n0_4 c0_4 f0_4 A0_5 n0_5 c0_5 f0_5 _ (h0_1.below (B := w.heap.size) (Below.trans (b := w3) O oldB) (Nat.le_refl _)) (h0_2.below (B := w.heap.size) (Below.trans (b := w3) O oldB) (Nat.le_refl _)) (h0_4.below (B := w.heap.size) (Below.trans (b := w3) O oldB) (Nat.le_refl _)) (h0_5.below (B := w.heap.size) (Below.trans (b := w3) O oldB) (Nat.le_refl _)) hn0_1 hn0_2 hn0_4 hn0_5).mono ?_); rintro e t1 ⟨A_t1_1, A_t1_2, A_t1_4, A_t1_5, rfl, R_t1_1, R_t1_2, R_t1_4, R_t1_5, ap_t1, o_t1⟩; replace o_t1 : Old w3 t1 := Below.trans (b := _) oldB (Below.mono o_t1 leA); have z_t1 := o_t1.size; have O_t1 := Old.trans O o_t1; clear q_aP_0 q_aP_1 q_aP_2 q_aP_3 q_aP_4 q_aP_5 q_aP q_aQ_0 q_aQ_1 q_aQ_2 q_aQ_3 q_aQ_4 q_aQ_5 q_aQ q_aR_0 q_aR_1 q_aR_2 q_aR_3 q_aR_4 q_aR_5 q_aR; have D1_aP := B_aP.old o_t1; have q_aP_0 := D1_aP.cell 0 rfl; have q_aP_1 := D1_aP.cell 1 rfl; have q_aP_2 := D1_aP.cell 2 rfl; have q_aP_3 := D1_aP.cell 3 rfl; have q_aP_4 := D1_aP.cell 4 rfl; have q_aP_5 := D1_aP.cell 5 rfl; have q_aP := D1_aP.lt; have D1_aQ := B_aQ.old o_t1; have q_aQ_0 := D1_aQ.cell 0 rfl; have q_aQ_1 := D1_aQ.cell 1 rfl; have q_aQ_2 := D1_aQ.cell 2 rfl; have q_aQ_3 := D1_aQ.cell 3 rfl; have q_aQ_4 := D1_aQ.cell 4 rfl; have q_aQ_5 := D1_aQ.cell 5 rfl; have q_aQ := D1_aQ.lt; have D1_aR := B_aR.old o_t1; have q_aR_0 := D1_aR.cell 0 rfl; have q_aR_1 := D1_aR.cell 1 rfl; have q_aR_2 := D1_aR.cell 2 rfl; have q_aR_3 := D1_aR.cell 3 rfl; have q_aR_4 := D1_aR.cell 4 rfl; have q_aR_5 := D1_aR.cell 5 rfl; have q_aR := D1_aR.lt; have net1_aP : ¬ (t1.heap.size = w.heap.size) := (by omega); have ent1_aP : ¬ (w.heap.size = t1.heap.size) := (by omega); have net1_aQ : ¬ (t1.heap.size = w.heap.size + 1) := (by omega); have ent1_aQ : ¬ (w.heap.size + 1 = t1.heap.size) := (by omega); have net1_aR : ¬ (t1.heap.size = w.heap.size + 1 + 1) := (by omega); have ent1_aR : ¬ (w.heap.size + 1 + 1 = t1.heap.size) := (by omega); skip)
      | (go_at_call 31; (with_reducible refine (toPoint_any v1_0 A1_1 n1_1 c1_1 f1_1 A1_2 n1_2 c1_2 f1_2 v1_3 A1_4 n1_4 c1_4 f1_4 A1_5 n1_5 c1_5 f1_5 _ (h1_1.below (B := w.heap.size) (Below.trans (b := t1) O_t1 oldB) (Nat.le_refl _)) (h1_2.below (B := w.heap.size) (Below.trans (b := t1) O_t1 oldB) (Nat.le_refl _)) (h1_4.below (B := w.heap.size) (Below.trans (b := t1) O_t1 oldB) (Nat.le_refl _)) (h1_5.below (B := w.heap.size) (Below.trans (b := t1) O_t1 oldB) (Nat.le_refl _)) hn1_1 hn1_2 hn1_4 hn1_5).mono ?_); rintro e t2 ⟨A_t2_1, A_t2_2, A_t2_4, A_t2_5, rfl, R_t2_1, R_t2_2, R_t2_4, R_t2_5, ap_t2, o_t2⟩; replace o_t2 : Old t1 t2 := Below.trans (b := _) oldB (Below.mono o_t2 leA); have z_t2 := o_t2.size; have O_t2 := Old.trans O_t1 o_t2; clear q_aP_0 q_aP_1 q_aP_2 q_aP_3 q_aP_4 q_aP_5 q_aP q_aQ_0 q_aQ_1 q_aQ_2 q_aQ_3 q_aQ_4 q_aQ_5 q_aQ q_aR_0 q_aR_1 q_aR_2 q_aR_3 q_aR_4 q_aR_5 q_aR; have D2_aP := D1_aP.old o_t2; have q_aP_0 := D2_aP.cell 0 rfl; have q_aP_1 := D2_aP.cell 1 rfl; have q_aP_2 := D2_aP.cell 2 rfl; have q_aP_3 := D2_aP.cell 3 rfl; have q_aP_4 := D2_aP.cell 4 rfl; have q_aP_5 := D2_aP.cell 5 rfl; have q_aP := D2_aP.lt; have D2_aQ := D1_aQ.old o_t2; have q_aQ_0 := D2_aQ.cell 0 rfl; have q_aQ_1 := D2_aQ.cell 1 rfl; have q_aQ_2 := D2_aQ.cell 2 rfl; have q_aQ_3 := D2_aQ.cell 3 rfl; have q_aQ_4 := D2_aQ.cell 4 rfl; have q_aQ_5 := D2_aQ.cell 5 rfl; have q_aQ := D2_aQ.lt; have D2_aR := D1_aR.old o_t2; have q_aR_0 := D2_aR.cell 0 rfl; have q_aR_1 := D2_aR.cell 1 rfl; have q_aR_2 := D2_aR.cell 2 rfl; have q_aR_3 := D2_aR.cell 3 rfl; have q_aR_4 := D2_aR.cell 4 rfl; have q_aR_5 := D2_aR.cell 5 rfl; have q_aR := D2_aR.lt; have net2_aP : ¬ (t2.heap.size = w.heap.size) := (by omega); have ent2_aP : ¬ (w.heap.size = t2.heap.size) := (by omega); have net2_aQ : ¬ (t2.heap.size = w.heap.size + 1) := (by omega); have ent2_aQ : ¬ (w.heap.size + 1 = t2.heap.size) := (by omega); have net2_aR : ¬ (t2.heap.size = w.heap.size + 1 + 1) := (by omega); have ent2_aR : ¬ (w.heap.size + 1 + 1 = t2.heap.size) := (by omega); replace R_t1_1 := Row.below R_t1_1 o_t2 (Nat.le_refl _); replace R_t1_2 := Row.below R_t1_2 o_t2 (Nat.le_refl _); replace R_t1_4 := Row.below R_t1_4 o_t2 (Nat.le_refl _); replace R_t1_5 := Row.below R_t1_5 o_t2 (Nat.le_refl _); skip)
      | (go_at_call 31; (with_reducible refine (toPoint_any v2_0 A2_1 n2_1 c2_1 f2_1 A2_2 n2_2 c2_2 f2_2 v2_3 A2_4 n2_4 c2_4 f2_4 A2_5 n2_5 c2_5 f2_5 _ (h2_1.below (B := w.heap.size) (Below.trans (b := t2) O_t2 oldB) (Nat.le_refl _)) (h2_2.below (B := w.heap.size) (Below.trans (b := t2) O_t2 oldB) (Nat.le_refl _)) (h2_4.below (B := w.heap.size) (Below.trans (b := t2) O_t2 oldB) (Nat.le_refl _)) (h2_5.below (B := w.heap.size) (Below.trans (b := t2) O_t2 oldB) (Nat.le_refl _)) hn2_1 hn2_2 hn2_4 hn2_5).mono ?_); rintro e t3 ⟨A_t3_1, A_t3_2, A_t3_4, A_t3_5, rfl, R_t3_1, R_t3_2, R_t3_4, R_t3_5, ap_t3, o_t3⟩; replace o_t3 : Old t2 t3 := Below.trans (b := _) oldB (Below.mono o_t3 leA); have z_t3 := o_t3.size; have O_t3 := Old.trans O_t2 o_t3; clear q_aP_0 q_aP_1 q_aP_2 q_aP_3 q_aP_4 q_aP_5 q_aP q_aQ_0 q_aQ_1 q_aQ_2 q_aQ_3 q_aQ_4 q_aQ_5 q_aQ q_aR_0 q_aR_1 q_aR_2 q_aR_3 q_aR_4 q_aR_5 q_aR; have D3_aP := D2_aP.old o_t3; have q_aP_0 := D3_aP.cell 0 rfl; have q_aP_1 := D3_aP.cell 1 rfl; have q_aP_2 := D3_aP.cell 2 rfl; have q_aP_3 := D3_aP.cell 3 rfl; have q_aP_4 := D3_aP.cell 4 rfl; have q_aP_5 := D3_aP.cell 5 rfl; have q_aP := D3_aP.lt; have D3_aQ := D2_aQ.old o_t3; have q_aQ_0 := D3_aQ.cell 0 rfl; have q_aQ_1 := D3_aQ.cell 1 rfl; have q_aQ_2 := D3_aQ.cell 2 rfl; have q_aQ_3 := D3_aQ.cell 3 rfl; have q_aQ_4 := D3_aQ.cell 4 rfl; have q_aQ_5 := D3_aQ.cell 5 rfl; have q_aQ := D3_aQ.lt; have D3_aR := D2_aR.old o_t3; have q_aR_0 := D3_aR.cell 0 rfl; have q_aR_1 := D3_aR.cell 1 rfl; have q_aR_2 := D3_aR.cell 2 rfl; have q_aR_3 := D3_aR.cell 3 rfl; have q_aR_4 := D3_aR.cell 4 rfl; have q_aR_5 := D3_aR.cell 5 rfl; have q_aR := D3_aR.lt; have net3_aP : ¬ (t3.heap.size = w.heap.size) := (by omega); have ent3_aP : ¬ (w.heap.size = t3.heap.size) := (by omega); have net3_aQ : ¬ (t3.heap.size = w.heap.size + 1) := (by omega); have ent3_aQ : ¬ (w.heap.size + 1 = t3.heap.size) := (by omega); have net3_aR : ¬ (t3.heap.size = w.heap.size + 1 + 1) := (by omega); have ent3_aR : ¬ (w.heap.size + 1 + 1 = t3.heap.size) := (by omega); replace R_t1_1 := Row.below R_t1_1 o_t3 (Nat.le_refl _); replace R_t1_2 := Row.below R_t1_2 o_t3 (Nat.le_refl _); replace R_t1_4 := Row.below R_t1_4 o_t3 (Nat.le_refl _); replace R_t1_5 := Row.below R_t1_5 o_t3 (Nat.le_refl _); replace R_t2_1 := Row.below R_t2_1 o_t3 (Nat.le_refl _); replace R_t2_2 := Row.below R_t2_2 o_t3 (Nat.le_refl _); replace R_t2_4 := Row.below R_t2_4 o_t3 (Nat.le_refl _); replace R_t2_5 := Row.below R_t2_5 o_t3 (Nat.le_refl _); skip)
      | (go_at_call 73; refine (spec_Side _ _ _ _ _ _ _ _ _ _ _ _ _ _ _ _ _ _ _ _ _ _ _ _ _ _ _ _ _ _ _ _ _ _ _ _ _ _ _ _ _ _ _ _ _ _ _ _ _ _ _ _ _ _ _ _ _ _ _ _ _ _ _ _ _ _ _ (Row.below (B := t3.heap.size) R_t1_1 oldB (Nat.le_refl _)) (Row.below (B := t3.heap.size) R_t1_2 oldB (Nat.le_refl _)) (Row.below (B := t3.heap.size) R_t1_4 oldB (Nat.le_refl _)) (Row.below (B := t3.heap.size) R_t1_5 oldB (Nat.le_refl _)) (Row.below (B := t3.heap.size) R_t2_1 oldB (Nat.le_refl _)) (Row.below (B := t3.heap.size) R_t2_2 oldB (Nat.le_refl _)) (Row.below (B := t3.heap.size) R_t2_4 oldB (Nat.le_refl _)) (Row.below (B := t3.heap.size) R_t2_5 oldB (Nat.le_refl _)) (Row.below (B := t3.heap.size) R_t3_1 oldB (Nat.le_refl _)) (Row.below (B := t3.heap.size) R_t3_2 oldB (Nat.le_refl _)) (Row.below (B := t3.heap.size) R_t3_4 oldB (Nat.le_refl _)) (Row.below (B := t3.heap.size) R_t3_5 oldB (Nat.le_refl _)) hn0_1 hn0_2 hn0_4 hn0_5 hn1_1 hn1_2 hn1_4 hn1_5 hn2_1 hn2_2 hn2_4 hn2_5).mono ?_; rintro e tf ⟨rfl, o_f⟩; replace o_f : Old t3 tf := Below.trans (b := _) oldB (Below.mono o_f leA); have z_f := o_f.size; have O_f := Old.trans O_t3 o_f; clear q_aP_0 q_aP_1 q_aP_2 q_aP_3 q_aP_4 q_aP_5 q_aP q_aQ_0 q_aQ_1 q_aQ_2 q_aQ_3 q_aQ_4 q_aQ_5 q_aQ q_aR_0 q_aR_1 q_aR_2 q_aR_3 q_aR_4 q_aR_5 q_aR; have DF_aP := D3_aP.old o_f; have q_aP_0 := DF_aP.cell 0 rfl; have q_aP_1 := DF_aP.cell 1 rfl; have q_aP_2 := DF_aP.cell 2 rfl; have q_aP_3 := DF_aP.cell 3 rfl; have q_aP_4 := DF_aP.cell 4 rfl; have q_aP_5 := DF_aP.cell 5 rfl; have q_aP := DF_aP.lt; have DF_aQ := D3_aQ.old o_f; have q_aQ_0 := DF_aQ.cell 0 rfl; have q_aQ_1 := DF_aQ.cell 1 rfl; have q_aQ_2 := DF_aQ.cell 2 rfl; have q_aQ_3 := DF_aQ.cell 3 rfl; have q_aQ_4 := DF_aQ.cell 4 rfl; have q_aQ_5 := DF_aQ.cell 5 rfl; have q_aQ := DF_aQ.lt; have DF_aR := D3_aR.old o_f; have q_aR_0 := DF_aR.cell 0 rfl; have q_aR_1 := DF_aR.cell 1 rfl; have q_aR_2 := DF_aR.cell 2 rfl; have q_aR_3 := DF_aR.cell 3 rfl; have q_aR_4 := DF_aR.cell 4 rfl; have q_aR_5 := DF_aR.cell 5 rfl; have q_aR := DF_aR.lt; have netf_aP : ¬ (tf.heap.size = w.heap.size) := (by omega); have entf_aP : ¬ (w.heap.size = tf.heap.size) := (by omega); have netf_aQ : ¬ (tf.heap.size = w.heap.size + 1) := (by omega); have entf_aQ : ¬ (w.heap.size + 1 = tf.heap.size) := (by omega); have netf_aR : ¬ (tf.heap.size = w.heap.size + 1 + 1) := (by omega); have entf_aR : ¬ (w.heap.size + 1 + 1 = tf.heap.size) := (by omega); skip))
    all_goals (go_wp2_with fail; go_meet; exact ⟨rfl, (Below.trans (b := tf) (Old.trans (Old.trans (Old.trans o_t1 o_t2) o_t3) o_f) oldB)⟩)
  case rest =>
  obtain ⟨rfl, o4⟩ := hcut
  obtain ⟨w4, hw⟩ : ∃ x, x = wc := ⟨_, rfl⟩
  subst hw
  clear q_aP_0 q_aP_1 q_aP_2 q_aP_3 q_aP_4 q_aP_5 q_aP q_aQ_0 q_aQ_1 q_aQ_2 q_aQ_3 q_aQ_4 q_aQ_5 q_aQ q_aR_0 q_aR_1 q_aR_2 q_aR_3 q_aR_4 q_aR_5 q_aR
  clear new3_aP enw3_aP new3_aQ enw3_aQ new3_aR enw3_aR
  replace B_aP := B_aP.old o4
  replace B_aQ := B_aQ.old o4
  replace B_aR := B_aR.old o4
  replace O := Old.trans O o4
  have z4 := o4.size
  clear o4
  have q_aP_0 := B_aP.cell 0 rfl
  have q_aP_1 := B_aP.cell 1 rfl
  have q_aP_2 := B_aP.cell 2 rfl
  have q_aP_3 := B_aP.cell 3 rfl
  have q_aP_4 := B_aP.cell 4 rfl
  have q_aP_5 := B_aP.cell 5 rfl
  have q_aP := B_aP.lt
  go_wp2_with fail
  refine (toPoint_any _ _ _ _ _ _ _ _ _ _ _ _ _ _ _ _ _ _ _ (h0_1.below (B := w.heap.size) (Below.trans (b := w4) O oldB) (Nat.le_refl _)) (h0_2.below (B := w.heap.size) (Below.trans (b := w4) O oldB) (Nat.le_refl _)) (h0_4.below (B := w.heap.size) (Below.trans (b := w4) O oldB) (Nat.le_refl _)) (h0_5.below (B := w.heap.size) (Below.trans (b := w4) O oldB) (Nat.le_refl _)) hn0_1 hn0_2 hn0_4 hn0_5).mono ?_
  rintro e w5 ⟨A_t1_1, A_t1_2, A_t1_4, A_t1_5, rfl, R_t1_1, R_t1_2, R_t1_4, R_t1_5, ap_t1, o5⟩
  clear q_aP_0 q_aP_1 q_aP_2 q_aP_3 q_aP_4 q_aP_5 q_aP
  replace B_aP := B_aP.old o5
  replace B_aQ := B_aQ.old o5
  replace B_aR := B_aR.old o5
  replace O := Old.trans O o5
  have z5 := o5.size
  clear o5
  have lim_t1_1 := R_t1_1.lim
  have low_t1_1 := Low.mono (lo' := w4.heap.size + 0) R_t1_1.low (by first | exact Nat.le_refl _ | (simp <;> omega))
  have lim_t1_2 := R_t1_2.lim
  have low_t1_2 := Low.mono (lo' := w4.heap.size + 0) R_t1_2.low (by first | exact Nat.le_refl _ | (simp <;> omega))
  have lim_t1_4 := R_t1_4.lim
  have low_t1_4 := Low.mono (lo' := w4.heap.size + 0) R_t1_4.low (by first | exact Nat.le_refl _ | (simp <;> omega))
  have lim_t1_5 := R_t1_5.lim
  have low_t1_5 := Low.mono (lo' := w4.heap.size + 0) R_t1_5.low (by first | exact Nat.le_refl _ | (simp <;> omega))
  have q_aQ_0 := B_aQ.cell 0 rfl
  have q_aQ_1 := B_aQ.cell 1 rfl
  have q_aQ_2 := B_aQ.cell 2 rfl
  have q_aQ_3 := B_aQ.cell 3 rfl
  have q_aQ_4 := B_aQ.cell 4 rfl
  have q_aQ_5 := B_aQ.cell 5 rfl
  have q_aQ := B_aQ.lt
  go_wp2_with fail
  refine (toPoint_any _ _ _ _ _ _ _ _ _ _ _ _ _ _ _ _ _ _ _ (h1_1.below (B := w.heap.size) (Below.trans (b := w5) O oldB) (Nat.le_refl _)) (h1_2.below (B := w.heap.size) (Below.trans (b := w5) O oldB) (Nat.le_refl _)) (h1_4.below (B := w.heap.size) (Below.trans (b := w5) O oldB) (Nat.le_refl _)) (h1_5.below (B := w.heap.size) (Below.trans (b := w5) O oldB) (Nat.le_refl _)) hn1_1 hn1_2 hn1_4 hn1_5).mono ?_
  rintro e w6 ⟨A_t2_1, A_t2_2, A_t2_4, A_t2_5, rfl, R_t2_1, R_t2_2, R_t2_4, R_t2_5, ap_t2, o6⟩
  clear q_aQ_0 q_aQ_1 q_aQ_2 q_aQ_3 q_aQ_4 q_aQ_5 q_aQ
  have B_t1 : Bx w6 w5.heap.size #[.bool v0_0, .slice A_t1_1 n0_1 n0_1, .slice A_t1_2 n0_2 n0_2, .bool v0_3, .slice A_t1_4 n0_4 n0_4, .slice A_t1_5 n0_5 n0_5] := Bx.old (Bx.new _ _ _) o6
  have zb6 := B_t1.lt
  replace o6 : Old w5 w6 := Below.trans (b := _) oldB (Below.mono o6 (by simp <;> omega))
  replace B_aP := B_aP.old o6
  replace B_aQ := B_aQ.old o6
  replace B_aR := B_aR.old o6
  replace R_t1_1 := Row.below R_t1_1 o6 (Nat.le_refl _)
  replace R_t1_2 := Row.below R_t1_2 o6 (Nat.le_refl _)
  replace R_t1_4 := Row.below R_t1_4 o6 (Nat.le_refl _)
  replace R_t1_5 := Row.below R_t1_5 o6 (Nat.le_refl _)
  replace O := Old.trans O o6
  have z6 := o6.size
  clear o6
  have lim_t2_1 := R_t2_1.lim
  have low_t2_1 := Low.mono (lo' := w5.heap.size + 1) R_t2_1.low (by first | exact Nat.le_refl _ | (simp <;> omega))
  have lim_t2_2 := R_t2_2.lim
  have low_t2_2 := Low.mono (lo' := w5.heap.size + 1) R_t2_2.low (by first | exact Nat.le_refl _ | (simp <;> omega))
  have lim_t2_4 := R_t2_4.lim
  have low_t2_4 := Low.mono (lo' := w5.heap.size + 1) R_t2_4.low (by first | exact Nat.le_refl _ | (simp <;> omega))
  have lim_t2_5 := R_t2_5.lim
  have low_t2_5 := Low.mono (lo' := w5.heap.size + 1) R_t2_5.low (by first | exact Nat.le_refl _ | (simp <;> omega))
  have q_aR_0 := B_aR.cell 0 rfl
  have q_aR_1 := B_aR.cell 1 rfl
  have q_aR_2 := B_aR.cell 2 rfl
  have q_aR_3 := B_aR.cell 3 rfl
  have q_aR_4 := B_aR.cell 4 rfl
  have q_aR_5 := B_aR.cell 5 rfl
  have q_aR := B_aR.lt
  go_wp2_with fail
  refine (toPoint_any _ _ _ _ _ _ _ _ _ _ _ _ _ _ _ _ _ _ _ (h2_1.below (B := w.heap.size) (Below.trans (b := w6) O oldB) (Nat.le_refl _)) (h2_2.below (B := w.heap.size) (Below.trans (b := w6) O oldB) (Nat.le_refl _)) (h2_4.below (B := w.heap.size) (Below.trans (b := w6) O oldB) (Nat.le_refl _)) (h2_5.below (B := w.heap.size) (Below.trans (b := w6) O oldB) (Nat.le_refl _)) hn2_1 hn2_2 hn2_4 hn2_5).mono ?_
  rintro e w7 ⟨A_t3_1, A_t3_2, A_t3_4, A_t3_5, rfl, R_t3_1, R_t3_2, R_t3_4, R_t3_5, ap_t3, o7⟩
  clear q_aR_0 q_aR_1 q_aR_2 q_aR_3 q_aR_4 q_aR_5 q_aR
  have B_t2 : Bx w7 w6.heap.size #[.bool v1_0, .slice A_t2_1 n1_1 n1_1, .slice A_t2_2 n1_2 n1_2, .bool v1_3, .slice A_t2_4 n1_4 n1_4, .slice A_t2_5 n1_5 n1_5] := Bx.old (Bx.new _ _ _) o7
  have zb7 := B_t2.lt
  replace o7 : Old w6 w7 := Below.trans (b := _) oldB (Below.mono o7 (by simp <;> omega))
  replace B_aP := B_aP.old o7
  replace B_aQ := B_aQ.old o7
  replace B_aR := B_aR.old o7
  replace B_t1 := B_t1.old o7
  replace R_t1_1 := Row.below R_t1_1 o7 (Nat.le_refl _)
  replace R_t1_2 := Row.below R_t1_2 o7 (Nat.le_refl _)
  replace R_t1_4 := Row.below R_t1_4 o7 (Nat.le_refl _)
  replace R_t1_5 := Row.below R_t1_5 o7 (Nat.le_refl _)
  replace R_t2_1 := Row.below R_t2_1 o7 (Nat.le_refl _)
  replace R_t2_2 := Row.below R_t2_2 o7 (Nat.le_refl _)
  replace R_t2_4 := Row.below R_t2_4 o7 (Nat.le_refl _)
  replace R_t2_5 := Row.below R_t2_5 o7 (Nat.le_refl _)
  replace O := Old.trans O o7
  have z7 := o7.size
  clear o7
  have lim_t3_1 := R_t3_1.lim
  have low_t3_1 := Low.mono (lo' := w6.heap.size + 1) R_t3_1.low (by first | exact Nat.le_refl _ | (simp <;> omega))
  have lim_t3_2 := R_t3_2.lim
  have low_t3_2 := Low.mono (lo' := w6.heap.size + 1) R_t3_2.low (by first | exact Nat.le_refl _ | (simp <;> omega))
  have lim_t3_4 := R_t3_4.lim
  have low_t3_4 := Low.mono (lo' := w6.heap.size + 1) R_t3_4.low (by first | exact Nat.le_refl _ | (simp <;> omega))
  have lim_t3_5 := R_t3_5.lim
  have low_t3_5 := Low.mono (lo' := w6.heap.size + 1) R_t3_5.low (by first | exact Nat.le_refl _ | (simp <;> omega))
  have q_t1_0 := B_t1.cell 0 rfl
  have q_t1_1 := B_t1.cell 1 rfl
  have q_t1_2 := B_t1.cell 2 rfl
  have q_t1_3 := B_t1.cell 3 rfl
  have q_t1_4 := B_t1.cell 4 rfl
  have q_t1_5 := B_t1.cell 5 rfl
  have q_t1 := B_t1.lt
  have q_t2_0 := B_t2.cell 0 rfl
  have q_t2_1 := B_t2.cell 1 rfl
  have q_t2_2 := B_t2.cell 2 rfl
  have q_t2_3 := B_t2.cell 3 rfl
  have q_t2_4 := B_t2.cell 4 rfl
  have q_t2_5 := B_t2.cell 5 rfl
  have q_t2 := B_t2.lt
  go_wp2_with fail
  refine (impl_Side _ _ _ _ _ _ _ _ _ _ _ _ _ _ _ _ _ _ _ _ _ _ _ _ _ _ _ _ _ _ _ _ _ _ _ _ _ _ _ _ _ _ _ _ _ _ _ _ _ _ _ _ _ _ _ _ _ _ _ _ _ _ _ _ _ _ _ (Row.below (B := w7.heap.size) R_t1_1 oldB (Nat.le_refl _)) (Row.below (B := w7.heap.size) R_t1_2 oldB (Nat.le_refl _)) (Row.below (B := w7.heap.size) R_t1_4 oldB (Nat.le_refl _)) (Row.below (B := w7.heap.size) R_t1_5 oldB (Nat.le_refl _)) (Row.below (B := w7.heap.size) R_t2_1 oldB (Nat.le_refl _)) (Row.below (B := w7.heap.size) R_t2_2 oldB (Nat.le_refl _)) (Row.below (B := w7.heap.size) R_t2_4 oldB (Nat.le_refl _)) (Row.below (B := w7.heap.size) R_t2_5 oldB (Nat.le_refl _)) (Row.below (B := w7.heap.size) R_t3_1 oldB (Nat.le_refl _)) (Row.below (B := w7.heap.size) R_t3_2 oldB (Nat.le_refl _)) (Row.below (B := w7.heap.size) R_t3_4 oldB (Nat.le_refl _)) (Row.below (B := w7.heap.size) R_t3_5 oldB (Nat.le_refl _)) hn0_1 hn0_2 hn0_4 hn0_5 hn1_1 hn1_2 hn1_4 hn1_5 hn2_1 hn2_2 hn2_4 hn2_5).mono ?_
  rintro e w8 ⟨rfl, o8⟩
  clear q_t1_0 q_t1_1 q_t1_2 q_t1_3 q_t1_4 q_t1_5 q_t1 q_t2_0 q_t2_1 q_t2_2 q_t2_3 q_t2_4 q_t2_5 q_t2
  have B_t3 : Bx w8 w7.heap.size #[.bool v2_0, .slice A_t3_1 n2_1 n2_1, .slice A_t3_2 n2_2 n2_2, .bool v2_3, .slice A_t3_4 n2_4 n2_4, .slice A_t3_5 n2_5 n2_5] := Bx.old (Bx.new _ _ _) o8
  have zb8 := B_t3.lt
  replace o8 : Old w7 w8 := Below.trans (b := _) oldB (Below.mono o8 (by simp <;> omega))
  replace B_aP := B_aP.old o8
  replace B_aQ := B_aQ.old o8
  replace B_aR := B_aR.old o8
  replace B_t1 := B_t1.old o8
  replace B_t2 := B_t2.old o8
  replace R_t1_1 := Row.below R_t1_1 o8 (Nat.le_refl _)
  replace R_t1_2 := Row.below R_t1_2 o8 (Nat.le_refl _)
  replace R_t1_4 := Row.below R_t1_4 o8 (Nat.le_refl _)
  replace R_t1_5 := Row.below R_t1_5 o8 (Nat.le_refl _)
  replace R_t2_1 := Row.below R_t2_1 o8 (Nat.le_refl _)
  replace R_t2_2 := Row.below R_t2_2 o8 (Nat.le_refl _)
  replace R_t2_4 := Row.below R_t2_4 o8 (Nat.le_refl _)
  replace R_t2_5 := Row.below R_t2_5 o8 (Nat.le_refl _)
  replace R_t3_1 := Row.below R_t3_1 o8 (Nat.le_refl _)
  replace R_t3_2 := Row.below R_t3_2 o8 (Nat.le_refl _)
  replace R_t3_4 := Row.below R_t3_4 o8 (Nat.le_refl _)
  replace R_t3_5 := Row.below R_t3_5 o8 (Nat.le_refl _)
  replace O := Old.trans O o8
  have z8 := o8.size
  clear o8
  have q_aP_0 := B_aP.cell 0 rfl
  have q_aP_1 := B_aP.cell 1 rfl
  have q_aP_2 := B_aP.cell 2 rfl
  have q_aP_3 := B_aP.cell 3 rfl
  have q_aP_4 := B_aP.cell 4 rfl
  have q_aP_5 := B_aP.cell 5 rfl
  have q_aP := B_aP.lt
  have q_t1_0 := B_t1.cell 0 rfl
  have q_t1_1 := B_t1.cell 1 rfl
  have q_t1_2 := B_t1.cell 2 rfl
  have q_t1_3 := B_t1.cell 3 rfl
  have q_t1_4 := B_t1.cell 4 rfl
  have q_t1_5 := B_t1.cell 5 rfl
  have q_t1 := B_t1.lt
  go_upto_region 18 with fail
  go_cut [52] (fun sl wx => sl = .bool false ∧ Old w8 wx)
  case first =>
    go_region_held3 (fun w' => w'.cell? ⟨w.heap.size, 0, none⟩ = some (.bool v0_0) ∧ w'.cell? ⟨w.heap.size, 1, none⟩ = some (.slice A0_1 n0_1 c0_1) ∧ w'.cell? ⟨w.heap.size, 2, none⟩ = some (.slice A0_2 n0_2 c0_2) ∧ w'.cell? ⟨w.heap.size, 3, none⟩ = some (.bool v0_3) ∧ w'.cell? ⟨w.heap.size, 4, none⟩ = some (.slice A0_4 n0_4 c0_4) ∧ w'.cell? ⟨w.heap.size, 5, none⟩ = some (.slice A0_5 n0_5 c0_5) ∧ w'.cell? ⟨w5.heap.size, 0, none⟩ = some (.bool v0_0) ∧ w'.cell? ⟨w5.heap.size, 1, none⟩ = some (.slice A_t1_1 n0_1 n0_1) ∧ w'.cell? ⟨w5.heap.size, 2, none⟩ = some (.slice A_t1_2 n0_2 n0_2) ∧ w'.cell? ⟨w5.heap.size, 3, none⟩ = some (.bool v0_3) ∧ w'.cell? ⟨w5.heap.size, 4, none⟩ = some (.slice A_t1_4 n0_4 n0_4) ∧ w'.cell? ⟨w5.heap.size, 5, none⟩ = some (.slice A_t1_5 n0_5 n0_5)) (go_keep)
      (first
      | (go_at_call 31; refine (toPoint_any v0_0 A0_1 n0_1 c0_1 f0_1 A0_2 n0_2 c0_2 f0_2 v0_3 A0_4 n0_4 c0_4 f0_4 A0_5 n0_5 c0_5 f0_5 _ (h0_1.below (B := w.heap.size) (Below.trans (b := w8) O oldB) (Nat.le_refl _)) (h0_2.below (B := w.heap.size) (Below.trans (b := w8) O oldB) (Nat.le_refl _)) (h0_4.below (B := w.heap.size) (Below.trans (b := w8) O oldB) (Nat.le_refl _)) (h0_5.below (B := w.heap.size) (Below.trans (b := w8) O oldB) (Nat.le_refl _)) hn0_1 hn0_2 hn0_4 hn0_5).mono ?_; rintro e wt ⟨A_t_1, A_t_2, A_t_4, A_t_5, rfl, R_t_1, R_t_2, R_t_4, R_t_5, ap_t, o6⟩; replace o6 : Old w8 wt := Below.trans (b := _) oldB (Below.mono o6 leA); clear q_aP_0 q_aP_1 q_aP_2 q_aP_3 q_aP_4 q_aP_5 q_aP q_t1_0 q_t1_1 q_t1_2 q_t1_3 q_t1_4 q_t1_5 q_t1; have D_aP := B_aP.old o6; have q_aP_0 := D_aP.cell 0 rfl; have q_aP_1 := D_aP.cell 1 rfl; have q_aP_2 := D_aP.cell 2 rfl; have q_aP_3 := D_aP.cell 3 rfl; have q_aP_4 := D_aP.cell 4 rfl; have q_aP_5 := D_aP.cell 5 rfl; have q_aP := D_aP.lt; have D_t1 := B_t1.old o6; have q_t1_0 := D_t1.cell 0 rfl; have q_t1_1 := D_t1.cell 1 rfl; have q_t1_2 := D_t1.cell 2 rfl; have q_t1_3 := D_t1.cell 3 rfl; have q_t1_4 := D_t1.cell 4 rfl; have q_t1_5 := D_t1.cell 5 rfl; have q_t1 := D_t1.lt)
      | (go_at_call 33; refine (eqPoint_yes _ _ _ _ _ _ _ _ _ _ _ _ _ _ _ _ _ _ _ _ _ _ _ _ _ _ _ _ _ _ _ _ _ _ _ _ _ _ _ (Row.below (B := w8.heap.size) R_t1_1 (Below.trans (b := wt) o6 oldB) (Nat.le_refl _)) (Row.below (B := wt.heap.size) R_t_1 oldB (Nat.le_refl _)) (fun _ _ => rfl) hn0_1 (Row.below (B := w8.heap.size) R_t1_2 (Below.trans (b := wt) o6 oldB) (Nat.le_refl _)) (Row.below (B := wt.heap.size) R_t_2 oldB (Nat.le_refl _)) (fun _ _ => rfl) hn0_2 (Row.below (B := w8.heap.size) R_t1_4 (Below.trans (b := wt) o6 oldB) (Nat.le_refl _)) (Row.below (B := wt.heap.size) R_t_4 oldB (Nat.le_refl _)) (fun _ _ => rfl) hn0_4 (Row.below (B := w8.heap.size) R_t1_5 (Below.trans (b := wt) o6 oldB) (Nat.le_refl _)) (Row.below (B := wt.heap.size) R_t_5 oldB (Nat.le_refl _)) (fun _ _ => rfl) hn0_5).mono ?_; rintro e wu ⟨rfl, o7⟩; replace o7 : Old wt wu := Below.trans (b := _) oldB (Below.mono o7 leA); clear q_aP_0 q_aP_1 q_aP_2 q_aP_3 q_aP_4 q_aP_5 q_aP q_t1_0 q_t1_1 q_t1_2 q_t1_3 q_t1_4 q_t1_5 q_t1; have E_aP := D_aP.old o7; have q_aP_0 := E_aP.cell 0 rfl; have q_aP_1 := E_aP.cell 1 rfl; have q_aP_2 := E_aP.cell 2 rfl; have q_aP_3 := E_aP.cell 3 rfl; have q_aP_4 := E_aP.cell 4 rfl; have q_aP_5 := E_aP.cell 5 rfl; have q_aP := E_aP.lt; have E_t1 := D_t1.old o7; have q_t1_0 := E_t1.cell 0 rfl; have q_t1_1 := E_t1.cell 1 rfl; have q_t1_2 := E_t1.cell 2 rfl; have q_t1_3 := E_t1.cell 3 rfl; have q_t1_4 := E_t1.cell 4 rfl; have q_t1_5 := E_t1.cell 5 rfl; have q_t1 := E_t1.lt))
    all_goals (go_wp2_with fail; go_meet; exact ⟨rfl, Old.trans o6 (Below.trans (b := _) o7 oldB)⟩)
  case rest =>
  obtain ⟨rfl, o9⟩ := hcut
  obtain ⟨w9, hw⟩ : ∃ x, x = wc := ⟨_, rfl⟩
  subst hw
  clear q_aP_0 q_aP_1 q_aP_2 q_aP_3 q_aP_4 q_aP_5 q_aP q_t1_0 q_t1_1 q_t1_2 q_t1_3 q_t1_4 q_t1_5 q_t1
  replace B_aP := B_aP.old o9
  replace B_aQ := B_aQ.old o9
  replace B_aR := B_aR.old o9
  replace B_t1 := B_t1.old o9
  replace B_t2 := B_t2.old o9
  replace B_t3 := B_t3.old o9
  replace R_t1_1 := Row.below R_t1_1 o9 (Nat.le_refl _)
  replace R_t1_2 := Row.below R_t1_2 o9 (Nat.le_refl _)
  replace R_t1_4 := Row.below R_t1_4 o9 (Nat.le_refl _)
  replace R_t1_5 := Row.below R_t1_5 o9 (Nat.le_refl _)
  replace R_t2_1 := Row.below R_t2_1 o9 (Nat.le_refl _)
  replace R_t2_2 := Row.below R_t2_2 o9 (Nat.le_refl _)
  replace R_t2_4 := Row.below R_t2_4 o9 (Nat.le_refl _)
  replace R_t2_5 := Row.below R_t2_5 o9 (Nat.le_refl _)
  replace R_t3_1 := Row.below R_t3_1 o9 (Nat.le_refl _)
  replace R_t3_2 := Row.below R_t3_2 o9 (Nat.le_refl _)
  replace R_t3_4 := Row.below R_t3_4 o9 (Nat.le_refl _)
  replace R_t3_5 := Row.below R_t3_5 o9 (Nat.le_refl _)
  replace O := Old.trans O o9
  have z9 := o9.size
  clear o9
  clear B_aP
  clear R_t1_1 lim_t1_1 low_t1_1
  clear R_t1_2 lim_t1_2 low_t1_2
  clear R_t1_4 lim_t1_4 low_t1_4
  clear R_t1_5 lim_t1_5 low_t1_5
  clear B_t1
  have q_aQ_0 := B_aQ.cell 0 rfl
  have q_aQ_1 := B_aQ.cell 1 rfl
  have q_aQ_2 := B_aQ.cell 2 rfl
  have q_aQ_3 := B_aQ.cell 3 rfl
  have q_aQ_4 := B_aQ.cell 4 rfl
  have q_aQ_5 := B_aQ.cell 5 rfl
  have q_aQ := B_aQ.lt
  have q_t2_0 := B_t2.cell 0 rfl
  have q_t2_1 := B_t2.cell 1 rfl
  have q_t2_2 := B_t2.cell 2 rfl
  have q_t2_3 := B_t2.cell 3 rfl
  have q_t2_4 := B_t2.cell 4 rfl
  have q_t2_5 := B_t2.cell 5 rfl
  have q_t2 := B_t2.lt
  go_upto_region 20 with fail
  go_cut [57] (fun sl wx => sl = .bool false ∧ Old w9 wx)
  case first =>
    go_region_held3 (fun w' => w'.cell? ⟨w.heap.size + 1, 0, none⟩ = some (.bool v1_0) ∧ w'.cell? ⟨w.heap.size + 1, 1, none⟩ = some (.slice A1_1 n1_1 c1_1) ∧ w'.cell? ⟨w.heap.size + 1, 2, none⟩ = some (.slice A1_2 n1_2 c1_2) ∧ w'.cell? ⟨w.heap.size + 1, 3, none⟩ = some (.bool v1_3) ∧ w'.cell? ⟨w.heap.size + 1, 4, none⟩ = some (.slice A1_4 n1_4 c1_4) ∧ w'.cell? ⟨w.heap.size + 1, 5, none⟩ = some (.slice A1_5 n1_5 c1_5) ∧ w'.cell? ⟨w6.heap.size, 0, none⟩ = some (.bool v1_0) ∧ w'.cell? ⟨w6.heap.size, 1, none⟩ = some (.slice A_t2_1 n1_1 n1_1) ∧ w'.cell? ⟨w6.heap.size, 2, none⟩ = some (.slice A_t2_2 n1_2 n1_2) ∧ w'.cell? ⟨w6.heap.size, 3, none⟩ = some (.bool v1_3) ∧ w'.cell? ⟨w6.heap.size, 4, none⟩ = some (.slice A_t2_4 n1_4 n1_4) ∧ w'.cell? ⟨w6.heap.size, 5, none⟩ = some (.slice A_t2_5 n1_5 n1_5)) (go_keep)
      (first
      | (go_at_call 31; refine (toPoint_any v1_0 A1_1 n1_1 c1_1 f1_1 A1_2 n1_2 c1_2 f1_2 v1_3 A1_4 n1_4 c1_4 f1_4 A1_5 n1_5 c1_5 f1_5 _ (h1_1.below (B := w.heap.size) (Below.trans (b := w9) O oldB) (Nat.le_refl _)) (h1_2.below (B := w.heap.size) (Below.trans (b := w9) O oldB) (Nat.le_refl _)) (h1_4.below (B := w.heap.size) (Below.trans (b := w9) O oldB) (Nat.le_refl _)) (h1_5.below (B := w.heap.size) (Below.trans (b := w9) O oldB) (Nat.le_refl _)) hn1_1 hn1_2 hn1_4 hn1_5).mono ?_; rintro e wt ⟨A_t_1, A_t_2, A_t_4, A_t_5, rfl, R_t_1, R_t_2, R_t_4, R_t_5, ap_t, o6⟩; replace o6 : Old w9 wt := Below.trans (b := _) oldB (Below.mono o6 leA); clear q_aQ_0 q_aQ_1 q_aQ_2 q_aQ_3 q_aQ_4 q_aQ_5 q_aQ q_t2_0 q_t2_1 q_t2_2 q_t2_3 q_t2_4 q_t2_5 q_t2; have D_aQ := B_aQ.old o6; have q_aQ_0 := D_aQ.cell 0 rfl; have q_aQ_1 := D_aQ.cell 1 rfl; have q_aQ_2 := D_aQ.cell 2 rfl; have q_aQ_3 := D_aQ.cell 3 rfl; have q_aQ_4 := D_aQ.cell 4 rfl; have q_aQ_5 := D_aQ.cell 5 rfl; have q_aQ := D_aQ.lt; have D_t2 := B_t2.old o6; have q_t2_0 := D_t2.cell 0 rfl; have q_t2_1 := D_t2.cell 1 rfl; have q_t2_2 := D_t2.cell 2 rfl; have q_t2_3 := D_t2.cell 3 rfl; have q_t2_4 := D_t2.cell 4 rfl; have q_t2_5 := D_t2.cell 5 rfl; have q_t2 := D_t2.lt)
      | (go_at_call 33; refine (eqPoint_yes _ _ _ _ _ _ _ _ _ _ _ _ _ _ _ _ _ _ _ _ _ _ _ _ _ _ _ _ _ _ _ _ _ _ _ _ _ _ _ (Row.below (B := w9.heap.size) R_t2_1 (Below.trans (b := wt) o6 oldB) (Nat.le_refl _)) (Row.below (B := wt.heap.size) R_t_1 oldB (Nat.le_refl _)) (fun _ _ => rfl) hn1_1 (Row.below (B := w9.heap.size) R_t2_2 (Below.trans (b := wt) o6 oldB) (Nat.le_refl _)) (Row.below (B := wt.heap.size) R_t_2 oldB (Nat.le_refl _)) (fun _ _ => rfl) hn1_2 (Row.below (B := w9.heap.size) R_t2_4 (Below.trans (b := wt) o6 oldB) (Nat.le_refl _)) (Row.below (B := wt.heap.size) R_t_4 oldB (Nat.le_refl _)) (fun _ _ => rfl) hn1_4 (Row.below (B := w9.heap.size) R_t2_5 (Below.trans (b := wt) o6 oldB) (Nat.le_refl _)) (Row.below (B := wt.heap.size) R_t_5 oldB (Nat.le_refl _)) (fun _ _ => rfl) hn1_5).mono ?_; rintro e wu ⟨rfl, o7⟩; replace o7 : Old wt wu := Below.trans (b := _) oldB (Below.mono o7 leA); clear q_aQ_0 q_aQ_1 q_aQ_2 q_aQ_3 q_aQ_4 q_aQ_5 q_aQ q_t2_0 q_t2_1 q_t2_2 q_t2_3 q_t2_4 q_t2_5 q_t2; have E_aQ := D_aQ.old o7; have q_aQ_0 := E_aQ.cell 0 rfl; have q_aQ_1 := E_aQ.cell 1 rfl; have q_aQ_2 := E_aQ.cell 2 rfl; have q_aQ_3 := E_aQ.cell 3 rfl; have q_aQ_4 := E_aQ.cell 4 rfl; have q_aQ_5 := E_aQ.cell 5 rfl; have q_aQ := E_aQ.lt; have E_t2 := D_t2.old o7; have q_t2_0 := E_t2.cell 0 rfl; have q_t2_1 := E_t2.cell 1 rfl; have q_t2_2 := E_t2.cell 2 rfl; have q_t2_3 := E_t2.cell 3 rfl; have q_t2_4 := E_t2.cell 4 rfl; have q_t2_5 := E_t2.cell 5 rfl; have q_t2 := E_t2.lt))
    all_goals (go_wp2_with fail; go_meet; exact ⟨rfl, Old.trans o6 (Below.trans (b := _) o7 oldB)⟩)
  case rest =>
  obtain ⟨rfl, o10⟩ := hcut
  obtain ⟨w10, hw⟩ : ∃ x, x = wc := ⟨_, rfl⟩
  subst hw
  clear q_aQ_0 q_aQ_1 q_aQ_2 q_aQ_3 q_aQ_4 q_aQ_5 q_aQ q_t2_0 q_t2_1 q_t2_2 q_t2_3 q_t2_4 q_t2_5 q_t2
  replace B_aQ := B_aQ.old o10
  replace B_aR := B_aR.old o10
  replace B_t2 := B_t2.old o10
  replace B_t3 := B_t3.old o10
  replace R_t2_1 := Row.below R_t2_1 o10 (Nat.le_refl _)
  replace R_t2_2 := Row.below R_t2_2 o10 (Nat.le_refl _)
  replace R_t2_4 := Row.below R_t2_4 o10 (Nat.le_refl _)
  replace R_t2_5 := Row.below R_t2_5 o10 (Nat.le_refl _)
  replace R_t3_1 := Row.below R_t3_1 o10 (Nat.le_refl _)
  replace R_t3_2 := Row.below R_t3_2 o10 (Nat.le_refl _)
  replace R_t3_4 := Row.below R_t3_4 o10 (Nat.le_refl _)
  replace R_t3_5 := Row.below R_t3_5 o10 (Nat.le_refl _)
  replace O := Old.trans O o10
  have z10 := o10.size
  clear o10
  clear B_aQ
  clear R_t2_1 lim_t2_1 low_t2_1
  clear R_t2_2 lim_t2_2 low_t2_2
  clear R_t2_4 lim_t2_4 low_t2_4
  clear R_t2_5 lim_t2_5 low_t2_5
  clear B_t2
  have q_aR_0 := B_aR.cell 0 rfl
  have q_aR_1 := B_aR.cell 1 rfl
  have q_aR_2 := B_aR.cell 2 rfl
  have q_aR_3 := B_aR.cell 3 rfl
  have q_aR_4 := B_aR.cell 4 rfl
  have q_aR_5 := B_aR.cell 5 rfl
  have q_aR := B_aR.lt
  have q_t3_0 := B_t3.cell 0 rfl
  have q_t3_1 := B_t3.cell 1 rfl
  have q_t3_2 := B_t3.cell 2 rfl
  have q_t3_3 := B_t3.cell 3 rfl
  have q_t3_4 := B_t3.cell 4 rfl
  have q_t3_5 := B_t3.cell 5 rfl
  have q_t3 := B_t3.lt
  go_upto_region 22 with fail
  go_cut [62] (fun sl wx => sl = .bool false ∧ Old w10 wx)
  case first =>
    go_region_held3 (fun w' => w'.cell? ⟨w.heap.size + 1 + 1, 0, none⟩ = some (.bool v2_0) ∧ w'.cell? ⟨w.heap.size + 1 + 1, 1, none⟩ = some (.slice A2_1 n2_1 c2_1) ∧ w'.cell? ⟨w.heap.size + 1 + 1, 2, none⟩ = some (.slice A2_2 n2_2 c2_2) ∧ w'.cell? ⟨w.heap.size + 1 + 1, 3, none⟩ = some (.bool v2_3) ∧ w'.cell? ⟨w.heap.size + 1 + 1, 4, none⟩ = some (.slice A2_4 n2_4 c2_4) ∧ w'.cell? ⟨w.heap.size + 1 + 1, 5, none⟩ = some (.slice A2_5 n2_5 c2_5) ∧ w'.cell? ⟨w7.heap.size, 0, none⟩ = some (.bool v2_0) ∧ w'.cell? ⟨w7.heap.size, 1, none⟩ = some (.slice A_t3_1 n2_1 n2_1) ∧ w'.cell? ⟨w7.heap.size, 2, none⟩ = some (.slice A_t3_2 n2_2 n2_2) ∧ w'.cell? ⟨w7.heap.size, 3, none⟩ = some (.bool v2_3) ∧ w'.cell? ⟨w7.heap.size, 4, none⟩ = some (.slice A_t3_4 n2_4 n2_4) ∧ w'.cell? ⟨w7.heap.size, 5, none⟩ = some (.slice A_t3_5 n2_5 n2_5)) (go_keep)
      (first
      | (go_at_call 31; refine (toPoint_any v2_0 A2_1 n2_1 c2_1 f2_1 A2_2 n2_2 c2_2 f2_2 v2_3 A2_4 n2_4 c2_4 f2_4 A2_5 n2_5 c2_5 f2_5 _ (h2_1.below (B := w.heap.size) (Below.trans (b := w10) O oldB) (Nat.le_refl _)) (h2_2.below (B := w.heap.size) (Below.trans (b := w10) O oldB) (Nat.le_refl _)) (h2_4.below (B := w.heap.size) (Below.trans (b := w10) O oldB) (Nat.le_refl _)) (h2_5.below (B := w.heap.size) (Below.trans (b := w10) O oldB) (Nat.le_refl _)) hn2_1 hn2_2 hn2_4 hn2_5).mono ?_; rintro e wt ⟨A_t_1, A_t_2, A_t_4, A_t_5, rfl, R_t_1, R_t_2, R_t_4, R_t_5, ap_t, o6⟩; replace o6 : Old w10 wt := Below.trans (b := _) oldB (Below.mono o6 leA); clear q_aR_0 q_aR_1 q_aR_2 q_aR_3 q_aR_4 q_aR_5 q_aR q_t3_0 q_t3_1 q_t3_2 q_t3_3 q_t3_4 q_t3_5 q_t3; have D_aR := B_aR.old o6; have q_aR_0 := D_aR.cell 0 rfl; have q_aR_1 := D_aR.cell 1 rfl; have q_aR_2 := D_aR.cell 2 rfl; have q_aR_3 := D_aR.cell 3 rfl; have q_aR_4 := D_aR.cell 4 rfl; have q_aR_5 := D_aR.cell 5 rfl; have q_aR := D_aR.lt; have D_t3 := B_t3.old o6; have q_t3_0 := D_t3.cell 0 rfl; have q_t3_1 := D_t3.cell 1 rfl; have q_t3_2 := D_t3.cell 2 rfl; have q_t3_3 := D_t3.cell 3 rfl; have q_t3_4 := D_t3.cell 4 rfl; have q_t3_5 := D_t3.cell 5 rfl; have q_t3 := D_t3.lt)
      | (go_at_call 33; refine (eqPoint_yes _ _ _ _ _ _ _ _ _ _ _ _ _ _ _ _ _ _ _ _ _ _ _ _ _ _ _ _ _ _ _ _ _ _ _ _ _ _ _ (Row.below (B := w10.heap.size) R_t3_1 (Below.trans (b := wt) o6 oldB) (Nat.le_refl _)) (Row.below (B := wt.heap.size) R_t_1 oldB (Nat.le_refl _)) (fun _ _ => rfl) hn2_1 (Row.below (B := w10.heap.size) R_t3_2 (Below.trans (b := wt) o6 oldB) (Nat.le_refl _)) (Row.below (B := wt.heap.size) R_t_2 oldB (Nat.le_refl _)) (fun _ _ => rfl) hn2_2 (Row.below (B := w10.heap.size) R_t3_4 (Below.trans (b := wt) o6 oldB) (Nat.le_refl _)) (Row.below (B := wt.heap.size) R_t_4 oldB (Nat.le_refl _)) (fun _ _ => rfl) hn2_4 (Row.below (B := w10.heap.size) R_t3_5 (Below.trans (b := wt) o6 oldB) (Nat.le_refl _)) (Row.below (B := wt.heap.size) R_t_5 oldB (Nat.le_refl _)) (fun _ _ => rfl) hn2_5).mono ?_; rintro e wu ⟨rfl, o7⟩; replace o7 : Old wt wu := Below.trans (b := _) oldB (Below.mono o7 leA); clear q_aR_0 q_aR_1 q_aR_2 q_aR_3 q_aR_4 q_aR_5 q_aR q_t3_0 q_t3_1 q_t3_2 q_t3_3 q_t3_4 q_t3_5 q_t3; have E_aR := D_aR.old o7; have q_aR_0 := E_aR.cell 0 rfl; have q_aR_1 := E_aR.cell 1 rfl; have q_aR_2 := E_aR.cell 2 rfl; have q_aR_3 := E_aR.cell 3 rfl; have q_aR_4 := E_aR.cell 4 rfl; have q_aR_5 := E_aR.cell 5 rfl; have q_aR := E_aR.lt; have E_t3 := D_t3.old o7; have q_t3_0 := E_t3.cell 0 rfl; have q_t3_1 := E_t3.cell 1 rfl; have q_t3_2 := E_t3.cell 2 rfl; have q_t3_3 := E_t3.cell 3 rfl; have q_t3_4 := E_t3.cell 4 rfl; have q_t3_5 := E_t3.cell 5 rfl; have q_t3 := E_t3.lt))
    all_goals (go_wp2_with fail; go_meet; exact ⟨rfl, Old.trans o6 (Below.trans (b := _) o7 oldB)⟩)
  case rest =>
  obtain ⟨rfl, o11⟩ := hcut
  obtain ⟨w11, hw⟩ : ∃ x, x = wc := ⟨_, rfl⟩
  subst hw
  clear q_aR_0 q_aR_1 q_aR_2 q_aR_3 q_aR_4 q_aR_5 q_aR q_t3_0 q_t3_1 q_t3_2 q_t3_3 q_t3_4 q_t3_5 q_t3
  replace B_aR := B_aR.old o11
  replace B_t3 := B_t3.old o11
  replace R_t3_1 := Row.below R_t3_1 o11 (Nat.le_refl _)
  replace R_t3_2 := Row.below R_t3_2 o11 (Nat.le_refl _)
  replace R_t3_4 := Row.below R_t3_4 o11 (Nat.le_refl _)
  replace R_t3_5 := Row.below R_t3_5 o11 (Nat.le_refl _)
  replace O := Old.trans O o11
  have z11 := o11.size
  clear o11
  clear B_aR
  clear R_t3_1 lim_t3_1 low_t3_1
  clear R_t3_2 lim_t3_2 low_t3_2
  clear R_t3_4 lim_t3_4 low_t3_4
  clear R_t3_5 lim_t3_5 low_t3_5
  clear B_t3
  go_wp2
  go_ret
  exact ⟨rfl, O⟩

set_option maxRecDepth 100000 in
theorem liftedSide (os : Os) (started : os.Started) (H : Type) (enc : TypeId × Value → H) :
    ReturnsInHanded {} Try.checked os 20 .any (Rows.fnExactSideSpec.pre6 enc Try.prog Try.f20 Rows.fnExactSideRow.domain false) (Rows.fnExactSideSpec.post enc Try.prog Try.f20 false true false false) := by
  refine returnsInHanded_of_change (C := Try.checked) ownKnob_none started (by kernel_rfl) Try.func20
    (ChangeSpec.witness6 (enc := enc) (C := Try.checked) false ⟨#[], #[.agg #[.bool false, .slice none 0 0, .slice none 0 0, .bool false, .slice none 0 0, .slice none 0 0], .agg #[.bool false, .slice none 0 0, .slice none 0 0, .bool false, .slice none 0 0, .slice none 0 0], .agg #[.bool false, .slice none 0 0, .slice none 0 0, .bool false, .slice none 0 0, .slice none 0 0]], []⟩ 8 (by kernel_rfl) (by kernel_rfl) (by kernel_rfl) (by kernel_rfl)) ?_
  intro W base args ds gs before hval0 hW hcnd _
  have hval : ∀ (j : Nat) t v, Try.f20.params[j]? = some t → args[j]? = some v → Value.okWide Try.prog W .any base t v := hval0
  have hW' := hW
  obtain ⟨p, q, hA0, hV, rfl, hfz, hnd⟩ := hW
  have hA : DataW.TrodAll enc Try.prog W 0 (fun _ => true) true Try.f20.params.toList args.toList ds p := hA0
  rw [Try.params20] at hA hval
  obtain ⟨v0, vs0, d0, ds0, p0, q0, hargs, rfl, rfl, h0, r0⟩ := trodAll_cons hA
  obtain ⟨v1, vs1, d1, ds1, p1, q1, rfl, rfl, rfl, h1, r1⟩ := trodAll_cons r0
  obtain ⟨v2, vs2, d2, ds2, p2, q2, rfl, rfl, rfl, h2, r2⟩ := trodAll_cons r1
  obtain ⟨rfl, rfl, rfl⟩ := trodAll_nil r2
  obtain rfl : args = #[v0, v1, v2] := by cases args; simp_all
  obtain ⟨rfl, rfl⟩ := trodVars_none hV
  have k0 := h0
  have lt0 : ∀ x ∈ p0, x.block < W.heap.size := by obtain ⟨m, hm⟩ := k0; exact DataW.trod_lt m _ _ _ hm
  obtain ⟨x0_0, A0_1, n0_1, c0_1, f0_1, A0_2, n0_2, c0_2, f0_2, x0_3, A0_4, n0_4, c0_4, f0_4, A0_5, n0_5, c0_5, f0_5, rfl, g0_1, m0_1, g0_2, m0_2, g0_4, m0_4, g0_5, m0_5⟩ := open_point (hval 0 35 v0 rfl rfl) h0
  have k1 := h1
  have lt1 : ∀ x ∈ p1, x.block < W.heap.size := by obtain ⟨m, hm⟩ := k1; exact DataW.trod_lt m _ _ _ hm
  obtain ⟨x1_0, A1_1, n1_1, c1_1, f1_1, A1_2, n1_2, c1_2, f1_2, x1_3, A1_4, n1_4, c1_4, f1_4, A1_5, n1_5, c1_5, f1_5, rfl, g1_1, m1_1, g1_2, m1_2, g1_4, m1_4, g1_5, m1_5⟩ := open_point (hval 1 35 v1 rfl rfl) h1
  have k2 := h2
  have lt2 : ∀ x ∈ p2, x.block < W.heap.size := by obtain ⟨m, hm⟩ := k2; exact DataW.trod_lt m _ _ _ hm
  obtain ⟨x2_0, A2_1, n2_1, c2_1, f2_1, A2_2, n2_2, c2_2, f2_2, x2_3, A2_4, n2_4, c2_4, f2_4, A2_5, n2_5, c2_5, f2_5, rfl, g2_1, m2_1, g2_2, m2_2, g2_4, m2_4, g2_5, m2_5⟩ := open_point (hval 2 35 v2 rfl rfl) h2
  clear hA0 hval0
  refine (walkSide x0_0 A0_1 n0_1 c0_1 f0_1 A0_2 n0_2 c0_2 f0_2 x0_3 A0_4 n0_4 c0_4 f0_4 A0_5 n0_5 c0_5 f0_5 x1_0 A1_1 n1_1 c1_1 f1_1 A1_2 n1_2 c1_2 f1_2 x1_3 A1_4 n1_4 c1_4 f1_4 A1_5 n1_5 c1_5 f1_5 x2_0 A2_1 n2_1 c2_1 f2_1 A2_2 n2_2 c2_2 f2_2 x2_3 A2_4 n2_4 c2_4 f2_4 A2_5 n2_5 c2_5 f2_5 W g0_1 g0_2 g0_4 g0_5 g1_1 g1_2 g1_4 g1_5 g2_1 g2_2 g2_4 g2_5 m0_1 m0_2 m0_4 m0_5 m1_1 m1_2 m1_4 m1_5 m2_1 m2_2 m2_4 m2_5).mono fun e W' ⟨he, bel⟩ => ?_
  subst he
  exact ⟨_, rfl, _, _, _, [], _, [], hW', trodAll_mk1 (shut_bool Try.underlying4 _), (trodAll_cons_mk (Below.trod laidOut (by kernel_rfl) (of_decide_eq_true (by kernel_rfl)) k0 bel lt0) (trodAll_cons_mk (Below.trod laidOut (by kernel_rfl) (of_decide_eq_true (by kernel_rfl)) k1 bel lt1) (trodAll_cons_mk (Below.trod laidOut (by kernel_rfl) (of_decide_eq_true (by kernel_rfl)) k2 bel lt2) trodAll_mk0))), rfl, bel.frame _, fun h => by cases h⟩

theorem inPlaceSide : (Rows.fnExactSideRow.inPlace == Try.prog.inPlace 20) = true := by kernel_rfl
theorem unfollowedSide : (Rows.fnExactSideRow.unfollowed == Try.prog.unfollowed 20) = true := by kernel_rfl
theorem recursesSide : (Rows.fnExactSideRow.recurses == Try.prog.recurses 20) = true := by kernel_rfl
theorem namedSide : (Rows.fnExactSideRow.named == Try.prog.varsNamed 20) = true := by kernel_rfl
theorem closedSide : joinedFacts Try.prog 20 Try.f20 Rows.fnExactSideSpec Rows.fnExactSideRow = true :=
  joined_of (by kernel_rfl) laidOut mapsRowed_yes (by kernel_rfl) (by kernel_rfl) (by kernel_rfl) stops_none (by kernel_rfl) knobs_none inPlaceSide unfollowedSide recursesSide namedSide
    (by kernel_rfl) (by kernel_rfl) (by kernel_rfl) (by kernel_rfl) (by kernel_rfl) (by kernel_rfl) (by kernel_rfl) (by kernel_rfl) (by kernel_rfl) plainKeys_yes (by kernel_rfl) (by kernel_rfl) stopsHeard_yes mayEnter_yes liftsFinal_no (by kernel_rfl) make_cut (by kernel_rfl)
    (by kernel_rfl) (by kernel_rfl) (by kernel_rfl) (by kernel_rfl) (by kernel_rfl)

/-- The statement. -/
theorem fnExactSide_holds : Rows.FnExactSideSaid :=
  OpenClaim.holds_of_wide 20 Try.f20 rfl rfl rfl rfl rfl rfl rfl ⟨rfl, rfl, rfl, rfl, rfl⟩ rfl rfl rfl rfl rfl (by kernel_rfl) Try.func20 closedSide
    (of_decide_eq_true (by kernel_rfl)) (by unfold Func.isWrapper; first | (rw [if_pos (by decide +kernel)]; kernel_rfl) | (rw [if_neg (by decide +kernel)]; exact ⟨rfl, rfl⟩))
    (fun os started H enc _ => liftedSide os started H enc)
end Go.Proofs.Ytnkeenejcpkelaa
