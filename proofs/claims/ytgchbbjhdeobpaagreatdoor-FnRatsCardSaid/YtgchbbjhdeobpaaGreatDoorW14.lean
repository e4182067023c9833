import Derived.BigQuiet
import Derived.ChangeOld
import Derived.Deep.DeepCutAuto
import Derived.Deep.DrawnRows
import Derived.Deep.OwnRows
import Derived.Deep.QuietTactic
import Derived.Deep.RegionHeld3
import Derived.Deep.RegionWith
import Derived.Deep.Upon
import Derived.IntWalk
import Derived.JoinedOf
import Derived.KernelRfl
import Derived.Laws.FloatArith
import Derived.Lib.Hide
import Derived.Lib.SmallJoins
import Derived.OpenShut
import Derived.ProofKit
import Derived.ShutString
import Derived.Test.YtgchbbjhdeobpaaGreatDoorRows
import Derived.WalkKit
import Derived.WalkLawsBesides
import Derived.WalkSpells
import Ieee.Arith
import Derived.Test.YtgchbbjhdeobpaaGreatDoorW1
import Derived.Test.YtgchbbjhdeobpaaGreatDoorW2
import Derived.Test.YtgchbbjhdeobpaaGreatDoorW3
import Derived.Test.YtgchbbjhdeobpaaGreatDoorW4
import Derived.Test.YtgchbbjhdeobpaaGreatDoorW5
import Derived.Test.YtgchbbjhdeobpaaGreatDoorW9
import Derived.Test.YtgchbbjhdeobpaaGreatDoorW11
import Derived.Test.YtgchbbjhdeobpaaGreatDoorW12
/- What the claim's proof reaches of: BigOps, BigMake, BigInt2, RatNum, Floor, Wk, RatOk, RatMake. -/
namespace Go.Proofs.YtgchbbjhdeobpaaGreatDoor
set_option linter.unusedVariables false
open Go.RowKit Num
attribute [local go_sem ↓] Go.wp_at_zero Go.wp_at_succ
theorem signed_add (b : Bool) (x y : Nat) : signed b x + signed b y = signed b (x + y) := by cases b <;> simp [signed] <;> omega
theorem signed_sub {b1 b2 : Bool} (hb : (b1 == b2) = false) {x y : Nat} (h : y ≤ x) : signed b1 x + signed b2 y = signed b1 (x - y) := by cases b1 <;> cases b2 <;> simp [signed] at * <;> omega
theorem signed_sub' {b1 b2 : Bool} (hb : (b1 == b2) = false) {x y : Nat} (h : ¬ y ≤ x) : signed b1 x + signed b2 y = signed b2 (y - x) := by cases b1 <;> cases b2 <;> simp [signed] at * <;> omega
theorem signed_mul (b1 b2 : Bool) (x y : Nat) : signed b1 x * signed b2 y = signed (b1 != b2) (x * y) := by
  have h : ((x * y : Nat) : Int) = (x : Int) * (y : Int) := Int.natCast_mul _ _
  cases b1 <;> cases b2 <;> simp [signed, h, Int.neg_mul, Int.mul_neg]
theorem len_dec (x : Nat) : decide (0 < len x) = decide (0 < x) := decide_eq_decide.2 len_pos_iff'
set_option maxRecDepth 100000 in
set_option maxHeartbeats 1000000 in
theorem bigAdd_same (b1 b2 : Bool) (A1 A2 : Option Addr) (c1 c2 x y lo1 lo2 : Nat) (w : World) (h1 : NatS w lo1 A1 c1 x) (h2 : NatS w lo2 A2 c2 y) (hb : (b1 == b2) = true) (hx : len x ≤ 200) (hy : len y ≤ 200) :
    Calls Tryz.prog 72 #[.agg #[.bool b1, .slice A1 (len x) c1], .agg #[.bool b2, .slice A2 (len y) c2]] w fun e w' => RetB e w' w.heap.size (signed b1 (x + y)) ∧ Old w w' := by
  have hal := add_len_le x y
  have Hal : len (x + y) ≤ 1000 := by omega
  clear hal
  have O : Old w (((w.alloc (.cells #[.bool b1, .slice A1 (len x) c1] 24)).alloc (.cells #[.bool b2, .slice A2 (len y) c2] 24)).alloc (.cells #[.bool false, .slice none 0 0] 24)) := oldA
  have B_x : Bx (((w.alloc (.cells #[.bool b1, .slice A1 (len x) c1] 24)).alloc (.cells #[.bool b2, .slice A2 (len y) c2] 24)).alloc (.cells #[.bool false, .slice none 0 0] 24)) (w.heap.size) #[.bool b1, .slice A1 (len x) c1] := by have h := (Bx.alloc (Bx.alloc (Bx.new w #[.bool b1, .slice A1 (len x) c1] 24) (.cells #[.bool b2, .slice A2 (len y) c2] 24)) (.cells #[.bool false, .slice none 0 0] 24)); simpa using h
  have B_y : Bx (((w.alloc (.cells #[.bool b1, .slice A1 (len x) c1] 24)).alloc (.cells #[.bool b2, .slice A2 (len y) c2] 24)).alloc (.cells #[.bool false, .slice none 0 0] 24)) (w.heap.size + 1) #[.bool b2, .slice A2 (len y) c2] := by have h := (Bx.alloc (Bx.new (w.alloc (.cells #[.bool b1, .slice A1 (len x) c1] 24)) #[.bool b2, .slice A2 (len y) c2] 24) (.cells #[.bool false, .slice none 0 0] 24)); simpa using h
  have B_r : Bx (((w.alloc (.cells #[.bool b1, .slice A1 (len x) c1] 24)).alloc (.cells #[.bool b2, .slice A2 (len y) c2] 24)).alloc (.cells #[.bool false, .slice none 0 0] 24)) (w.heap.size + 1 + 1) #[.bool false, .slice none 0 0] := by have h := (Bx.new ((w.alloc (.cells #[.bool b1, .slice A1 (len x) c1] 24)).alloc (.cells #[.bool b2, .slice A2 (len y) c2] 24)) #[.bool false, .slice none 0 0] 24); simpa using h
  have ne_0_1 : ¬ (w.heap.size = w.heap.size + 1) := by omega
  have ne_0_2 : ¬ (w.heap.size = w.heap.size + 1 + 1) := by omega
  have ne_1_0 : ¬ (w.heap.size + 1 = w.heap.size) := by omega
  have ne_1_2 : ¬ (w.heap.size + 1 = w.heap.size + 1 + 1) := by omega
  have ne_2_0 : ¬ (w.heap.size + 1 + 1 = w.heap.size) := by omega
  have ne_2_1 : ¬ (w.heap.size + 1 + 1 = w.heap.size + 1) := by omega
  replace h1 := Row.below h1 O (Nat.le_refl _)
  replace h2 := Row.below h2 O (Nat.le_refl _)
  go_enter Tryz.func72, Tryz.ntmps72
  go_wp2_with fail
  go_region_held3 (fun w' => w'.cell? ⟨w.heap.size, 0, none⟩ = some (.bool b1) ∧ w'.cell? ⟨w.heap.size, 1, none⟩ = some (.slice A1 (len x) c1) ∧ w'.cell? ⟨w.heap.size + 1, 0, none⟩ = some (.bool b2) ∧ w'.cell? ⟨w.heap.size + 1, 1, none⟩ = some (.slice A2 (len y) c2)) (go_keep)
    (first
     | (go_at_call 99; refine (natAdd_any A1 A2 c1 c2 x y lo1 lo2 _ (Row.below (B := (((w.alloc (.cells #[.bool b1, .slice A1 (len x) c1] 24)).alloc (.cells #[.bool b2, .slice A2 (len y) c2] 24)).alloc (.cells #[.bool false, .slice none 0 0] 24)).heap.size) h1 oldA (Nat.le_refl _)) (Row.below (B := (((w.alloc (.cells #[.bool b1, .slice A1 (len x) c1] 24)).alloc (.cells #[.bool b2, .slice A2 (len y) c2] 24)).alloc (.cells #[.bool false, .slice none 0 0] 24)).heap.size) h2 oldA (Nat.le_refl _)) (by omega) (by omega)).mono ?_; rintro e w1 ⟨A, c, rfl, r1, o1⟩; replace o1 : Old (((w.alloc (.cells #[.bool b1, .slice A1 (len x) c1] 24)).alloc (.cells #[.bool b2, .slice A2 (len y) c2] 24)).alloc (.cells #[.bool false, .slice none 0 0] 24)) w1 := Below.trans (b := _) oldA (Below.mono o1 leA); replace B_x := Bx.old B_x o1; replace B_y := Bx.old B_y o1; replace B_r := Bx.old B_r o1; replace h1 := Row.below h1 o1 (Nat.le_refl _); replace h2 := Row.below h2 o1 (Nat.le_refl _); replace O := Old.trans O o1; have z1 : w.heap.size + 3 ≤ w1.heap.size := (by have h := o1.size; simp at h; omega); replace r1 := Row.more (lo' := w.heap.size + 1 + 1 + 1) r1 leA; have q_x_0 := B_x.cell 0 rfl; have q_x_1 := B_x.cell 1 rfl; have f_x_0 := B_x.frozen 0; have f_x_1 := B_x.frozen 1; have q_x := B_x.lt; have q_y_0 := B_y.cell 0 rfl; have q_y_1 := B_y.cell 1 rfl; have f_y_0 := B_y.frozen 0; have f_y_1 := B_y.frozen 1; have q_y := B_y.lt; have q_r_0 := B_r.cell 0 rfl; have q_r_1 := B_r.cell 1 rfl; have f_r_0 := B_r.frozen 0; have f_r_1 := B_r.frozen 1; have q_r := B_r.lt)
     | (go_at_call 78; refine (bigMake_any b1 A (len (x + y)) c _).mono ?_; rintro e w2 ⟨rfl, o2⟩; clear q_x_0 q_x_1 f_x_0 f_x_1 q_x q_y_0 q_y_1 f_y_0 f_y_1 q_y q_r_0 q_r_1 f_r_0 f_r_1 q_r; replace o2 : Old w1 w2 := Below.trans (b := _) oldA (Below.mono o2 leA); replace B_x := Bx.old B_x o2; replace B_y := Bx.old B_y o2; replace B_r := Bx.old B_r o2; replace h1 := Row.below h1 o2 (Nat.le_refl _); replace h2 := Row.below h2 o2 (Nat.le_refl _); replace r1 := Row.below r1 o2 (Nat.le_refl _); replace O := Old.trans O o2; have z2 := o2.size; have q_x_0 := B_x.cell 0 rfl; have q_x_1 := B_x.cell 1 rfl; have f_x_0 := B_x.frozen 0; have f_x_1 := B_x.frozen 1; have q_x := B_x.lt; have q_y_0 := B_y.cell 0 rfl; have q_y_1 := B_y.cell 1 rfl; have f_y_0 := B_y.frozen 0; have f_y_1 := B_y.frozen 1; have q_y := B_y.lt; have q_r_0 := B_r.cell 0 rfl; have q_r_1 := B_r.cell 1 rfl; have f_r_0 := B_r.frozen 0; have f_r_1 := B_r.frozen 1; have q_r := B_r.lt))
  go_wp2
  refine bodyPost_ret (v := .agg #[.bool (b1 && decide (0 < len (x + y))), .slice A (len (x + y)) c]) (by simp [results, Tryz.results72, go_sem, q_r_0, q_r_1]) rfl ⟨RetB.mk' (b := b1) (x := x + y) (A := A) (c := c) (by rw [len_dec]) ?_ rfl, ?_⟩
  · refine Row.more (lo := w.heap.size + 1 + 1 + 1) ?_ leA
    repeat' (first | exact r1 | refine Row.far_set ?_ (by first | (simp <;> done) | (simp; omega) | omega) _)
  · exact oldA
set_option maxRecDepth 100000 in
set_option maxHeartbeats 1000000 in
theorem bigAdd_ge (b1 b2 : Bool) (A1 A2 : Option Addr) (c1 c2 x y lo1 lo2 : Nat) (w : World) (h1 : NatS w lo1 A1 c1 x) (h2 : NatS w lo2 A2 c2 y) (hb : (b1 == b2) = false) (hc : y ≤ x) (hx : len x ≤ 200) (hy : len y ≤ 200) :
    Calls Tryz.prog 72 #[.agg #[.bool b1, .slice A1 (len x) c1], .agg #[.bool b2, .slice A2 (len y) c2]] w fun e w' => RetB e w' w.heap.size (signed b1 (x - y)) ∧ Old w w' := by
  have hal := sub_len (x := x) (y := y)
  have Hal : len (x - y) ≤ 1000 := by omega
  clear hal
  have hd : (0 : Int) ≤ cmpN x y := cmpN_nonneg.2 hc
  have O : Old w (((w.alloc (.cells #[.bool b1, .slice A1 (len x) c1] 24)).alloc (.cells #[.bool b2, .slice A2 (len y) c2] 24)).alloc (.cells #[.bool false, .slice none 0 0] 24)) := oldA
  have B_x : Bx (((w.alloc (.cells #[.bool b1, .slice A1 (len x) c1] 24)).alloc (.cells #[.bool b2, .slice A2 (len y) c2] 24)).alloc (.cells #[.bool false, .slice none 0 0] 24)) (w.heap.size) #[.bool b1, .slice A1 (len x) c1] := by have h := (Bx.alloc (Bx.alloc (Bx.new w #[.bool b1, .slice A1 (len x) c1] 24) (.cells #[.bool b2, .slice A2 (len y) c2] 24)) (.cells #[.bool false, .slice none 0 0] 24)); simpa using h
  have B_y : Bx (((w.alloc (.cells #[.bool b1, .slice A1 (len x) c1] 24)).alloc (.cells #[.bool b2, .slice A2 (len y) c2] 24)).alloc (.cells #[.bool false, .slice none 0 0] 24)) (w.heap.size + 1) #[.bool b2, .slice A2 (len y) c2] := by have h := (Bx.alloc (Bx.new (w.alloc (.cells #[.bool b1, .slice A1 (len x) c1] 24)) #[.bool b2, .slice A2 (len y) c2] 24) (.cells #[.bool false, .slice none 0 0] 24)); simpa using h
  have B_r : Bx (((w.alloc (.cells #[.bool b1, .slice A1 (len x) c1] 24)).alloc (.cells #[.bool b2, .slice A2 (len y) c2] 24)).alloc (.cells #[.bool false, .slice none 0 0] 24)) (w.heap.size + 1 + 1) #[.bool false, .slice none 0 0] := by have h := (Bx.new ((w.alloc (.cells #[.bool b1, .slice A1 (len x) c1] 24)).alloc (.cells #[.bool b2, .slice A2 (len y) c2] 24)) #[.bool false, .slice none 0 0] 24); simpa using h
  have ne_0_1 : ¬ (w.heap.size = w.heap.size + 1) := by omega
  have ne_0_2 : ¬ (w.heap.size = w.heap.size + 1 + 1) := by omega
  have ne_1_0 : ¬ (w.heap.size + 1 = w.heap.size) := by omega
  have ne_1_2 : ¬ (w.heap.size + 1 = w.heap.size + 1 + 1) := by omega
  have ne_2_0 : ¬ (w.heap.size + 1 + 1 = w.heap.size) := by omega
  have ne_2_1 : ¬ (w.heap.size + 1 + 1 = w.heap.size + 1) := by omega
  replace h1 := Row.below h1 O (Nat.le_refl _)
  replace h2 := Row.below h2 O (Nat.le_refl _)
  go_enter Tryz.func72, Tryz.ntmps72
  go_wp2_with fail
  refine (natCmp_any A1 A2 c1 c2 x y lo1 lo2 _ (Row.below (B := (((w.alloc (.cells #[.bool b1, .slice A1 (len x) c1] 24)).alloc (.cells #[.bool b2, .slice A2 (len y) c2] 24)).alloc (.cells #[.bool false, .slice none 0 0] 24)).heap.size) h1 oldA (Nat.le_refl _)) (Row.below (B := (((w.alloc (.cells #[.bool b1, .slice A1 (len x) c1] 24)).alloc (.cells #[.bool b2, .slice A2 (len y) c2] 24)).alloc (.cells #[.bool false, .slice none 0 0] 24)).heap.size) h2 oldA (Nat.le_refl _)) (by omega) (by omega)).mono ?_
  rintro e w1 ⟨rfl, o1⟩
  replace o1 : Old (((w.alloc (.cells #[.bool b1, .slice A1 (len x) c1] 24)).alloc (.cells #[.bool b2, .slice A2 (len y) c2] 24)).alloc (.cells #[.bool false, .slice none 0 0] 24)) w1 := Below.trans (b := _) oldA (Below.mono o1 leA)
  replace B_x := Bx.old B_x o1
  replace B_y := Bx.old B_y o1
  replace B_r := Bx.old B_r o1
  replace h1 := Row.below h1 o1 (Nat.le_refl _)
  replace h2 := Row.below h2 o1 (Nat.le_refl _)
  replace O := Old.trans O o1
  have z1 : w.heap.size + 3 ≤ w1.heap.size := (by have h := o1.size; simp at h; omega)
  have q_x_0 := B_x.cell 0 rfl
  have q_x_1 := B_x.cell 1 rfl
  have f_x_0 := B_x.frozen 0
  have f_x_1 := B_x.frozen 1
  have q_x := B_x.lt
  have q_y_0 := B_y.cell 0 rfl
  have q_y_1 := B_y.cell 1 rfl
  have f_y_0 := B_y.frozen 0
  have f_y_1 := B_y.frozen 1
  have q_y := B_y.lt
  have q_r_0 := B_r.cell 0 rfl
  have q_r_1 := B_r.cell 1 rfl
  have f_r_0 := B_r.frozen 0
  have f_r_1 := B_r.frozen 1
  have q_r := B_r.lt
  go_wp2_with fail
  go_region_held3 (fun w' => w'.cell? ⟨w.heap.size, 0, none⟩ = some (.bool b1) ∧ w'.cell? ⟨w.heap.size, 1, none⟩ = some (.slice A1 (len x) c1) ∧ w'.cell? ⟨w.heap.size + 1, 0, none⟩ = some (.bool b2) ∧ w'.cell? ⟨w.heap.size + 1, 1, none⟩ = some (.slice A2 (len y) c2)) (go_keep)
    (first
     | (go_at_call 101; refine (natSub_any A1 A2 c1 c2 x y lo1 lo2 _ (Row.below (B := w1.heap.size) h1 oldA (Nat.le_refl _)) (Row.below (B := w1.heap.size) h2 oldA (Nat.le_refl _)) (by omega) (by omega) hc).mono ?_; rintro e w2 ⟨A, c, rfl, r1, o2⟩; clear q_x_0 q_x_1 f_x_0 f_x_1 q_x q_y_0 q_y_1 f_y_0 f_y_1 q_y q_r_0 q_r_1 f_r_0 f_r_1 q_r; replace o2 : Old w1 w2 := Below.trans (b := _) oldA (Below.mono o2 leA); replace B_x := Bx.old B_x o2; replace B_y := Bx.old B_y o2; replace B_r := Bx.old B_r o2; replace h1 := Row.below h1 o2 (Nat.le_refl _); replace h2 := Row.below h2 o2 (Nat.le_refl _); replace O := Old.trans O o2; have z2 := o2.size; replace r1 := Row.more (lo' := w1.heap.size) r1 leA; have q_x_0 := B_x.cell 0 rfl; have q_x_1 := B_x.cell 1 rfl; have f_x_0 := B_x.frozen 0; have f_x_1 := B_x.frozen 1; have q_x := B_x.lt; have q_y_0 := B_y.cell 0 rfl; have q_y_1 := B_y.cell 1 rfl; have f_y_0 := B_y.frozen 0; have f_y_1 := B_y.frozen 1; have q_y := B_y.lt; have q_r_0 := B_r.cell 0 rfl; have q_r_1 := B_r.cell 1 rfl; have f_r_0 := B_r.frozen 0; have f_r_1 := B_r.frozen 1; have q_r := B_r.lt)
     | (go_at_call 78; refine (bigMake_any b1 A (len (x - y)) c _).mono ?_; rintro e w3 ⟨rfl, o3⟩; clear q_x_0 q_x_1 f_x_0 f_x_1 q_x q_y_0 q_y_1 f_y_0 f_y_1 q_y q_r_0 q_r_1 f_r_0 f_r_1 q_r; replace o3 : Old w2 w3 := Below.trans (b := _) oldA (Below.mono o3 leA); replace B_x := Bx.old B_x o3; replace B_y := Bx.old B_y o3; replace B_r := Bx.old B_r o3; replace h1 := Row.below h1 o3 (Nat.le_refl _); replace h2 := Row.below h2 o3 (Nat.le_refl _); replace r1 := Row.below r1 o3 (Nat.le_refl _); replace O := Old.trans O o3; have z3 := o3.size; have q_x_0 := B_x.cell 0 rfl; have q_x_1 := B_x.cell 1 rfl; have f_x_0 := B_x.frozen 0; have f_x_1 := B_x.frozen 1; have q_x := B_x.lt; have q_y_0 := B_y.cell 0 rfl; have q_y_1 := B_y.cell 1 rfl; have f_y_0 := B_y.frozen 0; have f_y_1 := B_y.frozen 1; have q_y := B_y.lt; have q_r_0 := B_r.cell 0 rfl; have q_r_1 := B_r.cell 1 rfl; have f_r_0 := B_r.frozen 0; have f_r_1 := B_r.frozen 1; have q_r := B_r.lt))
  go_wp2
  refine bodyPost_ret (v := .agg #[.bool (b1 && decide (0 < len (x - y))), .slice A (len (x - y)) c]) (by simp [results, Tryz.results72, go_sem, q_r_0, q_r_1]) rfl ⟨RetB.mk' (b := b1) (x := x - y) (A := A) (c := c) (by rw [len_dec]) ?_ rfl, ?_⟩
  · refine Row.more (lo := w1.heap.size) ?_ leA
    repeat' (first | exact r1 | refine Row.far_set ?_ (by first | (simp <;> done) | (simp; omega) | omega) _)
  · exact oldA
set_option maxRecDepth 100000 in
set_option maxHeartbeats 1000000 in
theorem bigAdd_lt (b1 b2 : Bool) (A1 A2 : Option Addr) (c1 c2 x y lo1 lo2 : Nat) (w : World) (h1 : NatS w lo1 A1 c1 x) (h2 : NatS w lo2 A2 c2 y) (hb : (b1 == b2) = false) (hc : ¬ y ≤ x) (hx : len x ≤ 200) (hy : len y ≤ 200) :
    Calls Tryz.prog 72 #[.agg #[.bool b1, .slice A1 (len x) c1], .agg #[.bool b2, .slice A2 (len y) c2]] w fun e w' => RetB e w' w.heap.size (signed b2 (y - x)) ∧ Old w w' := by
  have hal := sub_len (x := y) (y := x)
  have Hal : len (y - x) ≤ 1000 := by omega
  clear hal
  have hd : ¬ (0 : Int) ≤ cmpN x y := fun h => hc (cmpN_nonneg.1 h)
  have hd' : cmpN x y < 0 := by omega
  have hc2 : x ≤ y := by omega
  have O : Old w (((w.alloc (.cells #[.bool b1, .slice A1 (len x) c1] 24)).alloc (.cells #[.bool b2, .slice A2 (len y) c2] 24)).alloc (.cells #[.bool false, .slice none 0 0] 24)) := oldA
  have B_x : Bx (((w.alloc (.cells #[.bool b1, .slice A1 (len x) c1] 24)).alloc (.cells #[.bool b2, .slice A2 (len y) c2] 24)).alloc (.cells #[.bool false, .slice none 0 0] 24)) (w.heap.size) #[.bool b1, .slice A1 (len x) c1] := by have h := (Bx.alloc (Bx.alloc (Bx.new w #[.bool b1, .slice A1 (len x) c1] 24) (.cells #[.bool b2, .slice A2 (len y) c2] 24)) (.cells #[.bool false, .slice none 0 0] 24)); simpa using h
  have B_y : Bx (((w.alloc (.cells #[.bool b1, .slice A1 (len x) c1] 24)).alloc (.cells #[.bool b2, .slice A2 (len y) c2] 24)).alloc (.cells #[.bool false, .slice none 0 0] 24)) (w.heap.size + 1) #[.bool b2, .slice A2 (len y) c2] := by have h := (Bx.alloc (Bx.new (w.alloc (.cells #[.bool b1, .slice A1 (len x) c1] 24)) #[.bool b2, .slice A2 (len y) c2] 24) (.cells #[.bool false, .slice none 0 0] 24)); simpa using h
  have B_r : Bx (((w.alloc (.cells #[.bool b1, .slice A1 (len x) c1] 24)).alloc (.cells #[.bool b2, .slice A2 (len y) c2] 24)).alloc (.cells #[.bool false, .slice none 0 0] 24)) (w.heap.size + 1 + 1) #[.bool false, .slice none 0 0] := by have h := (Bx.new ((w.alloc (.cells #[.bool b1, .slice A1 (len x) c1] 24)).alloc (.cells #[.bool b2, .slice A2 (len y) c2] 24)) #[.bool false, .slice none 0 0] 24); simpa using h
  have ne_0_1 : ¬ (w.heap.size = w.heap.size + 1) := by omega
  have ne_0_2 : ¬ (w.heap.size = w.heap.size + 1 + 1) := by omega
  have ne_1_0 : ¬ (w.heap.size + 1 = w.heap.size) := by omega
  have ne_1_2 : ¬ (w.heap.size + 1 = w.heap.size + 1 + 1) := by omega
  have ne_2_0 : ¬ (w.heap.size + 1 + 1 = w.heap.size) := by omega
  have ne_2_1 : ¬ (w.heap.size + 1 + 1 = w.heap.size + 1) := by omega
  replace h1 := Row.below h1 O (Nat.le_refl _)
  replace h2 := Row.below h2 O (Nat.le_refl _)
  go_enter Tryz.func72, Tryz.ntmps72
  go_wp2_with fail
  refine (natCmp_any A1 A2 c1 c2 x y lo1 lo2 _ (Row.below (B := (((w.alloc (.cells #[.bool b1, .slice A1 (len x) c1] 24)).alloc (.cells #[.bool b2, .slice A2 (len y) c2] 24)).alloc (.cells #[.bool false, .slice none 0 0] 24)).heap.size) h1 oldA (Nat.le_refl _)) (Row.below (B := (((w.alloc (.cells #[.bool b1, .slice A1 (len x) c1] 24)).alloc (.cells #[.bool b2, .slice A2 (len y) c2] 24)).alloc (.cells #[.bool false, .slice none 0 0] 24)).heap.size) h2 oldA (Nat.le_refl _)) (by omega) (by omega)).mono ?_
  rintro e w1 ⟨rfl, o1⟩
  replace o1 : Old (((w.alloc (.cells #[.bool b1, .slice A1 (len x) c1] 24)).alloc (.cells #[.bool b2, .slice A2 (len y) c2] 24)).alloc (.cells #[.bool false, .slice none 0 0] 24)) w1 := Below.trans (b := _) oldA (Below.mono o1 leA)
  replace B_x := Bx.old B_x o1
  replace B_y := Bx.old B_y o1
  replace B_r := Bx.old B_r o1
  replace h1 := Row.below h1 o1 (Nat.le_refl _)
  replace h2 := Row.below h2 o1 (Nat.le_refl _)
  replace O := Old.trans O o1
  have z1 : w.heap.size + 3 ≤ w1.heap.size := (by have h := o1.size; simp at h; omega)
  have q_x_0 := B_x.cell 0 rfl
  have q_x_1 := B_x.cell 1 rfl
  have f_x_0 := B_x.frozen 0
  have f_x_1 := B_x.frozen 1
  have q_x := B_x.lt
  have q_y_0 := B_y.cell 0 rfl
  have q_y_1 := B_y.cell 1 rfl
  have f_y_0 := B_y.frozen 0
  have f_y_1 := B_y.frozen 1
  have q_y := B_y.lt
  have q_r_0 := B_r.cell 0 rfl
  have q_r_1 := B_r.cell 1 rfl
  have f_r_0 := B_r.frozen 0
  have f_r_1 := B_r.frozen 1
  have q_r := B_r.lt
  go_wp2_with fail
  go_region_held3 (fun w' => w'.cell? ⟨w.heap.size, 0, none⟩ = some (.bool b1) ∧ w'.cell? ⟨w.heap.size, 1, none⟩ = some (.slice A1 (len x) c1) ∧ w'.cell? ⟨w.heap.size + 1, 0, none⟩ = some (.bool b2) ∧ w'.cell? ⟨w.heap.size + 1, 1, none⟩ = some (.slice A2 (len y) c2)) (go_keep)
    (first
     | (go_at_call 101; refine (natSub_any A2 A1 c2 c1 y x lo2 lo1 _ (Row.below (B := w1.heap.size) h2 oldA (Nat.le_refl _)) (Row.below (B := w1.heap.size) h1 oldA (Nat.le_refl _)) (by omega) (by omega) hc2).mono ?_; rintro e w2 ⟨A, c, rfl, r1, o2⟩; clear q_x_0 q_x_1 f_x_0 f_x_1 q_x q_y_0 q_y_1 f_y_0 f_y_1 q_y q_r_0 q_r_1 f_r_0 f_r_1 q_r; replace o2 : Old w1 w2 := Below.trans (b := _) oldA (Below.mono o2 leA); replace B_x := Bx.old B_x o2; replace B_y := Bx.old B_y o2; replace B_r := Bx.old B_r o2; replace h1 := Row.below h1 o2 (Nat.le_refl _); replace h2 := Row.below h2 o2 (Nat.le_refl _); replace O := Old.trans O o2; have z2 := o2.size; replace r1 := Row.more (lo' := w1.heap.size) r1 leA; have q_x_0 := B_x.cell 0 rfl; have q_x_1 := B_x.cell 1 rfl; have f_x_0 := B_x.frozen 0; have f_x_1 := B_x.frozen 1; have q_x := B_x.lt; have q_y_0 := B_y.cell 0 rfl; have q_y_1 := B_y.cell 1 rfl; have f_y_0 := B_y.frozen 0; have f_y_1 := B_y.frozen 1; have q_y := B_y.lt; have q_r_0 := B_r.cell 0 rfl; have q_r_1 := B_r.cell 1 rfl; have f_r_0 := B_r.frozen 0; have f_r_1 := B_r.frozen 1; have q_r := B_r.lt)
     | (go_at_call 78; refine (bigMake_any b2 A (len (y - x)) c _).mono ?_; rintro e w3 ⟨rfl, o3⟩; clear q_x_0 q_x_1 f_x_0 f_x_1 q_x q_y_0 q_y_1 f_y_0 f_y_1 q_y q_r_0 q_r_1 f_r_0 f_r_1 q_r; replace o3 : Old w2 w3 := Below.trans (b := _) oldA (Below.mono o3 leA); replace B_x := Bx.old B_x o3; replace B_y := Bx.old B_y o3; replace B_r := Bx.old B_r o3; replace h1 := Row.below h1 o3 (Nat.le_refl _); replace h2 := Row.below h2 o3 (Nat.le_refl _); replace r1 := Row.below r1 o3 (Nat.le_refl _); replace O := Old.trans O o3; have z3 := o3.size; have q_x_0 := B_x.cell 0 rfl; have q_x_1 := B_x.cell 1 rfl; have f_x_0 := B_x.frozen 0; have f_x_1 := B_x.frozen 1; have q_x := B_x.lt; have q_y_0 := B_y.cell 0 rfl; have q_y_1 := B_y.cell 1 rfl; have f_y_0 := B_y.frozen 0; have f_y_1 := B_y.frozen 1; have q_y := B_y.lt; have q_r_0 := B_r.cell 0 rfl; have q_r_1 := B_r.cell 1 rfl; have f_r_0 := B_r.frozen 0; have f_r_1 := B_r.frozen 1; have q_r := B_r.lt))
  go_wp2
  refine bodyPost_ret (v := .agg #[.bool (b2 && decide (0 < len (y - x))), .slice A (len (y - x)) c]) (by simp [results, Tryz.results72, go_sem, q_r_0, q_r_1]) rfl ⟨RetB.mk' (b := b2) (x := y - x) (A := A) (c := c) (by rw [len_dec]) ?_ rfl, ?_⟩
  · refine Row.more (lo := w1.heap.size) ?_ leA
    repeat' (first | exact r1 | refine Row.far_set ?_ (by first | (simp <;> done) | (simp; omega) | omega) _)
  · exact oldA
theorem bigAdd_any (b1 b2 : Bool) (A1 A2 : Option Addr) (c1 c2 x y lo1 lo2 : Nat) (w : World) (h1 : NatS w lo1 A1 c1 x) (h2 : NatS w lo2 A2 c2 y) (hx : len x ≤ 200) (hy : len y ≤ 200) :
    Calls Tryz.prog 72 #[.agg #[.bool b1, .slice A1 (len x) c1], .agg #[.bool b2, .slice A2 (len y) c2]] w fun e w' => RetB e w' w.heap.size (signed b1 x + signed b2 y) ∧ Old w w' := by
  by_cases hb : (b1 == b2) = true
  · have e : b1 = b2 := by simpa using hb
    have hz : signed b1 x + signed b2 y = signed b1 (x + y) := by subst e; rw [signed_add]
    rw [hz]
    exact bigAdd_same b1 b2 A1 A2 c1 c2 x y lo1 lo2 w h1 h2 hb hx hy
  · have hb' : (b1 == b2) = false := by simpa using hb
    by_cases hc : y ≤ x
    · have hz : signed b1 x + signed b2 y = signed b1 (x - y) := by rw [signed_sub hb' hc]
      rw [hz]
      exact bigAdd_ge b1 b2 A1 A2 c1 c2 x y lo1 lo2 w h1 h2 hb' hc hx hy
    · have hz : signed b1 x + signed b2 y = signed b2 (y - x) := by rw [signed_sub' hb' hc]
      rw [hz]
      exact bigAdd_lt b1 b2 A1 A2 c1 c2 x y lo1 lo2 w h1 h2 hb' hc hx hy
end Go.Proofs.YtgchbbjhdeobpaaGreatDoor

namespace Go.Proofs.YtgchbbjhdeobpaaGreatDoor
set_option linter.unusedVariables false
open Go.RowKit Num
attribute [local go_sem ↓] Go.wp_at_zero Go.wp_at_succ
theorem okB_nat {w : World} {lo n c : Nat} {A : Option Addr} {f : Nat → Int} {b : Bool} (k : okB b n f) (h : Row w lo A n c f) : ∃ x, n = len x ∧ len x ≤ 60 ∧ (b = true → 0 < x) ∧ bigX b n f = signed b x ∧ NatS w lo A c x := by
  obtain ⟨x, e1, hx, v1, s1⟩ := row_nat h k.1
  exact ⟨x, e1, hx, fun hb => by have := k.2 hb; rw [e1] at this; exact len_pos_iff'.1 this, by rw [bigX, v1], s1⟩
theorem okB_of {x : Nat} {b : Bool} (hx : len x ≤ 60) (hb : b = true → 0 < x) : okB b (len x) (digI x) := ⟨okP_of hx, fun h => len_pos_iff'.2 (hb h)⟩
theorem signed_mag (z : Int) : signed (sgnZ z) (magZ z) = z := by unfold signed sgnZ magZ; by_cases h : z < 0 <;> simp [h] <;> omega
theorem mag_neg (z : Int) : magZ (-z) = magZ z := Int.natAbs_neg z
theorem mag_add_le (a b : Int) : magZ (a + b) ≤ magZ a + magZ b := Int.natAbs_add_le a b
theorem mag_mul (a b : Int) : magZ (a * b) = magZ a * magZ b := Int.natAbs_mul a b
theorem bigX_nat {b : Bool} {x : Nat} (hx : len x ≤ 60) : bigX b (len x) (digI x) = signed b x := by
  have h := natX_spec (okP_of hx)
  have hl : natX (len x) (digI x) = x := by
    obtain ⟨h1, _, h3⟩ := h
    have hd : digs (natX (len x) (digI x)) = digs x := by
      apply List.ext_getElem?
      intro i
      by_cases hi : i < len x
      · rw [digs_get _ _ (by omega), digs_get _ _ hi]
        have := h3 i hi
        simp only [digI] at this
        have e : dig (natX (len x) (digI x)) i = dig x i := by omega
        rw [e]
      · rw [List.getElem?_eq_none (by rw [digs_length]; omega), List.getElem?_eq_none (by rw [digs_length]; omega)]
    exact digs_inj hd
  rw [bigX, hl]
theorem retB_to {P : Program} {f : FuncId} {args : Array Value} {w : World} {z z' : Int} (hz : z = z') (h : Calls P f args w fun e w' => RetB e w' w.heap.size z ∧ Old w w') : Calls P f args w fun e w' => RetB e w' w.heap.size z' ∧ Old w w' := by rw [← hz]; exact h
/-- The order of two numbers. -/
def cmpZ (a b : Int) : Int := if a < b then -1 else if a = b then 0 else 1
theorem cmpZ_tt (x y : Nat) : cmpZ (signed true x) (signed true y) = cmpN y x := by
  simp only [cmpZ, cmpN, signed, if_true]
  by_cases h : y < x
  · rw [if_pos (by omega), if_pos h]
  · rw [if_neg (by omega), if_neg h]
    by_cases h2 : y = x
    · rw [if_pos (by omega), if_pos h2]
    · rw [if_neg (by omega), if_neg h2]
theorem cmpZ_ff (x y : Nat) : cmpZ (signed false x) (signed false y) = cmpN x y := by
  simp only [cmpZ, cmpN, signed, Bool.false_eq_true, if_false]
  by_cases h : x < y
  · rw [if_pos (by omega), if_pos h]
  · rw [if_neg (by omega), if_neg h]
    by_cases h2 : x = y
    · rw [if_pos (by omega), if_pos h2]
    · rw [if_neg (by omega), if_neg h2]
theorem cmpZ_tf {x y : Nat} (h : 0 < x) : cmpZ (signed true x) (signed false y) = -1 := by simp [cmpZ, signed]; omega
theorem cmpZ_ft {x y : Nat} (h : 0 < y) : cmpZ (signed false x) (signed true y) = 1 := by simp [cmpZ, signed]; omega

set_option maxRecDepth 100000 in
set_option maxHeartbeats 1000000 in
theorem bigMul_any (b1 b2 : Bool) (A1 A2 : Option Addr) (c1 c2 x y lo1 lo2 : Nat) (w : World) (h1 : NatS w lo1 A1 c1 x) (h2 : NatS w lo2 A2 c2 y) (hx : len x ≤ 200) (hy : len y ≤ 200) :
    Calls Tryz.prog 73 #[.agg #[.bool b1, .slice A1 (len x) c1], .agg #[.bool b2, .slice A2 (len y) c2]] w fun e w' => RetB e w' w.heap.size (signed b1 x * signed b2 y) ∧ Old w w' := by
  rw [signed_mul]
  obtain ⟨t, ht⟩ : ∃ t, t = (b1 != b2) := ⟨_, rfl⟩
  rw [← ht]
  have O : Old w (((w.alloc (.cells #[.bool b1, .slice A1 (len x) c1] 24)).alloc (.cells #[.bool b2, .slice A2 (len y) c2] 24)).alloc (.cells #[.bool false, .slice none 0 0] 24)) := oldA
  have B_x : Bx (((w.alloc (.cells #[.bool b1, .slice A1 (len x) c1] 24)).alloc (.cells #[.bool b2, .slice A2 (len y) c2] 24)).alloc (.cells #[.bool false, .slice none 0 0] 24)) (w.heap.size) #[.bool b1, .slice A1 (len x) c1] := by have h := (Bx.alloc (Bx.alloc (Bx.new w #[.bool b1, .slice A1 (len x) c1] 24) (.cells #[.bool b2, .slice A2 (len y) c2] 24)) (.cells #[.bool false, .slice none 0 0] 24)); simpa using h
  have B_y : Bx (((w.alloc (.cells #[.bool b1, .slice A1 (len x) c1] 24)).alloc (.cells #[.bool b2, .slice A2 (len y) c2] 24)).alloc (.cells #[.bool false, .slice none 0 0] 24)) (w.heap.size + 1) #[.bool b2, .slice A2 (len y) c2] := by have h := (Bx.alloc (Bx.new (w.alloc (.cells #[.bool b1, .slice A1 (len x) c1] 24)) #[.bool b2, .slice A2 (len y) c2] 24) (.cells #[.bool false, .slice none 0 0] 24)); simpa using h
  have B_r : Bx (((w.alloc (.cells #[.bool b1, .slice A1 (len x) c1] 24)).alloc (.cells #[.bool b2, .slice A2 (len y) c2] 24)).alloc (.cells #[.bool false, .slice none 0 0] 24)) (w.heap.size + 1 + 1) #[.bool false, .slice none 0 0] := by have h := (Bx.new ((w.alloc (.cells #[.bool b1, .slice A1 (len x) c1] 24)).alloc (.cells #[.bool b2, .slice A2 (len y) c2] 24)) #[.bool false, .slice none 0 0] 24); simpa using h
  have ne_0_1 : ¬ (w.heap.size = w.heap.size + 1) := by omega
  have ne_0_2 : ¬ (w.heap.size = w.heap.size + 1 + 1) := by omega
  have ne_1_0 : ¬ (w.heap.size + 1 = w.heap.size) := by omega
  have ne_1_2 : ¬ (w.heap.size + 1 = w.heap.size + 1 + 1) := by omega
  have ne_2_0 : ¬ (w.heap.size + 1 + 1 = w.heap.size) := by omega
  have ne_2_1 : ¬ (w.heap.size + 1 + 1 = w.heap.size + 1) := by omega
  replace h1 := Row.below h1 O (Nat.le_refl _)
  replace h2 := Row.below h2 O (Nat.le_refl _)
  go_enter Tryz.func73, Tryz.ntmps73
  go_wp2_with fail
  go_region_held3 (fun w' => w'.cell? ⟨w.heap.size, 0, none⟩ = some (.bool b1) ∧ w'.cell? ⟨w.heap.size, 1, none⟩ = some (.slice A1 (len x) c1) ∧ w'.cell? ⟨w.heap.size + 1, 0, none⟩ = some (.bool b2) ∧ w'.cell? ⟨w.heap.size + 1, 1, none⟩ = some (.slice A2 (len y) c2)) (go_keep)
    (first
     | (go_at_call 75; refine (natMul_any A1 A2 c1 c2 x y lo1 lo2 _ (Row.below (B := (((w.alloc (.cells #[.bool b1, .slice A1 (len x) c1] 24)).alloc (.cells #[.bool b2, .slice A2 (len y) c2] 24)).alloc (.cells #[.bool false, .slice none 0 0] 24)).heap.size) h1 oldA (Nat.le_refl _)) (Row.below (B := (((w.alloc (.cells #[.bool b1, .slice A1 (len x) c1] 24)).alloc (.cells #[.bool b2, .slice A2 (len y) c2] 24)).alloc (.cells #[.bool false, .slice none 0 0] 24)).heap.size) h2 oldA (Nat.le_refl _)) (by omega) (by omega)).mono ?_; rintro e w1 ⟨A, c, rfl, r1, o1⟩; replace o1 : Old (((w.alloc (.cells #[.bool b1, .slice A1 (len x) c1] 24)).alloc (.cells #[.bool b2, .slice A2 (len y) c2] 24)).alloc (.cells #[.bool false, .slice none 0 0] 24)) w1 := Below.trans (b := _) oldA (Below.mono o1 leA); replace B_x := Bx.old B_x o1; replace B_y := Bx.old B_y o1; replace B_r := Bx.old B_r o1; replace h1 := Row.below h1 o1 (Nat.le_refl _); replace h2 := Row.below h2 o1 (Nat.le_refl _); replace O := Old.trans O o1; have z1 : w.heap.size + 3 ≤ w1.heap.size := (by have h := o1.size; simp at h; omega); replace r1 := Row.more (lo' := w.heap.size + 1 + 1 + 1) r1 leA; have q_x_0 := B_x.cell 0 rfl; have q_x_1 := B_x.cell 1 rfl; have f_x_0 := B_x.frozen 0; have f_x_1 := B_x.frozen 1; have q_x := B_x.lt; have q_y_0 := B_y.cell 0 rfl; have q_y_1 := B_y.cell 1 rfl; have f_y_0 := B_y.frozen 0; have f_y_1 := B_y.frozen 1; have q_y := B_y.lt; have q_r_0 := B_r.cell 0 rfl; have q_r_1 := B_r.cell 1 rfl; have f_r_0 := B_r.frozen 0; have f_r_1 := B_r.frozen 1; have q_r := B_r.lt)
     | (go_at_call 78; refine (bigMake_any (b1 != b2) A (len (x * y)) c _).mono ?_; rintro e w2 ⟨rfl, o2⟩; clear q_x_0 q_x_1 f_x_0 f_x_1 q_x q_y_0 q_y_1 f_y_0 f_y_1 q_y q_r_0 q_r_1 f_r_0 f_r_1 q_r; replace o2 : Old w1 w2 := Below.trans (b := _) oldA (Below.mono o2 leA); replace B_x := Bx.old B_x o2; replace B_y := Bx.old B_y o2; replace B_r := Bx.old B_r o2; replace h1 := Row.below h1 o2 (Nat.le_refl _); replace h2 := Row.below h2 o2 (Nat.le_refl _); replace r1 := Row.below r1 o2 (Nat.le_refl _); replace O := Old.trans O o2; have z2 := o2.size; have q_x_0 := B_x.cell 0 rfl; have q_x_1 := B_x.cell 1 rfl; have f_x_0 := B_x.frozen 0; have f_x_1 := B_x.frozen 1; have q_x := B_x.lt; have q_y_0 := B_y.cell 0 rfl; have q_y_1 := B_y.cell 1 rfl; have f_y_0 := B_y.frozen 0; have f_y_1 := B_y.frozen 1; have q_y := B_y.lt; have q_r_0 := B_r.cell 0 rfl; have q_r_1 := B_r.cell 1 rfl; have f_r_0 := B_r.frozen 0; have f_r_1 := B_r.frozen 1; have q_r := B_r.lt))
  go_wp2
  refine bodyPost_ret (v := .agg #[.bool ((b1 != b2) && decide (0 < len (x * y))), .slice A (len (x * y)) c]) (by simp [results, Tryz.results73, go_sem, q_r_0, q_r_1]) rfl ⟨RetB.mk' (b := b1 != b2) (x := x * y) (A := A) (c := c) (by rw [len_dec]) ?_ (by rw [ht]), ?_⟩
  · refine Row.more (lo := w.heap.size + 1 + 1 + 1) ?_ leA
    repeat' (first | exact r1 | refine Row.far_set ?_ (by first | (simp <;> done) | (simp; omega) | omega) _)
  · exact oldA
set_option maxRecDepth 100000 in
set_option maxHeartbeats 1000000 in
theorem bigCmp_tt (A1 A2 : Option Addr) (c1 c2 x y lo1 lo2 : Nat) (w : World) (h1 : NatS w lo1 A1 c1 x) (h2 : NatS w lo2 A2 c2 y) (hx : len x ≤ 200) (hy : len y ≤ 200) :
    Calls Tryz.prog 76 #[.agg #[.bool true, .slice A1 (len x) c1], .agg #[.bool true, .slice A2 (len y) c2]] w fun e w' => e = .returned (.int .i64 (cmpN y x)) ∧ Old w w' := by
  have O : Old w ((w.alloc (.cells #[.bool true, .slice A1 (len x) c1] 24)).alloc (.cells #[.bool true, .slice A2 (len y) c2] 24)) := oldA
  have B_x : Bx ((w.alloc (.cells #[.bool true, .slice A1 (len x) c1] 24)).alloc (.cells #[.bool true, .slice A2 (len y) c2] 24)) (w.heap.size) #[.bool true, .slice A1 (len x) c1] := by have h := (Bx.alloc (Bx.new w #[.bool true, .slice A1 (len x) c1] 24) (.cells #[.bool true, .slice A2 (len y) c2] 24)); simpa using h
  have B_y : Bx ((w.alloc (.cells #[.bool true, .slice A1 (len x) c1] 24)).alloc (.cells #[.bool true, .slice A2 (len y) c2] 24)) (w.heap.size + 1) #[.bool true, .slice A2 (len y) c2] := by have h := (Bx.new (w.alloc (.cells #[.bool true, .slice A1 (len x) c1] 24)) #[.bool true, .slice A2 (len y) c2] 24); simpa using h
  have ne_0_1 : ¬ (w.heap.size = w.heap.size + 1) := by omega
  have ne_1_0 : ¬ (w.heap.size + 1 = w.heap.size) := by omega
  replace h1 := Row.below h1 O (Nat.le_refl _)
  replace h2 := Row.below h2 O (Nat.le_refl _)
  go_enter Tryz.func76, Tryz.ntmps76
  go_wp2_with fail
  refine (natCmp_any A2 A1 c2 c1 y x lo2 lo1 _ (Row.below (B := ((w.alloc (.cells #[.bool true, .slice A1 (len x) c1] 24)).alloc (.cells #[.bool true, .slice A2 (len y) c2] 24)).heap.size) h2 oldA (Nat.le_refl _)) (Row.below (B := ((w.alloc (.cells #[.bool true, .slice A1 (len x) c1] 24)).alloc (.cells #[.bool true, .slice A2 (len y) c2] 24)).heap.size) h1 oldA (Nat.le_refl _)) (by omega) (by omega)).mono ?_
  rintro e w1 ⟨rfl, o1⟩
  replace o1 : Old ((w.alloc (.cells #[.bool true, .slice A1 (len x) c1] 24)).alloc (.cells #[.bool true, .slice A2 (len y) c2] 24)) w1 := Below.trans (b := _) oldA (Below.mono o1 leA)
  replace B_x := Bx.old B_x o1
  replace B_y := Bx.old B_y o1
  replace h1 := Row.below h1 o1 (Nat.le_refl _)
  replace h2 := Row.below h2 o1 (Nat.le_refl _)
  replace O := Old.trans O o1
  have z1 : w.heap.size + 2 ≤ w1.heap.size := (by have h := o1.size; simp at h; omega)
  have q_x_0 := B_x.cell 0 rfl
  have q_x_1 := B_x.cell 1 rfl
  have f_x_0 := B_x.frozen 0
  have f_x_1 := B_x.frozen 1
  have q_x := B_x.lt
  have q_y_0 := B_y.cell 0 rfl
  have q_y_1 := B_y.cell 1 rfl
  have f_y_0 := B_y.frozen 0
  have f_y_1 := B_y.frozen 1
  have q_y := B_y.lt
  go_wp2
  go_ret
  exact ⟨rfl, oldA⟩
set_option maxRecDepth 100000 in
set_option maxHeartbeats 1000000 in
theorem bigCmp_tf (A1 A2 : Option Addr) (c1 c2 x y lo1 lo2 : Nat) (w : World) (h1 : NatS w lo1 A1 c1 x) (h2 : NatS w lo2 A2 c2 y) (hx : len x ≤ 200) (hy : len y ≤ 200) :
    Calls Tryz.prog 76 #[.agg #[.bool true, .slice A1 (len x) c1], .agg #[.bool false, .slice A2 (len y) c2]] w fun e w' => e = .returned (.int .i64 (-1)) ∧ Old w w' := by
  have O : Old w ((w.alloc (.cells #[.bool true, .slice A1 (len x) c1] 24)).alloc (.cells #[.bool false, .slice A2 (len y) c2] 24)) := oldA
  have B_x : Bx ((w.alloc (.cells #[.bool true, .slice A1 (len x) c1] 24)).alloc (.cells #[.bool false, .slice A2 (len y) c2] 24)) (w.heap.size) #[.bool true, .slice A1 (len x) c1] := by have h := (Bx.alloc (Bx.new w #[.bool true, .slice A1 (len x) c1] 24) (.cells #[.bool false, .slice A2 (len y) c2] 24)); simpa using h
  have B_y : Bx ((w.alloc (.cells #[.bool true, .slice A1 (len x) c1] 24)).alloc (.cells #[.bool false, .slice A2 (len y) c2] 24)) (w.heap.size + 1) #[.bool false, .slice A2 (len y) c2] := by have h := (Bx.new (w.alloc (.cells #[.bool true, .slice A1 (len x) c1] 24)) #[.bool false, .slice A2 (len y) c2] 24); simpa using h
  have ne_0_1 : ¬ (w.heap.size = w.heap.size + 1) := by omega
  have ne_1_0 : ¬ (w.heap.size + 1 = w.heap.size) := by omega
  replace h1 := Row.below h1 O (Nat.le_refl _)
  replace h2 := Row.below h2 O (Nat.le_refl _)
  go_enter Tryz.func76, Tryz.ntmps76
  go_wp2
  go_ret
  exact ⟨rfl, oldA⟩
set_option maxRecDepth 100000 in
set_option maxHeartbeats 1000000 in
theorem bigCmp_ft (A1 A2 : Option Addr) (c1 c2 x y lo1 lo2 : Nat) (w : World) (h1 : NatS w lo1 A1 c1 x) (h2 : NatS w lo2 A2 c2 y) (hx : len x ≤ 200) (hy : len y ≤ 200) :
    Calls Tryz.prog 76 #[.agg #[.bool false, .slice A1 (len x) c1], .agg #[.bool true, .slice A2 (len y) c2]] w fun e w' => e = .returned (.int .i64 (1)) ∧ Old w w' := by
  have O : Old w ((w.alloc (.cells #[.bool false, .slice A1 (len x) c1] 24)).alloc (.cells #[.bool true, .slice A2 (len y) c2] 24)) := oldA
  have B_x : Bx ((w.alloc (.cells #[.bool false, .slice A1 (len x) c1] 24)).alloc (.cells #[.bool true, .slice A2 (len y) c2] 24)) (w.heap.size) #[.bool false, .slice A1 (len x) c1] := by have h := (Bx.alloc (Bx.new w #[.bool false, .slice A1 (len x) c1] 24) (.cells #[.bool true, .slice A2 (len y) c2] 24)); simpa using h
  have B_y : Bx ((w.alloc (.cells #[.bool false, .slice A1 (len x) c1] 24)).alloc (.cells #[.bool true, .slice A2 (len y) c2] 24)) (w.heap.size + 1) #[.bool true, .slice A2 (len y) c2] := by have h := (Bx.new (w.alloc (.cells #[.bool false, .slice A1 (len x) c1] 24)) #[.bool true, .slice A2 (len y) c2] 24); simpa using h
  have ne_0_1 : ¬ (w.heap.size = w.heap.size + 1) := by omega
  have ne_1_0 : ¬ (w.heap.size + 1 = w.heap.size) := by omega
  replace h1 := Row.below h1 O (Nat.le_refl _)
  replace h2 := Row.below h2 O (Nat.le_refl _)
  go_enter Tryz.func76, Tryz.ntmps76
  go_wp2
  go_ret
  exact ⟨rfl, oldA⟩
set_option maxRecDepth 100000 in
set_option maxHeartbeats 1000000 in
theorem bigCmp_ff (A1 A2 : Option Addr) (c1 c2 x y lo1 lo2 : Nat) (w : World) (h1 : NatS w lo1 A1 c1 x) (h2 : NatS w lo2 A2 c2 y) (hx : len x ≤ 200) (hy : len y ≤ 200) :
    Calls Tryz.prog 76 #[.agg #[.bool false, .slice A1 (len x) c1], .agg #[.bool false, .slice A2 (len y) c2]] w fun e w' => e = .returned (.int .i64 (cmpN x y)) ∧ Old w w' := by
  have O : Old w ((w.alloc (.cells #[.bool false, .slice A1 (len x) c1] 24)).alloc (.cells #[.bool false, .slice A2 (len y) c2] 24)) := oldA
  have B_x : Bx ((w.alloc (.cells #[.bool false, .slice A1 (len x) c1] 24)).alloc (.cells #[.bool false, .slice A2 (len y) c2] 24)) (w.heap.size) #[.bool false, .slice A1 (len x) c1] := by have h := (Bx.alloc (Bx.new w #[.bool false, .slice A1 (len x) c1] 24) (.cells #[.bool false, .slice A2 (len y) c2] 24)); simpa using h
  have B_y : Bx ((w.alloc (.cells #[.bool false, .slice A1 (len x) c1] 24)).alloc (.cells #[.bool false, .slice A2 (len y) c2] 24)) (w.heap.size + 1) #[.bool false, .slice A2 (len y) c2] := by have h := (Bx.new (w.alloc (.cells #[.bool false, .slice A1 (len x) c1] 24)) #[.bool false, .slice A2 (len y) c2] 24); simpa using h
  have ne_0_1 : ¬ (w.heap.size = w.heap.size + 1) := by omega
  have ne_1_0 : ¬ (w.heap.size + 1 = w.heap.size) := by omega
  replace h1 := Row.below h1 O (Nat.le_refl _)
  replace h2 := Row.below h2 O (Nat.le_refl _)
  go_enter Tryz.func76, Tryz.ntmps76
  go_wp2_with fail
  refine (natCmp_any A1 A2 c1 c2 x y lo1 lo2 _ (Row.below (B := ((w.alloc (.cells #[.bool false, .slice A1 (len x) c1] 24)).alloc (.cells #[.bool false, .slice A2 (len y) c2] 24)).heap.size) h1 oldA (Nat.le_refl _)) (Row.below (B := ((w.alloc (.cells #[.bool false, .slice A1 (len x) c1] 24)).alloc (.cells #[.bool false, .slice A2 (len y) c2] 24)).heap.size) h2 oldA (Nat.le_refl _)) (by omega) (by omega)).mono ?_
  rintro e w1 ⟨rfl, o1⟩
  replace o1 : Old ((w.alloc (.cells #[.bool false, .slice A1 (len x) c1] 24)).alloc (.cells #[.bool false, .slice A2 (len y) c2] 24)) w1 := Below.trans (b := _) oldA (Below.mono o1 leA)
  replace B_x := Bx.old B_x o1
  replace B_y := Bx.old B_y o1
  replace h1 := Row.below h1 o1 (Nat.le_refl _)
  replace h2 := Row.below h2 o1 (Nat.le_refl _)
  replace O := Old.trans O o1
  have z1 : w.heap.size + 2 ≤ w1.heap.size := (by have h := o1.size; simp at h; omega)
  have q_x_0 := B_x.cell 0 rfl
  have q_x_1 := B_x.cell 1 rfl
  have f_x_0 := B_x.frozen 0
  have f_x_1 := B_x.frozen 1
  have q_x := B_x.lt
  have q_y_0 := B_y.cell 0 rfl
  have q_y_1 := B_y.cell 1 rfl
  have f_y_0 := B_y.frozen 0
  have f_y_1 := B_y.frozen 1
  have q_y := B_y.lt
  go_wp2
  go_ret
  exact ⟨rfl, oldA⟩
theorem bigCmp_any (b1 b2 : Bool) (A1 A2 : Option Addr) (c1 c2 x y lo1 lo2 : Nat) (w : World) (h1 : NatS w lo1 A1 c1 x) (h2 : NatS w lo2 A2 c2 y) (hx : len x ≤ 200) (hy : len y ≤ 200) (hb1 : b1 = true → 0 < x) (hb2 : b2 = true → 0 < y) :
    Calls Tryz.prog 76 #[.agg #[.bool b1, .slice A1 (len x) c1], .agg #[.bool b2, .slice A2 (len y) c2]] w fun e w' => e = .returned (.int .i64 (cmpZ (signed b1 x) (signed b2 y))) ∧ Old w w' := by
  cases b1 with
  | true => cases b2 with
    | true => rw [cmpZ_tt]; exact bigCmp_tt A1 A2 c1 c2 x y lo1 lo2 w h1 h2 hx hy
    | false => rw [cmpZ_tf (hb1 rfl)]; exact bigCmp_tf A1 A2 c1 c2 x y lo1 lo2 w h1 h2 hx hy
  | false => cases b2 with
    | true => rw [cmpZ_ft (hb2 rfl)]; exact bigCmp_ft A1 A2 c1 c2 x y lo1 lo2 w h1 h2 hx hy
    | false => rw [cmpZ_ff]; exact bigCmp_ff A1 A2 c1 c2 x y lo1 lo2 w h1 h2 hx hy
theorem spec_BigIntOk_yes (b : Bool) (A : Option Addr) (c x lo : Nat) (w : World) (h : NatS w lo A c x) (hx : len x ≤ 60) (hb : b = true → 0 < x) :
    Calls Tryz.prog 79 #[.agg #[.bool b, .slice A (len x) c]] w fun e w' => e = .returned (.bool true) ∧ Old w w' :=
  (spec_BigIntOk b A (len x) c lo (digI x) w h (by omega)).mono fun e w' he => ⟨by rw [he.1, rBigIntOk_yes (okB_of hx hb)], he.2⟩
theorem spec_BigIntOk_no (b : Bool) (A : Option Addr) (n c lo : Nat) (f : Nat → Int) (w : World) (h : Row w lo A n c f) (hn : n ≤ 1048576) (k : ¬ okB b n f) :
    Calls Tryz.prog 79 #[.agg #[.bool b, .slice A n c]] w fun e w' => e = .returned (.bool false) ∧ Old w w' :=
  (spec_BigIntOk b A n c lo f w h hn).mono fun e w' he => ⟨by rw [he.1, rBigIntOk_no k], he.2⟩
theorem impl_BigIntOk_yes (b : Bool) (A : Option Addr) (c x lo : Nat) (w : World) (h : NatS w lo A c x) (hx : len x ≤ 60) (hb : b = true → 0 < x) :
    Calls Tryz.prog 57 #[.agg #[.bool b, .slice A (len x) c]] w fun e w' => e = .returned (.bool true) ∧ Old w w' :=
  (impl_BigIntOk b A (len x) c lo (digI x) w h (by omega)).mono fun e w' he => ⟨by rw [he.1, rBigIntOk_yes (okB_of hx hb)], he.2⟩
theorem impl_BigIntOk_no (b : Bool) (A : Option Addr) (n c lo : Nat) (f : Nat → Int) (w : World) (h : Row w lo A n c f) (hn : n ≤ 1048576) (k : ¬ okB b n f) :
    Calls Tryz.prog 57 #[.agg #[.bool b, .slice A n c]] w fun e w' => e = .returned (.bool false) ∧ Old w w' :=
  (impl_BigIntOk b A n c lo f w h hn).mono fun e w' he => ⟨by rw [he.1, rBigIntOk_no k], he.2⟩
end Go.Proofs.YtgchbbjhdeobpaaGreatDoor

namespace Go.Proofs.YtgchbbjhdeobpaaGreatDoor
set_option linter.unusedVariables false
open Go.RowKit Num
attribute [local go_sem ↓] Go.wp_at_zero Go.wp_at_succ
end Go.Proofs.YtgchbbjhdeobpaaGreatDoor

namespace Go.Proofs.YtgchbbjhdeobpaaGreatDoor
set_option linter.unusedVariables false
open Go.RowKit Num

abbrev Fr := Int × Nat
def normF (v : Fr) : Prop := v = (0, 0) ∨ (0 < v.2 ∧ len (magZ v.1) ≤ 24 ∧ len v.2 ≤ 24 ∧ Nat.gcd (magZ v.1) v.2 = 1)
/-- In lowest terms, or (0, 0) where a part is too long. -/
def mkF (z : Int) (d : Nat) : Fr :=
  if d = 0 then (0, 0)
  else if len (magZ z / Nat.gcd (magZ z) d) ≤ 24 ∧ len (d / Nat.gcd (magZ z) d) ≤ 24 then (signed (sgnZ z) (magZ z / Nat.gcd (magZ z) d), d / Nat.gcd (magZ z) d)
  else (0, 0)
def addF (a b : Fr) : Fr := mkF (a.1 * b.2 + b.1 * a.2) (a.2 * b.2)
def mulF (a b : Fr) : Fr := mkF (a.1 * b.1) (a.2 * b.2)
def negF (a : Fr) : Fr := (-a.1, a.2)
def subF (a b : Fr) : Fr := addF a (negF b)
def divF (a b : Fr) : Fr := mkF (signed (sgnZ a.1 != sgnZ b.1) (magZ a.1 * b.2)) (a.2 * magZ b.1)
def cmpF (a b : Fr) : Int := cmpZ (a.1 * b.2) (b.1 * a.2)
def sgnF (a : Fr) : Int := if a.1 < 0 then -1 else if a.1 = 0 then 0 else 1
def minF (a b : Fr) : Fr := if a.2 = 0 ∨ b.2 = 0 then (0, 0) else if cmpF a b ≤ 0 then a else b
def maxF (a b : Fr) : Fr := if a.2 = 0 ∨ b.2 = 0 then (0, 0) else if 0 ≤ cmpF a b then a else b

theorem mag_zero : magZ 0 = 0 := rfl
theorem len_mag0 : len (magZ 0) = 0 := len_zero
theorem gcd_pos {x d : Nat} (h : 0 < d) : 0 < Nat.gcd x d := Nat.gcd_pos_of_pos_right _ h
theorem mkF_zero (z : Int) : mkF z 0 = (0, 0) := if_pos rfl
theorem mkF_yes {z : Int} {d : Nat} (hd : 0 < d) (h1 : len (magZ z / Nat.gcd (magZ z) d) ≤ 24) (h2 : len (d / Nat.gcd (magZ z) d) ≤ 24) :
    mkF z d = (signed (sgnZ z) (magZ z / Nat.gcd (magZ z) d), d / Nat.gcd (magZ z) d) := by
  unfold mkF; rw [if_neg (by omega), if_pos ⟨h1, h2⟩]
theorem mkF_no {z : Int} {d : Nat} (h : ¬ (len (magZ z / Nat.gcd (magZ z) d) ≤ 24 ∧ len (d / Nat.gcd (magZ z) d) ≤ 24)) : mkF z d = (0, 0) := by
  unfold mkF
  by_cases hd : d = 0
  · rw [if_pos hd]
  · rw [if_neg hd, if_neg h]
theorem mkF_norm (z : Int) (d : Nat) : normF (mkF z d) := by
  unfold mkF
  split
  · exact Or.inl rfl
  · split
    · next hd h =>
      have hg := gcd_pos (x := magZ z) (d := d) (by omega)
      refine Or.inr ⟨?_, ?_, h.2, ?_⟩
      · exact Nat.div_pos (Nat.le_of_dvd (by omega) (Nat.gcd_dvd_right _ _)) hg
      · simp only [mag_signed]; exact h.1
      · simp only [mag_signed]
        rw [Nat.gcd_div (Nat.gcd_dvd_left _ _) (Nat.gcd_dvd_right _ _), Nat.div_self hg]
    · exact Or.inl rfl
theorem norm_len {v : Fr} (h : normF v) : len (magZ v.1) ≤ 24 ∧ len v.2 ≤ 24 := by
  rcases h with h | h
  · subst h; exact ⟨by rw [len_mag0]; omega, by rw [len_zero]; omega⟩
  · exact ⟨h.2.1, h.2.2.1⟩
theorem norm_den {v : Fr} (h : normF v) (h0 : v.2 = 0) : v = (0, 0) := by
  rcases h with h | h
  · exact h
  · omega
theorem negF_norm {v : Fr} (h : normF v) : normF (negF v) := by
  rcases h with h | h
  · subst h; exact Or.inl rfl
  · refine Or.inr ⟨h.1, ?_, h.2.2.1, ?_⟩
    · show len (magZ (-v.1)) ≤ 24; rw [mag_neg]; exact h.2.1
    · show Nat.gcd (magZ (-v.1)) v.2 = 1; rw [mag_neg]; exact h.2.2.2
theorem addF_norm (a b : Fr) : normF (addF a b) := mkF_norm _ _
theorem subF_norm (a b : Fr) : normF (subF a b) := mkF_norm _ _
theorem divF_norm (a b : Fr) : normF (divF a b) := mkF_norm _ _
theorem minF_norm {a b : Fr} (ha : normF a) (hb : normF b) : normF (minF a b) := by
  unfold minF; split
  · exact Or.inl rfl
  · split <;> assumption
theorem maxF_norm {a b : Fr} (ha : normF a) (hb : normF b) : normF (maxF a b) := by
  unfold maxF; split
  · exact Or.inl rfl
  · split <;> assumption
theorem mkF_d0 {z : Int} {d : Nat} (h : d = 0) : mkF z d = (0, 0) := by subst h; exact mkF_zero z
theorem addF_no1 {a b : Fr} (h : a.2 = 0) : addF a b = (0, 0) := mkF_d0 (by rw [h, Nat.zero_mul])
theorem addF_no2 {a b : Fr} (h : b.2 = 0) : addF a b = (0, 0) := mkF_d0 (by rw [h, Nat.mul_zero])
theorem mulF_no1 {a b : Fr} (h : a.2 = 0) : mulF a b = (0, 0) := mkF_d0 (by rw [h, Nat.zero_mul])
theorem mulF_no2 {a b : Fr} (h : b.2 = 0) : mulF a b = (0, 0) := mkF_d0 (by rw [h, Nat.mul_zero])
theorem subF_no1 {a b : Fr} (h : a.2 = 0) : subF a b = (0, 0) := addF_no1 h
theorem subF_no2 {a b : Fr} (h : b.2 = 0) : subF a b = (0, 0) := addF_no2 h
theorem divF_no1 {a b : Fr} (h : a.2 = 0) : divF a b = (0, 0) := mkF_d0 (by rw [h, Nat.zero_mul])
theorem divF_no2 {a b : Fr} (h : b = (0, 0)) : divF a b = (0, 0) := mkF_d0 (by subst h; rw [mag_zero, Nat.mul_zero])
theorem minF_no1 {a b : Fr} (h : a.2 = 0) : minF a b = (0, 0) := if_pos (Or.inl h)
theorem minF_no2 {a b : Fr} (h : b.2 = 0) : minF a b = (0, 0) := if_pos (Or.inr h)
theorem maxF_no1 {a b : Fr} (h : a.2 = 0) : maxF a b = (0, 0) := if_pos (Or.inl h)
theorem maxF_no2 {a b : Fr} (h : b.2 = 0) : maxF a b = (0, 0) := if_pos (Or.inr h)
theorem cmpF_no1 {a b : Fr} (h : a = (0, 0)) : cmpF a b = 0 := by subst h; unfold cmpF cmpZ; simp
theorem cmpF_no2 {a b : Fr} (h : b = (0, 0)) : cmpF a b = 0 := by subst h; unfold cmpF cmpZ; simp

/-- A fraction that is valid. -/
def okR (b : Bool) (n : Nat) (f : Nat → Int) (m : Nat) (g : Nat → Int) : Prop := okB b n f ∧ okP m g ∧ 0 < m ∧ n ≤ 24 ∧ m ≤ 24 ∧ Nat.gcd (natX n f) (natX m g) = 1
open Classical in
/-- What a fraction stands for. -/
noncomputable def vR (b : Bool) (n : Nat) (f : Nat → Int) (m : Nat) (g : Nat → Int) : Fr := if okR b n f m g then (bigX b n f, natX m g) else (0, 0)
theorem vR_no {b : Bool} {n m : Nat} {f g : Nat → Int} (k : ¬ okR b n f m g) : vR b n f m g = (0, 0) := if_neg k
theorem okR_nat {w : World} {lo1 lo2 n c1 m c2 : Nat} {A1 A2 : Option Addr} {f g : Nat → Int} {b : Bool} (k : okR b n f m g) (h1 : Row w lo1 A1 n c1 f) (h2 : Row w lo2 A2 m c2 g) :
    ∃ x d, n = len x ∧ m = len d ∧ len x ≤ 24 ∧ len d ≤ 24 ∧ 0 < d ∧ (b = true → 0 < x) ∧ Nat.gcd x d = 1 ∧ vR b n f m g = (signed b x, d) ∧ NatS w lo1 A1 c1 x ∧ NatS w lo2 A2 c2 d := by
  have k' := k
  obtain ⟨k1, k2, k3, k4, k5, k6⟩ := k
  obtain ⟨x, e1, hx, hb, v1, s1⟩ := okB_nat k1 h1
  obtain ⟨d, e2, hd, v2, s2⟩ := row_nat h2 k2
  have hxv : natX n f = x := by
    have h := congrArg magZ v1
    unfold bigX at h
    rwa [mag_signed, mag_signed] at h
  refine ⟨x, d, e1, e2, by omega, by omega, pos_len (by omega), hb, by rw [← hxv, ← v2]; exact k6, ?_, s1, s2⟩
  rw [vR, if_pos k', v1, v2]
theorem okR_z {w : World} {lo1 lo2 n c1 m c2 : Nat} {A1 A2 : Option Addr} {f g : Nat → Int} {b : Bool} (k : okR b n f m g) (h1 : Row w lo1 A1 n c1 f) (h2 : Row w lo2 A2 m c2 g) :
    ∃ z d, b = sgnZ z ∧ n = len (magZ z) ∧ m = len d ∧ 0 < d ∧ normF (z, d) ∧ vR b n f m g = (z, d) ∧ NatS w lo1 A1 c1 (magZ z) ∧ NatS w lo2 A2 c2 d := by
  obtain ⟨x, d, e1, e2, hx, hd, h0, hb, hg, hv, s1, s2⟩ := okR_nat k h1 h2
  refine ⟨signed b x, d, ?_, by rw [mag_signed]; exact e1, e2, h0, Or.inr ⟨h0, by rw [mag_signed]; exact hx, hd, by rw [mag_signed]; exact hg⟩, hv, by rw [mag_signed]; exact s1, s2⟩
  rw [sgn_signed]
  cases b with
  | false => rfl
  | true => rw [decide_eq_true (hb rfl)]; rfl
theorem okR_of {b : Bool} {x d : Nat} (hx : len x ≤ 24) (hd : len d ≤ 24) (h0 : 0 < d) (hb : b = true → 0 < x) (hg : Nat.gcd x d = 1) : okR b (len x) (digI x) (len d) (digI d) :=
  ⟨okB_of (by omega) hb, okP_of (by omega), len_pos h0, hx, hd, by rw [natX_digI (by omega), natX_digI (by omega)]; exact hg⟩
theorem vR_nat {b : Bool} {x d : Nat} (hx : len x ≤ 24) (hd : len d ≤ 24) (h0 : 0 < d) (hb : b = true → 0 < x) (hg : Nat.gcd x d = 1) : vR b (len x) (digI x) (len d) (digI d) = (signed b x, d) := by
  rw [vR, if_pos (okR_of hx hd h0 hb hg), bigX_nat (by omega), natX_digI (by omega)]
theorem sgn_pos {z : Int} (h : sgnZ z = true) : 0 < magZ z := by
  have : z < 0 := by simpa [sgnZ] using h
  unfold magZ; omega
theorem vR_val {v : Fr} (h : normF v) : vR (sgnZ v.1) (len (magZ v.1)) (digI (magZ v.1)) (len v.2) (digI v.2) = v := by
  rcases h with h | h
  · subst h
    exact vR_no fun k => by have := k.2.2.1; rw [len_zero] at this; omega
  · rw [vR_nat h.2.1 h.2.2.1 h.1 sgn_pos h.2.2.2, signed_mag]
theorem vR_den {b : Bool} {n : Nat} {f : Nat → Int} {m : Nat} {g : Nat → Int} : (vR b n f m g).2 = 0 ↔ ¬ okR b n f m g := by
  constructor
  · intro h k
    rw [vR, if_pos k] at h
    have h2 := (natX_spec k.2.1).1
    have h3 := k.2.2.1
    have h4 : natX m g = 0 := h
    rw [h4, len_zero] at h2
    omega
  · intro k; rw [vR_no k]
theorem okR_val {v : Fr} (h : normF v) : okR (sgnZ v.1) (len (magZ v.1)) (digI (magZ v.1)) (len v.2) (digI v.2) ↔ 0 < v.2 := by
  have e := vR_val h
  have hd := vR_den (b := sgnZ v.1) (n := len (magZ v.1)) (f := digI (magZ v.1)) (m := len v.2) (g := digI v.2)
  rw [e] at hd
  constructor
  · intro k; exact Nat.pos_of_ne_zero fun h0 => hd.1 h0 k
  · intro h0; exact Classical.byContradiction fun k => by have := hd.2 k; omega
end Go.Proofs.YtgchbbjhdeobpaaGreatDoor

namespace Go.Proofs.YtgchbbjhdeobpaaGreatDoor
set_option linter.unusedVariables false
open Go.RowKit Num
attribute [local go_sem ↓] Go.wp_at_zero Go.wp_at_succ
theorem len_1 : len 1 = 1 := len_eq (by rw [Nat.pow_one, B_eq]; omega) (fun _ => by rw [Nat.sub_self, Nat.pow_zero]; omega)
end Go.Proofs.YtgchbbjhdeobpaaGreatDoor

namespace Go.Proofs.YtgchbbjhdeobpaaGreatDoor
set_option linter.unusedVariables false
open Go.RowKit Num
theorem callsNamed {P : Program} {f : FuncId} {args : Array Value} {w : World} {Q : Ending → World → Prop} (h : ∀ x, x = w → Calls P f args x Q) : Calls P f args w Q := h w rfl
section
variable {w w' : World} {g lo lo' n c : Nat} {cs : Array Value} {A : Option Addr} {f : Nat → Int}
theorem Bx.far (h : Bx w g cs) {p : Addr} (hp : ¬ p.block = g) (u : Value) : Bx (w.setCell p u) g cs := by
  obtain ⟨t, e⟩ := h
  exact ⟨t, (Below.heap_setCell w p u g (fun e => hp e.symm)).trans e⟩
theorem Bx.drewN (h : Bx w g cs) (k : Nat) : Bx (w.drewN k) g cs := h
theorem Bx.newN (w : World) (k : Nat) (cs : Array Value) (t : TypeId) : Bx ((w.drewN k).alloc (.cells cs t)) w.heap.size cs := Bx.new (w.drewN k) cs t
theorem Bx.new1 (w : World) (cs : Array Value) (t : TypeId) : Bx (w.drew.alloc (.cells cs t)) w.heap.size cs := Bx.new w.drew cs t
theorem Row.at (_ : Row w lo A n c f) (w' : World) (h : Row w' lo A n c f) : Row w' lo A n c f := h
theorem Row.alloc' (h : Row w lo A n c f) (o : Obj) : Row (w.alloc o) lo A n c f := Row.below h ((Old.refl w).alloc (Nat.le_refl _) o) (Nat.le_refl _)
theorem Row.drew' (h : Row w lo A n c f) : Row w.drew lo A n c f := h
/-- The slice does not lie in block g. -/
def Off (g : Nat) (A : Option Addr) (n : Nat) : Prop := 0 < n → ∀ a, A = some a → a.block ≠ g
theorem Row.off (h : Row w lo A n c f) (hb : Bx w g cs) (hn : ∀ (i : Nat) (x : Int), cs[i]? ≠ some (.int .i64 x)) : Off g A n := by
  intro h0 a ea eg
  obtain ⟨b, off, e, _, _, _, hc⟩ := h.2 h0
  rw [ea] at e; injection e with e; subst e
  have h1 := hc 0 h0
  obtain ⟨t, ht⟩ := hb
  subst eg
  rw [cell_of_row w b (off + 0) cs t (0, 0) ht] at h1
  exact hn _ _ h1
theorem Low.off {A : Option Addr} (h : Low lo A n) (hg : g < lo) : Off g A n := fun h0 a ea e => by have := h h0 a ea; omega
theorem Row.far_off (h : Row w lo A n c f) {p : Addr} (ho : Off p.block A n) (u : Value) : Row (w.setCell p u) lo A n c f := by
  refine ⟨h.1, fun hn => ?_⟩
  obtain ⟨b, off, e, hl, hs, hf, hc⟩ := h.2 hn
  have hne : b ≠ p.block := ho hn _ e
  have hblk := Below.heap_setCell w p u b hne
  exact ⟨b, off, e, hl, by simpa [World.setCell] using hs, fun j => (World.frozen?_of_block (w := w) hblk).trans (hf j), fun j hj => (World.cell?_of_block (w := w) hblk).trans (hc j hj)⟩
end
theorem Apart.symm {A A' : Option Addr} {n m : Nat} (h : Apart A n A' m) : Apart A' m A n := fun a a' h1 h2 e1 e2 e => h a' a h2 h1 e2 e1 e.symm
theorem Apart.nil (A : Option Addr) (n m : Nat) : Apart A n none m := fun a a' _ _ _ e => by cases e
/-- The call returned the fraction v, as memory that is not older than lo. -/
def RetR (e : Ending) (w : World) (lo : Nat) (v : Fr) : Prop := ∃ z d A1 c1 A2 c2, v = (z, d) ∧ e = .returned (.agg #[.bool (sgnZ z), .slice A1 (len (magZ z)) c1, .slice A2 (len d) c2]) ∧ NatS w lo A1 c1 (magZ z) ∧ NatS w lo A2 c2 d ∧ Apart A1 (len (magZ z)) A2 (len d)
theorem RetR.zero {e : Ending} {w : World} {lo : Nat} (h : e = .returned (.agg #[.bool false, .slice none 0 0, .slice none 0 0])) : RetR e w lo (0, 0) :=
  ⟨0, 0, none, 0, none, 0, rfl, h, Row.zero _ _ _ _ _, Row.zero _ _ _ _ _, Apart.nil _ _ _⟩
theorem RetR.to {e : Ending} {w : World} {lo : Nat} {v v' : Fr} (h : RetR e w lo v) (hv : v = v') : RetR e w lo v' := hv ▸ h
theorem plain_to {P : Program} {f : FuncId} {args : Array Value} {w : World} {v v' : Value} (hv : v = v') (h : Calls P f args w fun e w' => e = .returned v ∧ Old w w') : Calls P f args w fun e w' => e = .returned v' ∧ Old w w' := hv ▸ h
/-- The call returned two fractions, as memory that is not older than lo. -/
def RetP (e : Ending) (w : World) (lo : Nat) (v : Fr × Fr) : Prop := ∃ z1 d1 z2 d2 A1 c1 A2 c2 A3 c3 A4 c4, v = ((z1, d1), (z2, d2)) ∧ e = .returned (.agg #[.bool (sgnZ z1), .slice A1 (len (magZ z1)) c1, .slice A2 (len d1) c2, .bool (sgnZ z2), .slice A3 (len (magZ z2)) c3, .slice A4 (len d2) c4]) ∧
  NatS w lo A1 c1 (magZ z1) ∧ NatS w lo A2 c2 d1 ∧ NatS w lo A3 c3 (magZ z2) ∧ NatS w lo A4 c4 d2 ∧
  (Apart A1 (len (magZ z1)) A2 (len d1) ∧ Apart A1 (len (magZ z1)) A3 (len (magZ z2)) ∧ Apart A1 (len (magZ z1)) A4 (len d2) ∧ Apart A2 (len d1) A3 (len (magZ z2)) ∧ Apart A2 (len d1) A4 (len d2) ∧ Apart A3 (len (magZ z2)) A4 (len d2))
theorem RetP.zero {e : Ending} {w : World} {lo : Nat} (h : e = .returned (.agg #[.bool false, .slice none 0 0, .slice none 0 0, .bool false, .slice none 0 0, .slice none 0 0])) : RetP e w lo ((0, 0), (0, 0)) :=
  ⟨0, 0, 0, 0, none, 0, none, 0, none, 0, none, 0, rfl, h, Row.zero _ _ _ _ _, Row.zero _ _ _ _ _, Row.zero _ _ _ _ _, Row.zero _ _ _ _ _, Apart.nil _ _ _, Apart.nil _ _ _, Apart.nil _ _ _, Apart.nil _ _ _, Apart.nil _ _ _, Apart.nil _ _ _⟩
theorem RetP.to {e : Ending} {w : World} {lo : Nat} {v v' : Fr × Fr} (h : RetP e w lo v) (hv : v = v') : RetP e w lo v' := hv ▸ h

/-! short words for what the walks say at each call -/
theorem bxK {P w w' : World} {g : Nat} {cs : Array Value} (_ : Bx P g cs) (hp : w' = w) (h : Bx w g cs := by repeat' (first | (with_reducible assumption) | (with_reducible refine Bx.alloc ?_ _) | (with_reducible refine Bx.drewN ?_ _) | (with_reducible refine Bx.drew ?_) | refine Bx.far ?_ (by first | assumption | (simp <;> done) | (simp; omega) | omega) _)) : Bx w' g cs := by rw [hp]; exact h
theorem rowK {P w w' : World} {lo n c : Nat} {A : Option Addr} {f : Nat → Int} (_ : Row P lo A n c f) (hp : w' = w) (h : Row w lo A n c f := by repeat' (first | (with_reducible assumption) | (with_reducible refine Row.alloc' ?_ _) | (with_reducible refine Row.drewN ?_ _) | (with_reducible refine Row.drew' ?_) | refine Row.far_off ?_ (by assumption) _ | refine Row.far_set ?_ (by first | (simp <;> done) | (simp; omega) | omega) _)) : Row w' lo A n c f := by rw [hp]; exact h
theorem eNew {w w' : World} {g : Nat} {cs : Array Value} (hp : w' = w) (h : Bx w g cs := by first | (with_reducible exact Bx.new _ _ _) | (with_reducible exact Bx.drewN (Bx.new _ _ _) _) | (with_reducible exact Bx.drew (Bx.new _ _ _)) | (with_reducible exact Bx.newN _ _ _ _) | (with_reducible exact Bx.drewN (Bx.newN _ _ _ _) _) | (with_reducible exact Bx.drew (Bx.newN _ _ _ _)) | (with_reducible exact Bx.new1 _ _ _) | (with_reducible exact Bx.drewN (Bx.new1 _ _ _) _) | (with_reducible exact Bx.drew (Bx.new1 _ _ _))) : Bx w' g cs := by rw [hp]; exact h
section
variable {w : World} {g : Nat} {a b c d e f : Value}
theorem Bx.all2 (h : Bx w g #[a, b]) : w.cell? ⟨g, 0, none⟩ = some a ∧ w.cell? ⟨g, 1, none⟩ = some b ∧ w.frozen? ⟨g, 0, none⟩ = false ∧ w.frozen? ⟨g, 1, none⟩ = false ∧ g < w.heap.size := ⟨h.cell 0 rfl, h.cell 1 rfl, h.frozen 0, h.frozen 1, h.lt⟩
theorem Bx.all3 (h : Bx w g #[a, b, c]) : w.cell? ⟨g, 0, none⟩ = some a ∧ w.cell? ⟨g, 1, none⟩ = some b ∧ w.cell? ⟨g, 2, none⟩ = some c ∧ w.frozen? ⟨g, 0, none⟩ = false ∧ w.frozen? ⟨g, 1, none⟩ = false ∧ w.frozen? ⟨g, 2, none⟩ = false ∧ g < w.heap.size := ⟨h.cell 0 rfl, h.cell 1 rfl, h.cell 2 rfl, h.frozen 0, h.frozen 1, h.frozen 2, h.lt⟩
end
/-! plain facts -/
theorem signed_mul_nat (z : Int) (d : Nat) : signed (sgnZ z) (magZ z * d) = z * (d : Int) := by
  have h := signed_mul (sgnZ z) false (magZ z) d
  rw [signed_mag, Bool.bne_false] at h
  exact h.symm
theorem signed_false (d : Nat) : signed false d = (d : Int) := rfl
theorem mul_mag (z : Int) (d : Nat) : magZ (z * (d : Int)) = magZ z * d := by rw [mag_mul]; rfl
theorem capN_fit {x : Nat} (h : len x ≤ 60) : capN x = x := if_pos h
theorem mul_fit {x y : Nat} (hx : len x ≤ 24) (hy : len y ≤ 24) : len (x * y) ≤ 48 := by have := mul_len_le x y; omega
theorem add_fit {a b : Int} (ha : len (magZ a) ≤ 48) (hb : len (magZ b) ≤ 48) : len (magZ (a + b)) ≤ 49 := by
  have h1 := len_mono (mag_add_le a b)
  have h2 := add_len_le (magZ a) (magZ b)
  omega
theorem capZ_fit {z : Int} (h : len (magZ z) ≤ 60) : capZ z = z := if_pos h
theorem mkF_signed {b : Bool} {x d : Nat} (hd : 0 < d) (h1 : len (x / Nat.gcd x d) ≤ 24) (h2 : len (d / Nat.gcd x d) ≤ 24) : mkF (signed b x) d = (signed b (x / Nat.gcd x d), d / Nat.gcd x d) := by
  rw [mkF_yes hd (by rw [mag_signed]; exact h1) (by rw [mag_signed]; exact h2), mag_signed]
  congr 1
  rw [sgn_signed]
  rcases Nat.eq_zero_or_pos x with h | h
  · subst h; cases b <;> simp [signed]
  · simp [h]
theorem mkF_signed_no {b : Bool} {x d : Nat} (h : ¬ (len (x / Nat.gcd x d) ≤ 24 ∧ len (d / Nat.gcd x d) ≤ 24)) : mkF (signed b x) d = (0, 0) := mkF_no (by rw [mag_signed]; exact h)
theorem quo_len (x g : Nat) : len (x / g) ≤ len x := div_len x g
theorem l03Make_fit (b : Bool) (A : Option Addr) (c r lo : Nat) (w : World) (h : NatS w lo A c r) (hr : len r ≤ 60) :
    Calls Tryz.prog 120 #[.bool b, .slice A (len r) c] w fun e w' => RetB e w' w.heap.size (signed b r) ∧ Old w w' := by
  have := l03Make_any b A (len r) c r lo w h (Nat.le_refl _) (by omega)
  rw [capN_fit hr] at this
  exact this
theorem bigAdd_fit (z1 z2 : Int) (A1 A2 : Option Addr) (c1 c2 lo1 lo2 : Nat) (w : World) (h1 : NatS w lo1 A1 c1 (magZ z1)) (h2 : NatS w lo2 A2 c2 (magZ z2)) (hx : len (magZ z1) ≤ 48) (hy : len (magZ z2) ≤ 48) :
    Calls Tryz.prog 72 #[.agg #[.bool (sgnZ z1), .slice A1 (len (magZ z1)) c1], .agg #[.bool (sgnZ z2), .slice A2 (len (magZ z2)) c2]] w fun e w' => RetB e w' w.heap.size (z1 + z2) ∧ Old w w' := by
  have := bigAdd_any (sgnZ z1) (sgnZ z2) A1 A2 c1 c2 (magZ z1) (magZ z2) lo1 lo2 w h1 h2 (by omega) (by omega)
  rw [signed_mag, signed_mag] at this
  exact this
theorem bigMul_nat (z : Int) (d : Nat) (A1 A2 : Option Addr) (c1 c2 lo1 lo2 : Nat) (w : World) (h1 : NatS w lo1 A1 c1 (magZ z)) (h2 : NatS w lo2 A2 c2 d) (hx : len (magZ z) ≤ 24) (hy : len d ≤ 24) :
    Calls Tryz.prog 73 #[.agg #[.bool (sgnZ z), .slice A1 (len (magZ z)) c1], .agg #[.bool false, .slice A2 (len d) c2]] w fun e w' => RetB e w' w.heap.size (z * (d : Int)) ∧ Old w w' := by
  have := bigMul_any (sgnZ z) false A1 A2 c1 c2 (magZ z) d lo1 lo2 w h1 h2 (by omega) (by omega)
  rw [signed_mag, signed_false] at this
  exact this
theorem bigMul_int (z1 z2 : Int) (A1 A2 : Option Addr) (c1 c2 lo1 lo2 : Nat) (w : World) (h1 : NatS w lo1 A1 c1 (magZ z1)) (h2 : NatS w lo2 A2 c2 (magZ z2)) (hx : len (magZ z1) ≤ 24) (hy : len (magZ z2) ≤ 24) :
    Calls Tryz.prog 73 #[.agg #[.bool (sgnZ z1), .slice A1 (len (magZ z1)) c1], .agg #[.bool (sgnZ z2), .slice A2 (len (magZ z2)) c2]] w fun e w' => RetB e w' w.heap.size (z1 * z2) ∧ Old w w' := by
  have := bigMul_any (sgnZ z1) (sgnZ z2) A1 A2 c1 c2 (magZ z1) (magZ z2) lo1 lo2 w h1 h2 (by omega) (by omega)
  rw [signed_mag, signed_mag] at this
  exact this
theorem natDiv_q (A1 A2 : Option Addr) (c1 c2 a b lo1 lo2 : Nat) (w : World) (h1 : NatS w lo1 A1 c1 a) (h2 : NatS w lo2 A2 c2 b) (ha : len a ≤ 200) (hb : len b ≤ 200) (hb0 : 0 < b) :
    Calls Tryz.prog 90 #[.slice A1 (len a) c1, .slice A2 (len b) c2] w fun e w' => ∃ A c A' n' c', e = .returned (.tuple #[.slice A (len (a / b)) c, .slice A' n' c']) ∧ NatS w' w.heap.size A c (a / b) ∧ Old w w' := by
  by_cases hlt : a < b
  · refine (natDiv_less A1 A2 c1 c2 a b lo1 lo2 w h1 h2 ha hb hlt).mono ?_
    rintro e w' ⟨rfl, o⟩
    have e0 : a / b = 0 := Nat.div_eq_of_lt hlt
    rw [e0]
    exact ⟨none, 0, A1, len a, c1, by rw [len_zero], NatS.zero _ _ _ _, o⟩
  · have hge : b ≤ a := by omega
    by_cases h : len b = 1
    · refine (natDiv_one A1 A2 c1 c2 a b lo1 lo2 w h1 h2 ha h hge).mono ?_
      rintro e w' ⟨⟨A, c, A', c', rfl, r1, r2⟩, o⟩
      exact ⟨A, c, A', _, c', rfl, r1, o⟩
    · refine (natDiv_long A1 A2 c1 c2 a b lo1 lo2 w h1 h2 ha hb hb0 h hge).mono ?_
      rintro e w' ⟨⟨A, c, A', c', rfl, r1, r2⟩, o⟩
      exact ⟨A, c, A', _, c', rfl, r1, o⟩
theorem no_int2 (b : Bool) (A1 : Option Addr) (n1 c1 : Nat) : ∀ (i : Nat) (x : Int), (#[Value.bool b, .slice A1 n1 c1] : Array Value)[i]? ≠ some (.int .i64 x) := by
  intro i x; rcases i with _ | _ | i <;> simp
end Go.Proofs.YtgchbbjhdeobpaaGreatDoor

namespace Go.Proofs.YtgchbbjhdeobpaaGreatDoor
set_option linter.unusedVariables false
open Go.RowKit Num
attribute [local go_sem ↓] Go.wp_at_zero Go.wp_at_succ
set_option maxRecDepth 100000 in
set_option maxHeartbeats 1000000 in
theorem l04One_any (A : Option Addr) (c x lo : Nat) (w : World) (h : NatS w lo A c x) :
    Calls Tryz.prog 52 #[.slice A (len x) c] w fun e w' => e = .returned (.bool (decide (x = 1))) ∧ Old w w' := by
  by_cases h1 : len x = 1
  · obtain ⟨g, off, rfl, hc⟩ := NatS.cell h (j := 0) (by omega)
    rw [(one_digit h1).1, Nat.add_zero] at hc
    have hl : (((len x : Nat) : Int) == 1) = true := by rw [h1]; rfl
    have hl0 : (0 : Int) < ((len x : Nat) : Int) := by omega
    by_cases hx : x = 1
    · have hx1 : ((x : Int) == 1) = true := by rw [hx]; rfl
      have Hd : Hid (decide (x = 1) = true) := Lib.hid (decide_eq_true hx)
      rw [Hd.out]
      clear hx
      go_enter Tryz.func52, Tryz.ntmps52
      go_wp2
      go_ret
      exact ⟨rfl, oldA⟩
    · have hx1 : ((x : Int) == 1) = false := by simp; omega
      have Hd : Hid (decide (x = 1) = false) := Lib.hid (decide_eq_false hx)
      rw [Hd.out]
      clear hx
      go_enter Tryz.func52, Tryz.ntmps52
      go_wp2
      go_ret
      exact ⟨rfl, oldA⟩
  · have hl : (((len x : Nat) : Int) == 1) = false := by simp; omega
    have Hd : Hid (decide (x = 1) = false) := Lib.hid (decide_eq_false fun e => h1 (by rw [e, len_1]))
    rw [Hd.out]
    clear h1
    go_enter Tryz.func52, Tryz.ntmps52
    go_wp2
    go_ret
    exact ⟨rfl, oldA⟩
set_option maxRecDepth 100000 in
set_option maxHeartbeats 1000000 in
theorem isOne_any (A : Option Addr) (c x lo : Nat) (w : World) (h : NatS w lo A c x) :
    Calls Tryz.prog 61 #[.slice A (len x) c] w fun e w' => e = .returned (.bool (decide (x = 1))) ∧ Old w w' := by
  by_cases h1 : len x = 1
  · obtain ⟨g, off, rfl, hc⟩ := NatS.cell h (j := 0) (by omega)
    rw [(one_digit h1).1, Nat.add_zero] at hc
    have hl : (((len x : Nat) : Int) == 1) = true := by rw [h1]; rfl
    have hl0 : (0 : Int) < ((len x : Nat) : Int) := by omega
    by_cases hx : x = 1
    · have hx1 : ((x : Int) == 1) = true := by rw [hx]; rfl
      have Hd : Hid (decide (x = 1) = true) := Lib.hid (decide_eq_true hx)
      rw [Hd.out]
      clear hx
      go_enter Tryz.func61, Tryz.ntmps61
      go_wp2
      go_ret
      exact ⟨rfl, oldA⟩
    · have hx1 : ((x : Int) == 1) = false := by simp; omega
      have Hd : Hid (decide (x = 1) = false) := Lib.hid (decide_eq_false hx)
      rw [Hd.out]
      clear hx
      go_enter Tryz.func61, Tryz.ntmps61
      go_wp2
      go_ret
      exact ⟨rfl, oldA⟩
  · have hl : (((len x : Nat) : Int) == 1) = false := by simp; omega
    have Hd : Hid (decide (x = 1) = false) := Lib.hid (decide_eq_false fun e => h1 (by rw [e, len_1]))
    rw [Hd.out]
    clear h1
    go_enter Tryz.func61, Tryz.ntmps61
    go_wp2
    go_ret
    exact ⟨rfl, oldA⟩
open Classical in
noncomputable def rRatOk (b : Bool) (n : Nat) (f : Nat → Int) (m : Nat) (g : Nat → Int) : Bool := decide (okR b n f m g)
theorem rRatOk_yes {b : Bool} {n m : Nat} {f g : Nat → Int} (h : okR b n f m g) : rRatOk b n f m g = true := by simp [rRatOk, h]
theorem rRatOk_no {b : Bool} {n m : Nat} {f g : Nat → Int} (h : ¬ okR b n f m g) : rRatOk b n f m g = false := by simp [rRatOk, h]
set_option maxRecDepth 100000 in
set_option maxHeartbeats 1000000 in
theorem impl_RatOk (b1 : Bool) (A1 : Option Addr) (n1 c1 l1 : Nat) (f1 : Nat → Int) (D1 : Option Addr) (m1 e1 u1 : Nat) (g1 : Nat → Int) (w : World) (h1 : Row w l1 A1 n1 c1 f1) (k1 : Row w u1 D1 m1 e1 g1) (hn1 : n1 ≤ 1048576) (hm1 : m1 ≤ 1048576) :
    Calls Tryz.prog 28 #[.agg #[.bool b1, .slice A1 n1 c1, .slice D1 m1 e1]] w fun e w' => e = .returned (.bool (rRatOk b1 n1 f1 m1 g1)) ∧ Old w w' := by
  by_cases kb : okB b1 n1 f1
  case neg =>
    have Hr := Lib.hid (rRatOk_no (m := m1) (g := g1) fun h => kb h.1)
    have KB := Lib.hid kb
    clear kb
    have O : Old w (w.alloc (.cells #[.bool b1, .slice A1 n1 c1, .slice D1 m1 e1] 26)) := oldA
    have B_r : Bx (w.alloc (.cells #[.bool b1, .slice A1 n1 c1, .slice D1 m1 e1] 26)) (w.heap.size) #[.bool b1, .slice A1 n1 c1, .slice D1 m1 e1] := by have h := (Bx.new w #[.bool b1, .slice A1 n1 c1, .slice D1 m1 e1] 26); simpa using h
    have ze : w.heap.size + 1 ≤ (w.alloc (.cells #[.bool b1, .slice A1 n1 c1, .slice D1 m1 e1] 26)).heap.size := (by simp)
    go_enter Tryz.func28, Tryz.ntmps28
    go_wp2_with fail
    refine callsNamed ?_
    intro p1 hp
    have O' : Old w p1 := (by rw [hp]; exact Below.trans (b := (w.alloc (.cells #[.bool b1, .slice A1 n1 c1, .slice D1 m1 e1] 26))) O oldA)
    replace B_r : Bx p1 (w.heap.size) #[.bool b1, .slice A1 n1 c1, .slice D1 m1 e1] := (bxK B_r hp)
    have zp1 : (w.alloc (.cells #[.bool b1, .slice A1 n1 c1, .slice D1 m1 e1] 26)).heap.size ≤ p1.heap.size := (by rw [hp]; exact leA)
    clear hp O
    have O := O'
    clear O'
    refine (plain_to (by rw [rBigIntOk_no KB.out]) (impl_BigIntOk b1 A1 n1 c1 l1 f1 _ (Row.below (B := w.heap.size) h1 O (Nat.le_refl _)) hn1)).mono ?_
    rintro e w1 ⟨rfl, o1⟩
    replace B_r := Bx.old B_r o1
    replace O := Old.trans O o1
    have zw1 := o1.size
    obtain ⟨q_r_0, q_r_1, q_r_2, f_r_0, f_r_1, f_r_2, q_r⟩ := B_r.all3
    go_wp2
    go_ret
    exact ⟨by rw [Hr.out]; try rfl, Below.trans (b := w1) O oldA⟩
  by_cases kn : okP m1 g1
  case neg =>
    have Hr := Lib.hid (rRatOk_no (b := b1) (n := n1) (f := f1) fun h => kn h.2.1)
    have KB := Lib.hid kb
    have KN := Lib.hid kn
    clear kb kn
    have O : Old w (w.alloc (.cells #[.bool b1, .slice A1 n1 c1, .slice D1 m1 e1] 26)) := oldA
    have B_r : Bx (w.alloc (.cells #[.bool b1, .slice A1 n1 c1, .slice D1 m1 e1] 26)) (w.heap.size) #[.bool b1, .slice A1 n1 c1, .slice D1 m1 e1] := by have h := (Bx.new w #[.bool b1, .slice A1 n1 c1, .slice D1 m1 e1] 26); simpa using h
    have ze : w.heap.size + 1 ≤ (w.alloc (.cells #[.bool b1, .slice A1 n1 c1, .slice D1 m1 e1] 26)).heap.size := (by simp)
    go_enter Tryz.func28, Tryz.ntmps28
    go_wp2_with fail
    refine callsNamed ?_
    intro p1 hp
    have O' : Old w p1 := (by rw [hp]; exact Below.trans (b := (w.alloc (.cells #[.bool b1, .slice A1 n1 c1, .slice D1 m1 e1] 26))) O oldA)
    replace B_r : Bx p1 (w.heap.size) #[.bool b1, .slice A1 n1 c1, .slice D1 m1 e1] := (bxK B_r hp)
    have zp1 : (w.alloc (.cells #[.bool b1, .slice A1 n1 c1, .slice D1 m1 e1] 26)).heap.size ≤ p1.heap.size := (by rw [hp]; exact leA)
    clear hp O
    have O := O'
    clear O'
    refine (plain_to (by rw [rBigIntOk_yes KB.out]) (impl_BigIntOk b1 A1 n1 c1 l1 f1 _ (Row.below (B := w.heap.size) h1 O (Nat.le_refl _)) hn1)).mono ?_
    rintro e w1 ⟨rfl, o1⟩
    replace B_r := Bx.old B_r o1
    replace O := Old.trans O o1
    have zw1 := o1.size
    obtain ⟨q_r_0, q_r_1, q_r_2, f_r_0, f_r_1, f_r_2, q_r⟩ := B_r.all3
    go_wp2_with fail
    refine callsNamed ?_
    intro p2 hp
    clear q_r_0 q_r_1 q_r_2 f_r_0 f_r_1 f_r_2 q_r
    have O' : Old w p2 := (by rw [hp]; exact Below.trans (b := w1) O oldA)
    replace B_r : Bx p2 (w.heap.size) #[.bool b1, .slice A1 n1 c1, .slice D1 m1 e1] := (bxK B_r hp)
    have zp2 : w1.heap.size ≤ p2.heap.size := (by rw [hp]; exact leA)
    clear hp O
    have O := O'
    clear O'
    refine (plain_to (by rw [rNatOk_no KN.out]) (impl_NatOk D1 m1 e1 u1 g1 _ (Row.below (B := w.heap.size) k1 O (Nat.le_refl _)) hm1)).mono ?_
    rintro e w2 ⟨rfl, o2⟩
    replace B_r := Bx.old B_r o2
    replace O := Old.trans O o2
    have zw2 := o2.size
    obtain ⟨q_r_0, q_r_1, q_r_2, f_r_0, f_r_1, f_r_2, q_r⟩ := B_r.all3
    go_wp2
    go_ret
    exact ⟨by rw [Hr.out]; try rfl, Below.trans (b := w2) O oldA⟩
  by_cases k0 : 0 < m1
  case neg =>
    have Hr := Lib.hid (rRatOk_no (b := b1) (n := n1) (f := f1) (m := m1) (g := g1) fun h => k0 h.2.2.1)
    have KB := Lib.hid kb
    have KN := Lib.hid kn
    clear kb kn
    have hz : ((m1 : Int) == 0) = true := by simp; omega
    have O : Old w (w.alloc (.cells #[.bool b1, .slice A1 n1 c1, .slice D1 m1 e1] 26)) := oldA
    have B_r : Bx (w.alloc (.cells #[.bool b1, .slice A1 n1 c1, .slice D1 m1 e1] 26)) (w.heap.size) #[.bool b1, .slice A1 n1 c1, .slice D1 m1 e1] := by have h := (Bx.new w #[.bool b1, .slice A1 n1 c1, .slice D1 m1 e1] 26); simpa using h
    have ze : w.heap.size + 1 ≤ (w.alloc (.cells #[.bool b1, .slice A1 n1 c1, .slice D1 m1 e1] 26)).heap.size := (by simp)
    go_enter Tryz.func28, Tryz.ntmps28
    go_wp2_with fail
    refine callsNamed ?_
    intro p1 hp
    have O' : Old w p1 := (by rw [hp]; exact Below.trans (b := (w.alloc (.cells #[.bool b1, .slice A1 n1 c1, .slice D1 m1 e1] 26))) O oldA)
    replace B_r : Bx p1 (w.heap.size) #[.bool b1, .slice A1 n1 c1, .slice D1 m1 e1] := (bxK B_r hp)
    have zp1 : (w.alloc (.cells #[.bool b1, .slice A1 n1 c1, .slice D1 m1 e1] 26)).heap.size ≤ p1.heap.size := (by rw [hp]; exact leA)
    clear hp O
    have O := O'
    clear O'
    refine (plain_to (by rw [rBigIntOk_yes KB.out]) (impl_BigIntOk b1 A1 n1 c1 l1 f1 _ (Row.below (B := w.heap.size) h1 O (Nat.le_refl _)) hn1)).mono ?_
    rintro e w1 ⟨rfl, o1⟩
    replace B_r := Bx.old B_r o1
    replace O := Old.trans O o1
    have zw1 := o1.size
    obtain ⟨q_r_0, q_r_1, q_r_2, f_r_0, f_r_1, f_r_2, q_r⟩ := B_r.all3
    go_wp2_with fail
    refine callsNamed ?_
    intro p2 hp
    clear q_r_0 q_r_1 q_r_2 f_r_0 f_r_1 f_r_2 q_r
    have O' : Old w p2 := (by rw [hp]; exact Below.trans (b := w1) O oldA)
    replace B_r : Bx p2 (w.heap.size) #[.bool b1, .slice A1 n1 c1, .slice D1 m1 e1] := (bxK B_r hp)
    have zp2 : w1.heap.size ≤ p2.heap.size := (by rw [hp]; exact leA)
    clear hp O
    have O := O'
    clear O'
    refine (plain_to (by rw [rNatOk_yes KN.out]) (impl_NatOk D1 m1 e1 u1 g1 _ (Row.below (B := w.heap.size) k1 O (Nat.le_refl _)) hm1)).mono ?_
    rintro e w2 ⟨rfl, o2⟩
    replace B_r := Bx.old B_r o2
    replace O := Old.trans O o2
    have zw2 := o2.size
    obtain ⟨q_r_0, q_r_1, q_r_2, f_r_0, f_r_1, f_r_2, q_r⟩ := B_r.all3
    go_wp2
    go_ret
    exact ⟨by rw [Hr.out]; try rfl, Below.trans (b := w2) O oldA⟩
  by_cases k24 : m1 ≤ 24
  case neg =>
    have Hr := Lib.hid (rRatOk_no (b := b1) (n := n1) (f := f1) (m := m1) (g := g1) fun h => k24 h.2.2.2.2.1)
    have KB := Lib.hid kb
    have KN := Lib.hid kn
    clear kb kn
    have hz : ((m1 : Int) == 0) = false := by simp; omega
    have hz1 : (24 : Int) < (m1 : Int) := by omega
    by_cases hz3 : (24 : Int) < (n1 : Int)
    case pos =>
      have O : Old w (w.alloc (.cells #[.bool b1, .slice A1 n1 c1, .slice D1 m1 e1] 26)) := oldA
      have B_r : Bx (w.alloc (.cells #[.bool b1, .slice A1 n1 c1, .slice D1 m1 e1] 26)) (w.heap.size) #[.bool b1, .slice A1 n1 c1, .slice D1 m1 e1] := by have h := (Bx.new w #[.bool b1, .slice A1 n1 c1, .slice D1 m1 e1] 26); simpa using h
      have ze : w.heap.size + 1 ≤ (w.alloc (.cells #[.bool b1, .slice A1 n1 c1, .slice D1 m1 e1] 26)).heap.size := (by simp)
      go_enter Tryz.func28, Tryz.ntmps28
      go_wp2_with fail
      refine callsNamed ?_
      intro p1 hp
      have O' : Old w p1 := (by rw [hp]; exact Below.trans (b := (w.alloc (.cells #[.bool b1, .slice A1 n1 c1, .slice D1 m1 e1] 26))) O oldA)
      replace B_r : Bx p1 (w.heap.size) #[.bool b1, .slice A1 n1 c1, .slice D1 m1 e1] := (bxK B_r hp)
      have zp1 : (w.alloc (.cells #[.bool b1, .slice A1 n1 c1, .slice D1 m1 e1] 26)).heap.size ≤ p1.heap.size := (by rw [hp]; exact leA)
      clear hp O
      have O := O'
      clear O'
      refine (plain_to (by rw [rBigIntOk_yes KB.out]) (impl_BigIntOk b1 A1 n1 c1 l1 f1 _ (Row.below (B := w.heap.size) h1 O (Nat.le_refl _)) hn1)).mono ?_
      rintro e w1 ⟨rfl, o1⟩
      replace B_r := Bx.old B_r o1
      replace O := Old.trans O o1
      have zw1 := o1.size
      obtain ⟨q_r_0, q_r_1, q_r_2, f_r_0, f_r_1, f_r_2, q_r⟩ := B_r.all3
      go_wp2_with fail
      refine callsNamed ?_
      intro p2 hp
      clear q_r_0 q_r_1 q_r_2 f_r_0 f_r_1 f_r_2 q_r
      have O' : Old w p2 := (by rw [hp]; exact Below.trans (b := w1) O oldA)
      replace B_r : Bx p2 (w.heap.size) #[.bool b1, .slice A1 n1 c1, .slice D1 m1 e1] := (bxK B_r hp)
      have zp2 : w1.heap.size ≤ p2.heap.size := (by rw [hp]; exact leA)
      clear hp O
      have O := O'
      clear O'
      refine (plain_to (by rw [rNatOk_yes KN.out]) (impl_NatOk D1 m1 e1 u1 g1 _ (Row.below (B := w.heap.size) k1 O (Nat.le_refl _)) hm1)).mono ?_
      rintro e w2 ⟨rfl, o2⟩
      replace B_r := Bx.old B_r o2
      replace O := Old.trans O o2
      have zw2 := o2.size
      obtain ⟨q_r_0, q_r_1, q_r_2, f_r_0, f_r_1, f_r_2, q_r⟩ := B_r.all3
      go_wp2
      go_ret
      exact ⟨by rw [Hr.out]; try rfl, Below.trans (b := w2) O oldA⟩
    have O : Old w (w.alloc (.cells #[.bool b1, .slice A1 n1 c1, .slice D1 m1 e1] 26)) := oldA
    have B_r : Bx (w.alloc (.cells #[.bool b1, .slice A1 n1 c1, .slice D1 m1 e1] 26)) (w.heap.size) #[.bool b1, .slice A1 n1 c1, .slice D1 m1 e1] := by have h := (Bx.new w #[.bool b1, .slice A1 n1 c1, .slice D1 m1 e1] 26); simpa using h
    have ze : w.heap.size + 1 ≤ (w.alloc (.cells #[.bool b1, .slice A1 n1 c1, .slice D1 m1 e1] 26)).heap.size := (by simp)
    go_enter Tryz.func28, Tryz.ntmps28
    go_wp2_with fail
    refine callsNamed ?_
    intro p1 hp
    have O' : Old w p1 := (by rw [hp]; exact Below.trans (b := (w.alloc (.cells #[.bool b1, .slice A1 n1 c1, .slice D1 m1 e1] 26))) O oldA)
    replace B_r : Bx p1 (w.heap.size) #[.bool b1, .slice A1 n1 c1, .slice D1 m1 e1] := (bxK B_r hp)
    have zp1 : (w.alloc (.cells #[.bool b1, .slice A1 n1 c1, .slice D1 m1 e1] 26)).heap.size ≤ p1.heap.size := (by rw [hp]; exact leA)
    clear hp O
    have O := O'
    clear O'
    refine (plain_to (by rw [rBigIntOk_yes KB.out]) (impl_BigIntOk b1 A1 n1 c1 l1 f1 _ (Row.below (B := w.heap.size) h1 O (Nat.le_refl _)) hn1)).mono ?_
    rintro e w1 ⟨rfl, o1⟩
    replace B_r := Bx.old B_r o1
    replace O := Old.trans O o1
    have zw1 := o1.size
    obtain ⟨q_r_0, q_r_1, q_r_2, f_r_0, f_r_1, f_r_2, q_r⟩ := B_r.all3
    go_wp2_with fail
    refine callsNamed ?_
    intro p2 hp
    clear q_r_0 q_r_1 q_r_2 f_r_0 f_r_1 f_r_2 q_r
    have O' : Old w p2 := (by rw [hp]; exact Below.trans (b := w1) O oldA)
    replace B_r : Bx p2 (w.heap.size) #[.bool b1, .slice A1 n1 c1, .slice D1 m1 e1] := (bxK B_r hp)
    have zp2 : w1.heap.size ≤ p2.heap.size := (by rw [hp]; exact leA)
    clear hp O
    have O := O'
    clear O'
    refine (plain_to (by rw [rNatOk_yes KN.out]) (impl_NatOk D1 m1 e1 u1 g1 _ (Row.below (B := w.heap.size) k1 O (Nat.le_refl _)) hm1)).mono ?_
    rintro e w2 ⟨rfl, o2⟩
    replace B_r := Bx.old B_r o2
    replace O := Old.trans O o2
    have zw2 := o2.size
    obtain ⟨q_r_0, q_r_1, q_r_2, f_r_0, f_r_1, f_r_2, q_r⟩ := B_r.all3
    go_wp2
    go_ret
    exact ⟨by rw [Hr.out]; try rfl, Below.trans (b := w2) O oldA⟩
  by_cases j24 : n1 ≤ 24
  case neg =>
    have Hr := Lib.hid (rRatOk_no (b := b1) (n := n1) (f := f1) (m := m1) (g := g1) fun h => j24 h.2.2.2.1)
    have KB := Lib.hid kb
    have KN := Lib.hid kn
    clear kb kn
    have hz : ((m1 : Int) == 0) = false := by simp; omega
    have hz1 : ¬ (24 : Int) < (m1 : Int) := by omega
    have hz2 : (24 : Int) < (n1 : Int) := by omega
    have O : Old w (w.alloc (.cells #[.bool b1, .slice A1 n1 c1, .slice D1 m1 e1] 26)) := oldA
    have B_r : Bx (w.alloc (.cells #[.bool b1, .slice A1 n1 c1, .slice D1 m1 e1] 26)) (w.heap.size) #[.bool b1, .slice A1 n1 c1, .slice D1 m1 e1] := by have h := (Bx.new w #[.bool b1, .slice A1 n1 c1, .slice D1 m1 e1] 26); simpa using h
    have ze : w.heap.size + 1 ≤ (w.alloc (.cells #[.bool b1, .slice A1 n1 c1, .slice D1 m1 e1] 26)).heap.size := (by simp)
    go_enter Tryz.func28, Tryz.ntmps28
    go_wp2_with fail
    refine callsNamed ?_
    intro p1 hp
    have O' : Old w p1 := (by rw [hp]; exact Below.trans (b := (w.alloc (.cells #[.bool b1, .slice A1 n1 c1, .slice D1 m1 e1] 26))) O oldA)
    replace B_r : Bx p1 (w.heap.size) #[.bool b1, .slice A1 n1 c1, .slice D1 m1 e1] := (bxK B_r hp)
    have zp1 : (w.alloc (.cells #[.bool b1, .slice A1 n1 c1, .slice D1 m1 e1] 26)).heap.size ≤ p1.heap.size := (by rw [hp]; exact leA)
    clear hp O
    have O := O'
    clear O'
    refine (plain_to (by rw [rBigIntOk_yes KB.out]) (impl_BigIntOk b1 A1 n1 c1 l1 f1 _ (Row.below (B := w.heap.size) h1 O (Nat.le_refl _)) hn1)).mono ?_
    rintro e w1 ⟨rfl, o1⟩
    replace B_r := Bx.old B_r o1
    replace O := Old.trans O o1
    have zw1 := o1.size
    obtain ⟨q_r_0, q_r_1, q_r_2, f_r_0, f_r_1, f_r_2, q_r⟩ := B_r.all3
    go_wp2_with fail
    refine callsNamed ?_
    intro p2 hp
    clear q_r_0 q_r_1 q_r_2 f_r_0 f_r_1 f_r_2 q_r
    have O' : Old w p2 := (by rw [hp]; exact Below.trans (b := w1) O oldA)
    replace B_r : Bx p2 (w.heap.size) #[.bool b1, .slice A1 n1 c1, .slice D1 m1 e1] := (bxK B_r hp)
    have zp2 : w1.heap.size ≤ p2.heap.size := (by rw [hp]; exact leA)
    clear hp O
    have O := O'
    clear O'
    refine (plain_to (by rw [rNatOk_yes KN.out]) (impl_NatOk D1 m1 e1 u1 g1 _ (Row.below (B := w.heap.size) k1 O (Nat.le_refl _)) hm1)).mono ?_
    rintro e w2 ⟨rfl, o2⟩
    replace B_r := Bx.old B_r o2
    replace O := Old.trans O o2
    have zw2 := o2.size
    obtain ⟨q_r_0, q_r_1, q_r_2, f_r_0, f_r_1, f_r_2, q_r⟩ := B_r.all3
    go_wp2
    go_ret
    exact ⟨by rw [Hr.out]; try rfl, Below.trans (b := w2) O oldA⟩
  have HK : Hid (rRatOk b1 n1 f1 m1 g1 = decide (Nat.gcd (natX n1 f1) (natX m1 g1) = 1)) := Lib.hid (by
    by_cases hg : Nat.gcd (natX n1 f1) (natX m1 g1) = 1
    · rw [rRatOk_yes ⟨kb, kn, k0, j24, k24, hg⟩, decide_eq_true hg]
    · rw [rRatOk_no fun h => hg h.2.2.2.2.2, decide_eq_false hg])
  have hz : ((m1 : Int) == 0) = false := by simp; omega
  have hz1 : ¬ (24 : Int) < (m1 : Int) := by omega
  have hz2 : ¬ (24 : Int) < (n1 : Int) := by omega
  have KB := Lib.hid kb
  have KN := Lib.hid kn
  obtain ⟨x, e1, hx, hxv, s1⟩ := row_nat h1 kb.1
  obtain ⟨d, e2, hd, hdv, s2⟩ := row_nat k1 kn
  rw [hxv, hdv] at HK
  clear kb kn hxv hdv
  have hx4 : len x ≤ 24 := by omega
  have hd4 : len d ≤ 24 := by omega
  subst e1 e2
  by_cases hd1 : d = 1
  case pos =>
    have Hr : Hid (rRatOk b1 (len x) f1 (len d) g1 = true) := Lib.hid (by rw [HK.out]; exact decide_eq_true (by rw [hd1, Nat.gcd_one_right]))
    have HD := Lib.hid hd1
    clear hd1
    have O : Old w (w.alloc (.cells #[.bool b1, .slice A1 (len x) c1, .slice D1 (len d) e1] 26)) := oldA
    have B_r : Bx (w.alloc (.cells #[.bool b1, .slice A1 (len x) c1, .slice D1 (len d) e1] 26)) (w.heap.size) #[.bool b1, .slice A1 (len x) c1, .slice D1 (len d) e1] := by have h := (Bx.new w #[.bool b1, .slice A1 (len x) c1, .slice D1 (len d) e1] 26); simpa using h
    have ze : w.heap.size + 1 ≤ (w.alloc (.cells #[.bool b1, .slice A1 (len x) c1, .slice D1 (len d) e1] 26)).heap.size := (by simp)
    go_enter Tryz.func28, Tryz.ntmps28
    go_wp2_with fail
    refine callsNamed ?_
    intro p1 hp
    have O' : Old w p1 := (by rw [hp]; exact Below.trans (b := (w.alloc (.cells #[.bool b1, .slice A1 (len x) c1, .slice D1 (len d) e1] 26))) O oldA)
    replace B_r : Bx p1 (w.heap.size) #[.bool b1, .slice A1 (len x) c1, .slice D1 (len d) e1] := (bxK B_r hp)
    have zp1 : (w.alloc (.cells #[.bool b1, .slice A1 (len x) c1, .slice D1 (len d) e1] 26)).heap.size ≤ p1.heap.size := (by rw [hp]; exact leA)
    clear hp O
    have O := O'
    clear O'
    refine (plain_to (by rw [rBigIntOk_yes KB.out]) (impl_BigIntOk b1 A1 _ c1 l1 f1 _ (Row.below (B := w.heap.size) h1 O (Nat.le_refl _)) hn1)).mono ?_
    rintro e w1 ⟨rfl, o1⟩
    replace B_r := Bx.old B_r o1
    replace O := Old.trans O o1
    have zw1 := o1.size
    obtain ⟨q_r_0, q_r_1, q_r_2, f_r_0, f_r_1, f_r_2, q_r⟩ := B_r.all3
    go_wp2_with fail
    refine callsNamed ?_
    intro p2 hp
    clear q_r_0 q_r_1 q_r_2 f_r_0 f_r_1 f_r_2 q_r
    have O' : Old w p2 := (by rw [hp]; exact Below.trans (b := w1) O oldA)
    replace B_r : Bx p2 (w.heap.size) #[.bool b1, .slice A1 (len x) c1, .slice D1 (len d) e1] := (bxK B_r hp)
    have zp2 : w1.heap.size ≤ p2.heap.size := (by rw [hp]; exact leA)
    clear hp O
    have O := O'
    clear O'
    refine (plain_to (by rw [rNatOk_yes KN.out]) (impl_NatOk D1 _ e1 u1 g1 _ (Row.below (B := w.heap.size) k1 O (Nat.le_refl _)) hm1)).mono ?_
    rintro e w2 ⟨rfl, o2⟩
    replace B_r := Bx.old B_r o2
    replace O := Old.trans O o2
    have zw2 := o2.size
    obtain ⟨q_r_0, q_r_1, q_r_2, f_r_0, f_r_1, f_r_2, q_r⟩ := B_r.all3
    go_wp2_with fail
    refine callsNamed ?_
    intro p3 hp
    clear q_r_0 q_r_1 q_r_2 f_r_0 f_r_1 f_r_2 q_r
    have O' : Old w p3 := (by rw [hp]; exact Below.trans (b := w2) O oldA)
    replace B_r : Bx p3 (w.heap.size) #[.bool b1, .slice A1 (len x) c1, .slice D1 (len d) e1] := (bxK B_r hp)
    have zp3 : w2.heap.size ≤ p3.heap.size := (by rw [hp]; exact leA)
    clear hp O
    have O := O'
    clear O'
    refine (plain_to (by rw [decide_eq_true HD.out]) (isOne_any D1 e1 d u1 _ (Row.below (B := w.heap.size) s2 O (Nat.le_refl _)))).mono ?_
    rintro e w3 ⟨rfl, o3⟩
    replace B_r := Bx.old B_r o3
    replace O := Old.trans O o3
    have zw3 := o3.size
    obtain ⟨q_r_0, q_r_1, q_r_2, f_r_0, f_r_1, f_r_2, q_r⟩ := B_r.all3
    go_wp2
    go_ret
    exact ⟨by rw [Hr.out]; try rfl, Below.trans (b := w3) O oldA⟩
  have HD := Lib.hid hd1
  clear hd1
  have O : Old w (w.alloc (.cells #[.bool b1, .slice A1 (len x) c1, .slice D1 (len d) e1] 26)) := oldA
  have B_r : Bx (w.alloc (.cells #[.bool b1, .slice A1 (len x) c1, .slice D1 (len d) e1] 26)) (w.heap.size) #[.bool b1, .slice A1 (len x) c1, .slice D1 (len d) e1] := by have h := (Bx.new w #[.bool b1, .slice A1 (len x) c1, .slice D1 (len d) e1] 26); simpa using h
  have ze : w.heap.size + 1 ≤ (w.alloc (.cells #[.bool b1, .slice A1 (len x) c1, .slice D1 (len d) e1] 26)).heap.size := (by simp)
  go_enter Tryz.func28, Tryz.ntmps28
  go_wp2_with fail
  refine callsNamed ?_
  intro p1 hp
  have O' : Old w p1 := (by rw [hp]; exact Below.trans (b := (w.alloc (.cells #[.bool b1, .slice A1 (len x) c1, .slice D1 (len d) e1] 26))) O oldA)
  replace B_r : Bx p1 (w.heap.size) #[.bool b1, .slice A1 (len x) c1, .slice D1 (len d) e1] := (bxK B_r hp)
  have zp1 : (w.alloc (.cells #[.bool b1, .slice A1 (len x) c1, .slice D1 (len d) e1] 26)).heap.size ≤ p1.heap.size := (by rw [hp]; exact leA)
  clear hp O
  have O := O'
  clear O'
  refine (plain_to (by rw [rBigIntOk_yes KB.out]) (impl_BigIntOk b1 A1 _ c1 l1 f1 _ (Row.below (B := w.heap.size) h1 O (Nat.le_refl _)) hn1)).mono ?_
  rintro e w1 ⟨rfl, o1⟩
  replace B_r := Bx.old B_r o1
  replace O := Old.trans O o1
  have zw1 := o1.size
  obtain ⟨q_r_0, q_r_1, q_r_2, f_r_0, f_r_1, f_r_2, q_r⟩ := B_r.all3
  go_wp2_with fail
  refine callsNamed ?_
  intro p2 hp
  clear q_r_0 q_r_1 q_r_2 f_r_0 f_r_1 f_r_2 q_r
  have O' : Old w p2 := (by rw [hp]; exact Below.trans (b := w1) O oldA)
  replace B_r : Bx p2 (w.heap.size) #[.bool b1, .slice A1 (len x) c1, .slice D1 (len d) e1] := (bxK B_r hp)
  have zp2 : w1.heap.size ≤ p2.heap.size := (by rw [hp]; exact leA)
  clear hp O
  have O := O'
  clear O'
  refine (plain_to (by rw [rNatOk_yes KN.out]) (impl_NatOk D1 _ e1 u1 g1 _ (Row.below (B := w.heap.size) k1 O (Nat.le_refl _)) hm1)).mono ?_
  rintro e w2 ⟨rfl, o2⟩
  replace B_r := Bx.old B_r o2
  replace O := Old.trans O o2
  have zw2 := o2.size
  obtain ⟨q_r_0, q_r_1, q_r_2, f_r_0, f_r_1, f_r_2, q_r⟩ := B_r.all3
  go_wp2_with fail
  refine callsNamed ?_
  intro p3 hp
  clear q_r_0 q_r_1 q_r_2 f_r_0 f_r_1 f_r_2 q_r
  have O' : Old w p3 := (by rw [hp]; exact Below.trans (b := w2) O oldA)
  replace B_r : Bx p3 (w.heap.size) #[.bool b1, .slice A1 (len x) c1, .slice D1 (len d) e1] := (bxK B_r hp)
  have zp3 : w2.heap.size ≤ p3.heap.size := (by rw [hp]; exact leA)
  clear hp O
  have O := O'
  clear O'
  refine (plain_to (by rw [decide_eq_false HD.out]) (isOne_any D1 e1 d u1 _ (Row.below (B := w.heap.size) s2 O (Nat.le_refl _)))).mono ?_
  rintro e w3 ⟨rfl, o3⟩
  replace B_r := Bx.old B_r o3
  replace O := Old.trans O o3
  have zw3 := o3.size
  obtain ⟨q_r_0, q_r_1, q_r_2, f_r_0, f_r_1, f_r_2, q_r⟩ := B_r.all3
  go_wp2_with fail
  refine callsNamed ?_
  intro p4 hp
  clear q_r_0 q_r_1 q_r_2 f_r_0 f_r_1 f_r_2 q_r
  have O' : Old w p4 := (by rw [hp]; exact Below.trans (b := w3) O oldA)
  replace B_r : Bx p4 (w.heap.size) #[.bool b1, .slice A1 (len x) c1, .slice D1 (len d) e1] := (bxK B_r hp)
  have zp4 : w3.heap.size ≤ p4.heap.size := (by rw [hp]; exact leA)
  clear hp O
  have O := O'
  clear O'
  refine (natGcd_any A1 D1 c1 e1 x d l1 u1 _ (Row.below (B := w.heap.size) s1 O (Nat.le_refl _)) (Row.below (B := w.heap.size) s2 O (Nat.le_refl _)) (by omega) (by omega)).mono ?_
  rintro e w4 ⟨⟨G, cG, rfl, r1⟩, o4⟩
  replace B_r := Bx.old B_r o4
  replace O := Old.trans O o4
  have zw4 := o4.size
  have lim_r1 := Row.lim r1
  obtain ⟨q_r_0, q_r_1, q_r_2, f_r_0, f_r_1, f_r_2, q_r⟩ := B_r.all3
  go_wp2_with fail
  refine callsNamed ?_
  intro p5 hp
  clear q_r_0 q_r_1 q_r_2 f_r_0 f_r_1 f_r_2 q_r
  have O' : Old w p5 := (by rw [hp]; exact Below.trans (b := w4) O oldA)
  replace B_r : Bx p5 (w.heap.size) #[.bool b1, .slice A1 (len x) c1, .slice D1 (len d) e1] := (bxK B_r hp)
  replace r1 := rowK r1 hp
  have zp5 : w4.heap.size ≤ p5.heap.size := (by rw [hp]; exact leA)
  clear hp O
  have O := O'
  clear O'
  refine (isOne_any G cG (Nat.gcd x d) _ _ r1).mono ?_
  rintro e w5 ⟨rfl, o5⟩
  replace B_r := Bx.old B_r o5
  replace r1 := Row.below r1 o5 (Nat.le_refl _)
  replace O := Old.trans O o5
  have zw5 := o5.size
  obtain ⟨q_r_0, q_r_1, q_r_2, f_r_0, f_r_1, f_r_2, q_r⟩ := B_r.all3
  go_wp2
  go_ret
  exact ⟨by rw [HK.out]; try rfl, Below.trans (b := w5) O oldA⟩
theorem impl_RatOk_yes (z1 : Int) (d1 : Nat) (A1 D1 : Option Addr) (c1 e1 l1 m1 : Nat) (w : World) (h1 : NatS w l1 A1 c1 (magZ z1)) (k1 : NatS w m1 D1 e1 d1) (n1 : normF (z1, d1)) (p1 : 0 < d1) : Calls Tryz.prog 28 #[.agg #[.bool (sgnZ z1), .slice A1 (len (magZ z1)) c1, .slice D1 (len d1) e1]] w fun e w' => e = .returned (.bool true) ∧ Old w w' :=
  (impl_RatOk (sgnZ z1) A1 _ c1 l1 _ D1 _ e1 m1 _ w h1 k1 (by have := norm_len n1; simp only at this; omega) (by have := norm_len n1; simp only at this; omega)).mono fun e w' he => ⟨by rw [he.1, rRatOk_yes ((okR_val n1).2 p1)], he.2⟩
theorem impl_RatOk_no (b1 : Bool) (A1 : Option Addr) (n1 c1 l1 : Nat) (f1 : Nat → Int) (D1 : Option Addr) (m1 e1 u1 : Nat) (g1 : Nat → Int) (w : World) (h1 : Row w l1 A1 n1 c1 f1) (k1 : Row w u1 D1 m1 e1 g1) (hn1 : n1 ≤ 1048576) (hm1 : m1 ≤ 1048576) (q1 : ¬ okR b1 n1 f1 m1 g1) : Calls Tryz.prog 28 #[.agg #[.bool b1, .slice A1 n1 c1, .slice D1 m1 e1]] w fun e w' => e = .returned (.bool false) ∧ Old w w' :=
  (impl_RatOk b1 A1 n1 c1 l1 f1 D1 m1 e1 u1 g1 w h1 k1 hn1 hm1).mono fun e w' he => ⟨by rw [he.1, rRatOk_no q1], he.2⟩
set_option maxRecDepth 100000 in
set_option maxHeartbeats 1000000 in
theorem isGood_any (b1 : Bool) (A1 D1 : Option Addr) (n1 c1 m1 e1 : Nat) (w : World) :
    Calls Tryz.prog 71 #[.agg #[.bool b1, .slice A1 n1 c1, .slice D1 m1 e1]] w fun e w' => e = .returned (.bool (decide (0 < m1))) ∧ Old w w' := by
  go_enter Tryz.func71, Tryz.ntmps71
  go_wp2
  go_ret
  exact ⟨rfl, oldA⟩
theorem isGood_yes (b1 : Bool) (A1 D1 : Option Addr) (n1 c1 d e1 : Nat) (w : World) (h : 0 < d) :
    Calls Tryz.prog 71 #[.agg #[.bool b1, .slice A1 n1 c1, .slice D1 (len d) e1]] w fun e w' => e = .returned (.bool true) ∧ Old w w' := plain_to (by rw [decide_eq_true (len_pos h)]) (isGood_any b1 A1 D1 n1 c1 (len d) e1 w)
theorem isGood_no (b1 : Bool) (A1 D1 : Option Addr) (n1 c1 d e1 : Nat) (w : World) (h : ¬ 0 < d) :
    Calls Tryz.prog 71 #[.agg #[.bool b1, .slice A1 n1 c1, .slice D1 (len d) e1]] w fun e w' => e = .returned (.bool false) ∧ Old w w' := plain_to (by rw [decide_eq_false (fun k => h (pos_len k))]) (isGood_any b1 A1 D1 n1 c1 (len d) e1 w)
end Go.Proofs.YtgchbbjhdeobpaaGreatDoor

namespace Go.Proofs.YtgchbbjhdeobpaaGreatDoor
set_option linter.unusedVariables false
open Go.RowKit Num
attribute [local go_sem ↓] Go.wp_at_zero Go.wp_at_succ
set_option maxRecDepth 100000 in
set_option maxHeartbeats 1000000 in
theorem l04Low_zero (b : Bool) (A1 A2 : Option Addr) (c1 c2 x y l1 l2 : Nat) (w : World) (h1 : NatS w l1 A1 c1 x) (h2 : NatS w l2 A2 c2 y) (hx : len x ≤ 100) (hy : len y ≤ 100) (hp : y = 0) :
    Calls Tryz.prog 119 #[.bool b, .slice A1 (len x) c1, .slice A2 (len y) c2] w fun e w' => RetR e w' w.heap.size ((0, 0)) ∧ Old w w' := by
  have hy0 : (((len y : Nat) : Int) == 0) = true := by rw [hp, len_zero]; rfl
  clear hp
  have O : Old w (w.alloc (.cells #[.bool false, .slice none 0 0, .slice none 0 0] 26)) := oldA
  have B_r : Bx (w.alloc (.cells #[.bool false, .slice none 0 0, .slice none 0 0] 26)) (w.heap.size) #[.bool false, .slice none 0 0, .slice none 0 0] := by have h := (Bx.new w #[.bool false, .slice none 0 0, .slice none 0 0] 26); simpa using h
  have ze : w.heap.size + 1 ≤ (w.alloc (.cells #[.bool false, .slice none 0 0, .slice none 0 0] 26)).heap.size := (by simp)
  go_enter Tryz.func119, Tryz.ntmps119
  go_wp2_with fail
  refine callsNamed ?_
  intro p1 hp
  have O' : Old w p1 := (by rw [hp]; exact Below.trans (b := (w.alloc (.cells #[.bool false, .slice none 0 0, .slice none 0 0] 26))) O oldA)
  replace B_r : Bx p1 (w.heap.size) #[.bool false, .slice none 0 0, .slice none 0 0] := (bxK B_r hp)
  have zp1 : (w.alloc (.cells #[.bool false, .slice none 0 0, .slice none 0 0] 26)).heap.size ≤ p1.heap.size := (by rw [hp]; exact leA)
  clear hp O
  have O := O'
  clear O'
  refine (l02Trim_any A1 _ c1 x l1 _ (Row.below (B := w.heap.size) h1 O (Nat.le_refl _)) (Nat.le_refl _) (by omega)).mono ?_
  rintro e w1 ⟨rfl, o1⟩
  replace B_r := Bx.old B_r o1
  replace O := Old.trans O o1
  have zw1 := o1.size
  obtain ⟨q_r_0, q_r_1, q_r_2, f_r_0, f_r_1, f_r_2, q_r⟩ := B_r.all3
  go_wp2_with fail
  refine callsNamed ?_
  intro p2 hp
  clear q_r_0 q_r_1 q_r_2 f_r_0 f_r_1 f_r_2 q_r
  have O' : Old w p2 := (by rw [hp]; exact Below.trans (b := w1) O oldA)
  replace B_r : Bx p2 (w.heap.size) #[.bool false, .slice none 0 0, .slice none 0 0] := (bxK B_r hp)
  have zp2 : w1.heap.size ≤ p2.heap.size := (by rw [hp]; exact leA)
  clear hp O
  have O := O'
  clear O'
  refine (l02Trim_any A2 _ c2 y l2 _ (Row.below (B := w.heap.size) h2 O (Nat.le_refl _)) (Nat.le_refl _) (by omega)).mono ?_
  rintro e w2 ⟨rfl, o2⟩
  replace B_r := Bx.old B_r o2
  replace O := Old.trans O o2
  have zw2 := o2.size
  obtain ⟨q_r_0, q_r_1, q_r_2, f_r_0, f_r_1, f_r_2, q_r⟩ := B_r.all3
  go_wp2
  refine bodyPost_ret (v := .agg #[.bool false, .slice none 0 0, .slice none 0 0]) (by simp [results, Tryz.results119, go_sem, q_r_0, q_r_1, q_r_2]) rfl ⟨RetR.zero rfl, Below.trans (b := w2) O oldA⟩
set_option maxRecDepth 100000 in
set_option maxHeartbeats 1000000 in
theorem l04Low_one_fit (b : Bool) (A1 A2 : Option Addr) (c1 c2 x y l1 l2 : Nat) (w : World) (h1 : NatS w l1 A1 c1 x) (h2 : NatS w l2 A2 c2 y) (hx : len x ≤ 100) (hy : len y ≤ 100) (hp : y = 1) (hf1 : len (x) ≤ 24) :
    Calls Tryz.prog 119 #[.bool b, .slice A1 (len x) c1, .slice A2 (len y) c2] w fun e w' => RetR e w' w.heap.size (mkF (signed b x) y) ∧ Old w w' := by
  have HD := Lib.hid hp
  have hp0 : 0 < y := by omega
  have hy0 : (((len y : Nat) : Int) == 0) = false := by have := len_pos hp0; simp; omega
  clear hp hp0
  have hf2 : len y ≤ 24 := by rw [HD.out, len_1]; omega
  have t1 : ¬ (24 : Int) < ((len x : Nat) : Int) := by omega
  have t2 : ¬ (24 : Int) < ((len y : Nat) : Int) := by omega
  obtain ⟨z, hz⟩ : ∃ z, z = signed b x := ⟨_, rfl⟩
  have Hz : Hid (signed b x = z) := Lib.hid hz.symm
  have Hv : Hid (mkF (signed b x) y = (z, y)) := Lib.hid (by rw [HD.out, mkF_signed Nat.one_pos (by rw [Nat.gcd_one_right, Nat.div_one]; exact hf1) (by rw [Nat.gcd_one_right, Nat.div_one, len_1]; omega), Nat.gcd_one_right, Nat.div_one, Nat.div_one, Hz.out])
  clear hz
  have O : Old w (w.alloc (.cells #[.bool false, .slice none 0 0, .slice none 0 0] 26)) := oldA
  have B_r : Bx (w.alloc (.cells #[.bool false, .slice none 0 0, .slice none 0 0] 26)) (w.heap.size) #[.bool false, .slice none 0 0, .slice none 0 0] := by have h := (Bx.new w #[.bool false, .slice none 0 0, .slice none 0 0] 26); simpa using h
  have ze : w.heap.size + 1 ≤ (w.alloc (.cells #[.bool false, .slice none 0 0, .slice none 0 0] 26)).heap.size := (by simp)
  go_enter Tryz.func119, Tryz.ntmps119
  go_wp2_with fail
  refine callsNamed ?_
  intro p1 hp
  have O' : Old w p1 := (by rw [hp]; exact Below.trans (b := (w.alloc (.cells #[.bool false, .slice none 0 0, .slice none 0 0] 26))) O oldA)
  replace B_r : Bx p1 (w.heap.size) #[.bool false, .slice none 0 0, .slice none 0 0] := (bxK B_r hp)
  have zp1 : (w.alloc (.cells #[.bool false, .slice none 0 0, .slice none 0 0] 26)).heap.size ≤ p1.heap.size := (by rw [hp]; exact leA)
  clear hp O
  have O := O'
  clear O'
  refine (l02Trim_any A1 _ c1 x l1 _ (Row.below (B := w.heap.size) h1 O (Nat.le_refl _)) (Nat.le_refl _) (by omega)).mono ?_
  rintro e w1 ⟨rfl, o1⟩
  replace B_r := Bx.old B_r o1
  replace O := Old.trans O o1
  have zw1 := o1.size
  obtain ⟨q_r_0, q_r_1, q_r_2, f_r_0, f_r_1, f_r_2, q_r⟩ := B_r.all3
  go_wp2_with fail
  refine callsNamed ?_
  intro p2 hp
  clear q_r_0 q_r_1 q_r_2 f_r_0 f_r_1 f_r_2 q_r
  have O' : Old w p2 := (by rw [hp]; exact Below.trans (b := w1) O oldA)
  replace B_r : Bx p2 (w.heap.size) #[.bool false, .slice none 0 0, .slice none 0 0] := (bxK B_r hp)
  have zp2 : w1.heap.size ≤ p2.heap.size := (by rw [hp]; exact leA)
  clear hp O
  have O := O'
  clear O'
  refine (l02Trim_any A2 _ c2 y l2 _ (Row.below (B := w.heap.size) h2 O (Nat.le_refl _)) (Nat.le_refl _) (by omega)).mono ?_
  rintro e w2 ⟨rfl, o2⟩
  replace B_r := Bx.old B_r o2
  replace O := Old.trans O o2
  have zw2 := o2.size
  obtain ⟨q_r_0, q_r_1, q_r_2, f_r_0, f_r_1, f_r_2, q_r⟩ := B_r.all3
  go_wp2_with fail
  refine callsNamed ?_
  intro p3 hp
  clear q_r_0 q_r_1 q_r_2 f_r_0 f_r_1 f_r_2 q_r
  have O' : Old w p3 := (by rw [hp]; exact Below.trans (b := w2) O oldA)
  replace B_r : Bx p3 (w.heap.size) #[.bool false, .slice none 0 0, .slice none 0 0] := (bxK B_r hp)
  have zp3 : w2.heap.size ≤ p3.heap.size := (by rw [hp]; exact leA)
  clear hp O
  have O := O'
  clear O'
  refine (plain_to (by rw [decide_eq_true HD.out]) (l04One_any A2 c2 y l2 _ (Row.below (B := w.heap.size) h2 O (Nat.le_refl _)))).mono ?_
  rintro e w3 ⟨rfl, o3⟩
  replace B_r := Bx.old B_r o3
  replace O := Old.trans O o3
  have zw3 := o3.size
  obtain ⟨q_r_0, q_r_1, q_r_2, f_r_0, f_r_1, f_r_2, q_r⟩ := B_r.all3
  go_wp2_with fail
  refine callsNamed ?_
  intro p4 hp
  clear q_r_0 q_r_1 q_r_2 f_r_0 f_r_1 f_r_2 q_r
  have O' : Old w p4 := (by rw [hp]; exact Below.trans (b := w3) O oldA)
  replace B_r : Bx p4 (w.heap.size) #[.bool false, .slice none 0 0, .slice none 0 0] := (bxK B_r hp)
  have zp4 : w3.heap.size ≤ p4.heap.size := (by rw [hp]; exact leA)
  clear hp O
  have O := O'
  clear O'
  refine (retB_to Hz.out (l03Make_fit b A1 c1 x _ _ (Row.below (B := w.heap.size) h1 O (Nat.le_refl _)) (by omega))).mono ?_
  rintro e w4 ⟨⟨A5, c5, rfl, r5⟩, o4⟩
  replace B_r := Bx.old B_r o4
  replace O := Old.trans O o4
  have zw4 := o4.size
  replace r5 := Row.more (lo' := p4.heap.size) r5 leA
  have lim_r5 := Row.lim r5
  obtain ⟨q_r_0, q_r_1, q_r_2, f_r_0, f_r_1, f_r_2, q_r⟩ := B_r.all3
  go_wp2_with (at_builtin; refine wpList_clone rfl (.tmp 51) (.tmp 52) rfl (base := w4.heap.size) (f := digI y) rfl (fresh_own (Nat.le_refl _)) rfl (Row.below (B := w4.heap.size) (Row.below (B := w.heap.size) h2 O (Nat.le_refl _)) oldA (Nat.le_refl _)) (by omega) (by simp) ?_; intro A6 c6 w5 r6 o5; clear q_r_0 q_r_1 q_r_2 f_r_0 f_r_1 f_r_2 q_r; replace o5 : Old w4 w5 := Below.trans (b := _) oldA o5; replace B_r := Bx.old B_r o5; replace r5 := Row.below r5 o5 (Nat.le_refl _); replace O := Old.trans O o5; have zw5 := o5.size; have lim_r6 := Row.lim r6; obtain ⟨q_r_0, q_r_1, q_r_2, f_r_0, f_r_1, f_r_2, q_r⟩ := B_r.all3)
  have AP := Apart.of lim_r5 r6 (by omega)
  have AP' := Lib.hid AP
  clear AP
  go_wp2
  refine bodyPost_ret (v := .agg #[.bool (sgnZ z), .slice A5 (len (magZ z)) c5, .slice A6 (len y) c6]) (by simp [results, Tryz.results119, go_sem, q_r_0, q_r_1, q_r_2]) rfl ⟨⟨z, y, A5, c5, A6, c6, Hv.out, rfl, ?_, ?_, AP'.out⟩, ?_⟩
  · refine Row.more (lo := p4.heap.size) ?_ leA
    repeat' (first | exact r5 | refine Row.far_set ?_ (by first | (simp <;> done) | (simp; omega) | omega) _)
  · refine Row.more (lo := w4.heap.size) ?_ leA
    repeat' (first | exact r6 | refine Row.far_set ?_ (by first | (simp <;> done) | (simp; omega) | omega) _)
  · exact Below.trans (b := w5) O oldA
set_option maxRecDepth 100000 in
set_option maxHeartbeats 1000000 in
theorem l04Low_one_longx (b : Bool) (A1 A2 : Option Addr) (c1 c2 x y l1 l2 : Nat) (w : World) (h1 : NatS w l1 A1 c1 x) (h2 : NatS w l2 A2 c2 y) (hx : len x ≤ 100) (hy : len y ≤ 100) (hp : y = 1) (hf1 : ¬ len (x) ≤ 24) :
    Calls Tryz.prog 119 #[.bool b, .slice A1 (len x) c1, .slice A2 (len y) c2] w fun e w' => RetR e w' w.heap.size ((0, 0)) ∧ Old w w' := by
  have HD := Lib.hid hp
  have hp0 : 0 < y := by omega
  have hy0 : (((len y : Nat) : Int) == 0) = false := by have := len_pos hp0; simp; omega
  clear hp hp0
  have hf2 : len y ≤ 24 := by rw [HD.out, len_1]; omega
  have t1 : (24 : Int) < ((len x : Nat) : Int) := by omega
  have O : Old w (w.alloc (.cells #[.bool false, .slice none 0 0, .slice none 0 0] 26)) := oldA
  have B_r : Bx (w.alloc (.cells #[.bool false, .slice none 0 0, .slice none 0 0] 26)) (w.heap.size) #[.bool false, .slice none 0 0, .slice none 0 0] := by have h := (Bx.new w #[.bool false, .slice none 0 0, .slice none 0 0] 26); simpa using h
  have ze : w.heap.size + 1 ≤ (w.alloc (.cells #[.bool false, .slice none 0 0, .slice none 0 0] 26)).heap.size := (by simp)
  go_enter Tryz.func119, Tryz.ntmps119
  go_wp2_with fail
  refine callsNamed ?_
  intro p1 hp
  have O' : Old w p1 := (by rw [hp]; exact Below.trans (b := (w.alloc (.cells #[.bool false, .slice none 0 0, .slice none 0 0] 26))) O oldA)
  replace B_r : Bx p1 (w.heap.size) #[.bool false, .slice none 0 0, .slice none 0 0] := (bxK B_r hp)
  have zp1 : (w.alloc (.cells #[.bool false, .slice none 0 0, .slice none 0 0] 26)).heap.size ≤ p1.heap.size := (by rw [hp]; exact leA)
  clear hp O
  have O := O'
  clear O'
  refine (l02Trim_any A1 _ c1 x l1 _ (Row.below (B := w.heap.size) h1 O (Nat.le_refl _)) (Nat.le_refl _) (by omega)).mono ?_
  rintro e w1 ⟨rfl, o1⟩
  replace B_r := Bx.old B_r o1
  replace O := Old.trans O o1
  have zw1 := o1.size
  obtain ⟨q_r_0, q_r_1, q_r_2, f_r_0, f_r_1, f_r_2, q_r⟩ := B_r.all3
  go_wp2_with fail
  refine callsNamed ?_
  intro p2 hp
  clear q_r_0 q_r_1 q_r_2 f_r_0 f_r_1 f_r_2 q_r
  have O' : Old w p2 := (by rw [hp]; exact Below.trans (b := w1) O oldA)
  replace B_r : Bx p2 (w.heap.size) #[.bool false, .slice none 0 0, .slice none 0 0] := (bxK B_r hp)
  have zp2 : w1.heap.size ≤ p2.heap.size := (by rw [hp]; exact leA)
  clear hp O
  have O := O'
  clear O'
  refine (l02Trim_any A2 _ c2 y l2 _ (Row.below (B := w.heap.size) h2 O (Nat.le_refl _)) (Nat.le_refl _) (by omega)).mono ?_
  rintro e w2 ⟨rfl, o2⟩
  replace B_r := Bx.old B_r o2
  replace O := Old.trans O o2
  have zw2 := o2.size
  obtain ⟨q_r_0, q_r_1, q_r_2, f_r_0, f_r_1, f_r_2, q_r⟩ := B_r.all3
  go_wp2_with fail
  refine callsNamed ?_
  intro p3 hp
  clear q_r_0 q_r_1 q_r_2 f_r_0 f_r_1 f_r_2 q_r
  have O' : Old w p3 := (by rw [hp]; exact Below.trans (b := w2) O oldA)
  replace B_r : Bx p3 (w.heap.size) #[.bool false, .slice none 0 0, .slice none 0 0] := (bxK B_r hp)
  have zp3 : w2.heap.size ≤ p3.heap.size := (by rw [hp]; exact leA)
  clear hp O
  have O := O'
  clear O'
  refine (plain_to (by rw [decide_eq_true HD.out]) (l04One_any A2 c2 y l2 _ (Row.below (B := w.heap.size) h2 O (Nat.le_refl _)))).mono ?_
  rintro e w3 ⟨rfl, o3⟩
  replace B_r := Bx.old B_r o3
  replace O := Old.trans O o3
  have zw3 := o3.size
  obtain ⟨q_r_0, q_r_1, q_r_2, f_r_0, f_r_1, f_r_2, q_r⟩ := B_r.all3
  go_wp2
  refine bodyPost_ret (v := .agg #[.bool false, .slice none 0 0, .slice none 0 0]) (by simp [results, Tryz.results119, go_sem, q_r_0, q_r_1, q_r_2]) rfl ⟨RetR.zero rfl, Below.trans (b := w3) O oldA⟩
set_option maxRecDepth 100000 in
set_option maxHeartbeats 1000000 in
theorem l04Low_low_fit (b : Bool) (A1 A2 : Option Addr) (c1 c2 x y l1 l2 : Nat) (w : World) (h1 : NatS w l1 A1 c1 x) (h2 : NatS w l2 A2 c2 y) (hx : len x ≤ 100) (hy : len y ≤ 100) (hp : 0 < y) (h1' : y ≠ 1) (hg : Nat.gcd x y = 1) (hf1 : len (x) ≤ 24) (hf2 : len (y) ≤ 24) :
    Calls Tryz.prog 119 #[.bool b, .slice A1 (len x) c1, .slice A2 (len y) c2] w fun e w' => RetR e w' w.heap.size (mkF (signed b x) y) ∧ Old w w' := by
  have hy0 : (((len y : Nat) : Int) == 0) = false := by have := len_pos hp; simp; omega
  have HD := Lib.hid h1'
  obtain ⟨G, hG⟩ : ∃ G, G = Nat.gcd x y := ⟨_, rfl⟩
  rw [← hG] at hg
  have hGp : 0 < G := by rw [hG]; exact gcd_pos hp
  have hGl : len G ≤ 100 := by rw [hG]; exact gcd_len hx hy
  have HGE := Lib.hid hg
  have HGP := Lib.hid hGp
  have t1 : ¬ (24 : Int) < ((len x : Nat) : Int) := by omega
  have t2 : ¬ (24 : Int) < ((len y : Nat) : Int) := by omega
  obtain ⟨z, hz⟩ : ∃ z, z = signed b x := ⟨_, rfl⟩
  have Hz : Hid (signed b x = z) := Lib.hid hz.symm
  have Hv : Hid (mkF (signed b x) y = (z, y)) := Lib.hid (by rw [mkF_signed hp (by rw [← hG, HGE.out, Nat.div_one]; exact hf1) (by rw [← hG, HGE.out, Nat.div_one]; exact hf2), ← hG, HGE.out, Nat.div_one, Nat.div_one, Hz.out])
  clear hz
  have HG := Lib.hid hG
  clear hG h1' hg hGp hp
  have O : Old w (w.alloc (.cells #[.bool false, .slice none 0 0, .slice none 0 0] 26)) := oldA
  have B_r : Bx (w.alloc (.cells #[.bool false, .slice none 0 0, .slice none 0 0] 26)) (w.heap.size) #[.bool false, .slice none 0 0, .slice none 0 0] := by have h := (Bx.new w #[.bool false, .slice none 0 0, .slice none 0 0] 26); simpa using h
  have ze : w.heap.size + 1 ≤ (w.alloc (.cells #[.bool false, .slice none 0 0, .slice none 0 0] 26)).heap.size := (by simp)
  go_enter Tryz.func119, Tryz.ntmps119
  go_wp2_with fail
  refine callsNamed ?_
  intro p1 hp
  have O' : Old w p1 := (by rw [hp]; exact Below.trans (b := (w.alloc (.cells #[.bool false, .slice none 0 0, .slice none 0 0] 26))) O oldA)
  replace B_r : Bx p1 (w.heap.size) #[.bool false, .slice none 0 0, .slice none 0 0] := (bxK B_r hp)
  have zp1 : (w.alloc (.cells #[.bool false, .slice none 0 0, .slice none 0 0] 26)).heap.size ≤ p1.heap.size := (by rw [hp]; exact leA)
  clear hp O
  have O := O'
  clear O'
  refine (l02Trim_any A1 _ c1 x l1 _ (Row.below (B := w.heap.size) h1 O (Nat.le_refl _)) (Nat.le_refl _) (by omega)).mono ?_
  rintro e w1 ⟨rfl, o1⟩
  replace B_r := Bx.old B_r o1
  replace O := Old.trans O o1
  have zw1 := o1.size
  obtain ⟨q_r_0, q_r_1, q_r_2, f_r_0, f_r_1, f_r_2, q_r⟩ := B_r.all3
  go_wp2_with fail
  refine callsNamed ?_
  intro p2 hp
  clear q_r_0 q_r_1 q_r_2 f_r_0 f_r_1 f_r_2 q_r
  have O' : Old w p2 := (by rw [hp]; exact Below.trans (b := w1) O oldA)
  replace B_r : Bx p2 (w.heap.size) #[.bool false, .slice none 0 0, .slice none 0 0] := (bxK B_r hp)
  have zp2 : w1.heap.size ≤ p2.heap.size := (by rw [hp]; exact leA)
  clear hp O
  have O := O'
  clear O'
  refine (l02Trim_any A2 _ c2 y l2 _ (Row.below (B := w.heap.size) h2 O (Nat.le_refl _)) (Nat.le_refl _) (by omega)).mono ?_
  rintro e w2 ⟨rfl, o2⟩
  replace B_r := Bx.old B_r o2
  replace O := Old.trans O o2
  have zw2 := o2.size
  obtain ⟨q_r_0, q_r_1, q_r_2, f_r_0, f_r_1, f_r_2, q_r⟩ := B_r.all3
  go_wp2_with fail
  refine callsNamed ?_
  intro p3 hp
  clear q_r_0 q_r_1 q_r_2 f_r_0 f_r_1 f_r_2 q_r
  have O' : Old w p3 := (by rw [hp]; exact Below.trans (b := w2) O oldA)
  replace B_r : Bx p3 (w.heap.size) #[.bool false, .slice none 0 0, .slice none 0 0] := (bxK B_r hp)
  have zp3 : w2.heap.size ≤ p3.heap.size := (by rw [hp]; exact leA)
  clear hp O
  have O := O'
  clear O'
  refine (plain_to (by rw [decide_eq_false HD.out]) (l04One_any A2 c2 y l2 _ (Row.below (B := w.heap.size) h2 O (Nat.le_refl _)))).mono ?_
  rintro e w3 ⟨rfl, o3⟩
  replace B_r := Bx.old B_r o3
  replace O := Old.trans O o3
  have zw3 := o3.size
  obtain ⟨q_r_0, q_r_1, q_r_2, f_r_0, f_r_1, f_r_2, q_r⟩ := B_r.all3
  go_wp2_with fail
  refine callsNamed ?_
  intro p4 hp
  clear q_r_0 q_r_1 q_r_2 f_r_0 f_r_1 f_r_2 q_r
  have O' : Old w p4 := (by rw [hp]; exact Below.trans (b := w3) O oldA)
  replace B_r : Bx p4 (w.heap.size) #[.bool false, .slice none 0 0, .slice none 0 0] := (bxK B_r hp)
  have zp4 : w3.heap.size ≤ p4.heap.size := (by rw [hp]; exact leA)
  clear hp O
  have O := O'
  clear O'
  refine (l02Gcd_any A1 A2 c1 c2 x y l1 l2 _ (Row.below (B := w.heap.size) h1 O (Nat.le_refl _)) (Row.below (B := w.heap.size) h2 O (Nat.le_refl _)) (by omega) (by omega)).mono ?_
  rintro e w4 ⟨⟨A3, c3, he, r3⟩, o4⟩
  replace B_r := Bx.old B_r o4
  replace O := Old.trans O o4
  have zw4 := o4.size
  replace r3 := Row.more (lo' := p4.heap.size) r3 leA
  have lim_r3 := Row.lim r3
  rw [← HG.out] at he r3
  subst he
  obtain ⟨q_r_0, q_r_1, q_r_2, f_r_0, f_r_1, f_r_2, q_r⟩ := B_r.all3
  go_wp2_with fail
  refine callsNamed ?_
  intro p5 hp
  clear q_r_0 q_r_1 q_r_2 f_r_0 f_r_1 f_r_2 q_r
  have O' : Old w p5 := (by rw [hp]; exact Below.trans (b := w4) O oldA)
  replace B_r : Bx p5 (w.heap.size) #[.bool false, .slice none 0 0, .slice none 0 0] := (bxK B_r hp)
  replace r3 := rowK r3 hp
  have zp5 : w4.heap.size ≤ p5.heap.size := (by rw [hp]; exact leA)
  clear hp O
  have O := O'
  clear O'
  refine (plain_to (by rw [decide_eq_true HGE.out]) (l04One_any A3 c3 G _ _ r3)).mono ?_
  rintro e w5 ⟨rfl, o5⟩
  replace B_r := Bx.old B_r o5
  replace r3 := Row.below r3 o5 (Nat.le_refl _)
  replace O := Old.trans O o5
  have zw5 := o5.size
  obtain ⟨q_r_0, q_r_1, q_r_2, f_r_0, f_r_1, f_r_2, q_r⟩ := B_r.all3
  go_wp2_with fail
  refine callsNamed ?_
  intro p6 hp
  clear q_r_0 q_r_1 q_r_2 f_r_0 f_r_1 f_r_2 q_r
  have O' : Old w p6 := (by rw [hp]; exact Below.trans (b := w5) O oldA)
  replace B_r : Bx p6 (w.heap.size) #[.bool false, .slice none 0 0, .slice none 0 0] := (bxK B_r hp)
  replace r3 := rowK r3 hp
  have zp6 : w5.heap.size ≤ p6.heap.size := (by rw [hp]; exact leA)
  clear hp O
  have O := O'
  clear O'
  refine (retB_to Hz.out (l03Make_fit b A1 c1 x _ _ (Row.below (B := w.heap.size) h1 O (Nat.le_refl _)) (by omega))).mono ?_
  rintro e w6 ⟨⟨A5, c5, rfl, r5⟩, o6⟩
  replace B_r := Bx.old B_r o6
  replace r3 := Row.below r3 o6 (Nat.le_refl _)
  replace O := Old.trans O o6
  have zw6 := o6.size
  replace r5 := Row.more (lo' := p6.heap.size) r5 leA
  have lim_r5 := Row.lim r5
  obtain ⟨q_r_0, q_r_1, q_r_2, f_r_0, f_r_1, f_r_2, q_r⟩ := B_r.all3
  go_wp2_with (at_builtin; refine wpList_clone rfl (.tmp 51) (.tmp 52) rfl (base := w6.heap.size) (f := digI y) rfl (fresh_own (Nat.le_refl _)) rfl (Row.below (B := w6.heap.size) (Row.below (B := w.heap.size) h2 O (Nat.le_refl _)) oldA (Nat.le_refl _)) (by omega) (by simp) ?_; intro A6 c6 w7 r6 o7; clear q_r_0 q_r_1 q_r_2 f_r_0 f_r_1 f_r_2 q_r; replace o7 : Old w6 w7 := Below.trans (b := _) oldA o7; replace B_r := Bx.old B_r o7; replace r3 := Row.below r3 o7 (Nat.le_refl _); replace r5 := Row.below r5 o7 (Nat.le_refl _); replace O := Old.trans O o7; have zw7 := o7.size; have lim_r6 := Row.lim r6; obtain ⟨q_r_0, q_r_1, q_r_2, f_r_0, f_r_1, f_r_2, q_r⟩ := B_r.all3)
  have AP := Apart.of lim_r5 r6 (by omega)
  have AP' := Lib.hid AP
  clear AP
  go_wp2
  refine bodyPost_ret (v := .agg #[.bool (sgnZ z), .slice A5 (len (magZ z)) c5, .slice A6 (len y) c6]) (by simp [results, Tryz.results119, go_sem, q_r_0, q_r_1, q_r_2]) rfl ⟨⟨z, y, A5, c5, A6, c6, Hv.out, rfl, ?_, ?_, AP'.out⟩, ?_⟩
  · refine Row.more (lo := p6.heap.size) ?_ leA
    repeat' (first | exact r5 | refine Row.far_set ?_ (by first | (simp <;> done) | (simp; omega) | omega) _)
  · refine Row.more (lo := w6.heap.size) ?_ leA
    repeat' (first | exact r6 | refine Row.far_set ?_ (by first | (simp <;> done) | (simp; omega) | omega) _)
  · exact Below.trans (b := w7) O oldA
set_option maxRecDepth 100000 in
set_option maxHeartbeats 1000000 in
theorem l04Low_low_longx (b : Bool) (A1 A2 : Option Addr) (c1 c2 x y l1 l2 : Nat) (w : World) (h1 : NatS w l1 A1 c1 x) (h2 : NatS w l2 A2 c2 y) (hx : len x ≤ 100) (hy : len y ≤ 100) (hp : 0 < y) (h1' : y ≠ 1) (hg : Nat.gcd x y = 1) (hf1 : ¬ len (x) ≤ 24) :
    Calls Tryz.prog 119 #[.bool b, .slice A1 (len x) c1, .slice A2 (len y) c2] w fun e w' => RetR e w' w.heap.size ((0, 0)) ∧ Old w w' := by
  have hy0 : (((len y : Nat) : Int) == 0) = false := by have := len_pos hp; simp; omega
  have HD := Lib.hid h1'
  obtain ⟨G, hG⟩ : ∃ G, G = Nat.gcd x y := ⟨_, rfl⟩
  rw [← hG] at hg
  have hGp : 0 < G := by rw [hG]; exact gcd_pos hp
  have hGl : len G ≤ 100 := by rw [hG]; exact gcd_len hx hy
  have HGE := Lib.hid hg
  have HGP := Lib.hid hGp
  have t1 : (24 : Int) < ((len x : Nat) : Int) := by omega
  have HG := Lib.hid hG
  clear hG h1' hg hGp hp
  have O : Old w (w.alloc (.cells #[.bool false, .slice none 0 0, .slice none 0 0] 26)) := oldA
  have B_r : Bx (w.alloc (.cells #[.bool false, .slice none 0 0, .slice none 0 0] 26)) (w.heap.size) #[.bool false, .slice none 0 0, .slice none 0 0] := by have h := (Bx.new w #[.bool false, .slice none 0 0, .slice none 0 0] 26); simpa using h
  have ze : w.heap.size + 1 ≤ (w.alloc (.cells #[.bool false, .slice none 0 0, .slice none 0 0] 26)).heap.size := (by simp)
  go_enter Tryz.func119, Tryz.ntmps119
  go_wp2_with fail
  refine callsNamed ?_
  intro p1 hp
  have O' : Old w p1 := (by rw [hp]; exact Below.trans (b := (w.alloc (.cells #[.bool false, .slice none 0 0, .slice none 0 0] 26))) O oldA)
  replace B_r : Bx p1 (w.heap.size) #[.bool false, .slice none 0 0, .slice none 0 0] := (bxK B_r hp)
  have zp1 : (w.alloc (.cells #[.bool false, .slice none 0 0, .slice none 0 0] 26)).heap.size ≤ p1.heap.size := (by rw [hp]; exact leA)
  clear hp O
  have O := O'
  clear O'
  refine (l02Trim_any A1 _ c1 x l1 _ (Row.below (B := w.heap.size) h1 O (Nat.le_refl _)) (Nat.le_refl _) (by omega)).mono ?_
  rintro e w1 ⟨rfl, o1⟩
  replace B_r := Bx.old B_r o1
  replace O := Old.trans O o1
  have zw1 := o1.size
  obtain ⟨q_r_0, q_r_1, q_r_2, f_r_0, f_r_1, f_r_2, q_r⟩ := B_r.all3
  go_wp2_with fail
  refine callsNamed ?_
  intro p2 hp
  clear q_r_0 q_r_1 q_r_2 f_r_0 f_r_1 f_r_2 q_r
  have O' : Old w p2 := (by rw [hp]; exact Below.trans (b := w1) O oldA)
  replace B_r : Bx p2 (w.heap.size) #[.bool false, .slice none 0 0, .slice none 0 0] := (bxK B_r hp)
  have zp2 : w1.heap.size ≤ p2.heap.size := (by rw [hp]; exact leA)
  clear hp O
  have O := O'
  clear O'
  refine (l02Trim_any A2 _ c2 y l2 _ (Row.below (B := w.heap.size) h2 O (Nat.le_refl _)) (Nat.le_refl _) (by omega)).mono ?_
  rintro e w2 ⟨rfl, o2⟩
  replace B_r := Bx.old B_r o2
  replace O := Old.trans O o2
  have zw2 := o2.size
  obtain ⟨q_r_0, q_r_1, q_r_2, f_r_0, f_r_1, f_r_2, q_r⟩ := B_r.all3
  go_wp2_with fail
  refine callsNamed ?_
  intro p3 hp
  clear q_r_0 q_r_1 q_r_2 f_r_0 f_r_1 f_r_2 q_r
  have O' : Old w p3 := (by rw [hp]; exact Below.trans (b := w2) O oldA)
  replace B_r : Bx p3 (w.heap.size) #[.bool false, .slice none 0 0, .slice none 0 0] := (bxK B_r hp)
  have zp3 : w2.heap.size ≤ p3.heap.size := (by rw [hp]; exact leA)
  clear hp O
  have O := O'
  clear O'
  refine (plain_to (by rw [decide_eq_false HD.out]) (l04One_any A2 c2 y l2 _ (Row.below (B := w.heap.size) h2 O (Nat.le_refl _)))).mono ?_
  rintro e w3 ⟨rfl, o3⟩
  replace B_r := Bx.old B_r o3
  replace O := Old.trans O o3
  have zw3 := o3.size
  obtain ⟨q_r_0, q_r_1, q_r_2, f_r_0, f_r_1, f_r_2, q_r⟩ := B_r.all3
  go_wp2_with fail
  refine callsNamed ?_
  intro p4 hp
  clear q_r_0 q_r_1 q_r_2 f_r_0 f_r_1 f_r_2 q_r
  have O' : Old w p4 := (by rw [hp]; exact Below.trans (b := w3) O oldA)
  replace B_r : Bx p4 (w.heap.size) #[.bool false, .slice none 0 0, .slice none 0 0] := (bxK B_r hp)
  have zp4 : w3.heap.size ≤ p4.heap.size := (by rw [hp]; exact leA)
  clear hp O
  have O := O'
  clear O'
  refine (l02Gcd_any A1 A2 c1 c2 x y l1 l2 _ (Row.below (B := w.heap.size) h1 O (Nat.le_refl _)) (Row.below (B := w.heap.size) h2 O (Nat.le_refl _)) (by omega) (by omega)).mono ?_
  rintro e w4 ⟨⟨A3, c3, he, r3⟩, o4⟩
  replace B_r := Bx.old B_r o4
  replace O := Old.trans O o4
  have zw4 := o4.size
  replace r3 := Row.more (lo' := p4.heap.size) r3 leA
  have lim_r3 := Row.lim r3
  rw [← HG.out] at he r3
  subst he
  obtain ⟨q_r_0, q_r_1, q_r_2, f_r_0, f_r_1, f_r_2, q_r⟩ := B_r.all3
  go_wp2_with fail
  refine callsNamed ?_
  intro p5 hp
  clear q_r_0 q_r_1 q_r_2 f_r_0 f_r_1 f_r_2 q_r
  have O' : Old w p5 := (by rw [hp]; exact Below.trans (b := w4) O oldA)
  replace B_r : Bx p5 (w.heap.size) #[.bool false, .slice none 0 0, .slice none 0 0] := (bxK B_r hp)
  replace r3 := rowK r3 hp
  have zp5 : w4.heap.size ≤ p5.heap.size := (by rw [hp]; exact leA)
  clear hp O
  have O := O'
  clear O'
  refine (plain_to (by rw [decide_eq_true HGE.out]) (l04One_any A3 c3 G _ _ r3)).mono ?_
  rintro e w5 ⟨rfl, o5⟩
  replace B_r := Bx.old B_r o5
  replace r3 := Row.below r3 o5 (Nat.le_refl _)
  replace O := Old.trans O o5
  have zw5 := o5.size
  obtain ⟨q_r_0, q_r_1, q_r_2, f_r_0, f_r_1, f_r_2, q_r⟩ := B_r.all3
  go_wp2
  refine bodyPost_ret (v := .agg #[.bool false, .slice none 0 0, .slice none 0 0]) (by simp [results, Tryz.results119, go_sem, q_r_0, q_r_1, q_r_2]) rfl ⟨RetR.zero rfl, Below.trans (b := w5) O oldA⟩
set_option maxRecDepth 100000 in
set_option maxHeartbeats 1000000 in
theorem l04Low_low_longy (b : Bool) (A1 A2 : Option Addr) (c1 c2 x y l1 l2 : Nat) (w : World) (h1 : NatS w l1 A1 c1 x) (h2 : NatS w l2 A2 c2 y) (hx : len x ≤ 100) (hy : len y ≤ 100) (hp : 0 < y) (h1' : y ≠ 1) (hg : Nat.gcd x y = 1) (hf1 : len (x) ≤ 24) (hf2 : ¬ len (y) ≤ 24) :
    Calls Tryz.prog 119 #[.bool b, .slice A1 (len x) c1, .slice A2 (len y) c2] w fun e w' => RetR e w' w.heap.size ((0, 0)) ∧ Old w w' := by
  have hy0 : (((len y : Nat) : Int) == 0) = false := by have := len_pos hp; simp; omega
  have HD := Lib.hid h1'
  obtain ⟨G, hG⟩ : ∃ G, G = Nat.gcd x y := ⟨_, rfl⟩
  rw [← hG] at hg
  have hGp : 0 < G := by rw [hG]; exact gcd_pos hp
  have hGl : len G ≤ 100 := by rw [hG]; exact gcd_len hx hy
  have HGE := Lib.hid hg
  have HGP := Lib.hid hGp
  have t1 : ¬ (24 : Int) < ((len x : Nat) : Int) := by omega
  have t2 : (24 : Int) < ((len y : Nat) : Int) := by omega
  have HG := Lib.hid hG
  clear hG h1' hg hGp hp
  have O : Old w (w.alloc (.cells #[.bool false, .slice none 0 0, .slice none 0 0] 26)) := oldA
  have B_r : Bx (w.alloc (.cells #[.bool false, .slice none 0 0, .slice none 0 0] 26)) (w.heap.size) #[.bool false, .slice none 0 0, .slice none 0 0] := by have h := (Bx.new w #[.bool false, .slice none 0 0, .slice none 0 0] 26); simpa using h
  have ze : w.heap.size + 1 ≤ (w.alloc (.cells #[.bool false, .slice none 0 0, .slice none 0 0] 26)).heap.size := (by simp)
  go_enter Tryz.func119, Tryz.ntmps119
  go_wp2_with fail
  refine callsNamed ?_
  intro p1 hp
  have O' : Old w p1 := (by rw [hp]; exact Below.trans (b := (w.alloc (.cells #[.bool false, .slice none 0 0, .slice none 0 0] 26))) O oldA)
  replace B_r : Bx p1 (w.heap.size) #[.bool false, .slice none 0 0, .slice none 0 0] := (bxK B_r hp)
  have zp1 : (w.alloc (.cells #[.bool false, .slice none 0 0, .slice none 0 0] 26)).heap.size ≤ p1.heap.size := (by rw [hp]; exact leA)
  clear hp O
  have O := O'
  clear O'
  refine (l02Trim_any A1 _ c1 x l1 _ (Row.below (B := w.heap.size) h1 O (Nat.le_refl _)) (Nat.le_refl _) (by omega)).mono ?_
  rintro e w1 ⟨rfl, o1⟩
  replace B_r := Bx.old B_r o1
  replace O := Old.trans O o1
  have zw1 := o1.size
  obtain ⟨q_r_0, q_r_1, q_r_2, f_r_0, f_r_1, f_r_2, q_r⟩ := B_r.all3
  go_wp2_with fail
  refine callsNamed ?_
  intro p2 hp
  clear q_r_0 q_r_1 q_r_2 f_r_0 f_r_1 f_r_2 q_r
  have O' : Old w p2 := (by rw [hp]; exact Below.trans (b := w1) O oldA)
  replace B_r : Bx p2 (w.heap.size) #[.bool false, .slice none 0 0, .slice none 0 0] := (bxK B_r hp)
  have zp2 : w1.heap.size ≤ p2.heap.size := (by rw [hp]; exact leA)
  clear hp O
  have O := O'
  clear O'
  refine (l02Trim_any A2 _ c2 y l2 _ (Row.below (B := w.heap.size) h2 O (Nat.le_refl _)) (Nat.le_refl _) (by omega)).mono ?_
  rintro e w2 ⟨rfl, o2⟩
  replace B_r := Bx.old B_r o2
  replace O := Old.trans O o2
  have zw2 := o2.size
  obtain ⟨q_r_0, q_r_1, q_r_2, f_r_0, f_r_1, f_r_2, q_r⟩ := B_r.all3
  go_wp2_with fail
  refine callsNamed ?_
  intro p3 hp
  clear q_r_0 q_r_1 q_r_2 f_r_0 f_r_1 f_r_2 q_r
  have O' : Old w p3 := (by rw [hp]; exact Below.trans (b := w2) O oldA)
  replace B_r : Bx p3 (w.heap.size) #[.bool false, .slice none 0 0, .slice none 0 0] := (bxK B_r hp)
  have zp3 : w2.heap.size ≤ p3.heap.size := (by rw [hp]; exact leA)
  clear hp O
  have O := O'
  clear O'
  refine (plain_to (by rw [decide_eq_false HD.out]) (l04One_any A2 c2 y l2 _ (Row.below (B := w.heap.size) h2 O (Nat.le_refl _)))).mono ?_
  rintro e w3 ⟨rfl, o3⟩
  replace B_r := Bx.old B_r o3
  replace O := Old.trans O o3
  have zw3 := o3.size
  obtain ⟨q_r_0, q_r_1, q_r_2, f_r_0, f_r_1, f_r_2, q_r⟩ := B_r.all3
  go_wp2_with fail
  refine callsNamed ?_
  intro p4 hp
  clear q_r_0 q_r_1 q_r_2 f_r_0 f_r_1 f_r_2 q_r
  have O' : Old w p4 := (by rw [hp]; exact Below.trans (b := w3) O oldA)
  replace B_r : Bx p4 (w.heap.size) #[.bool false, .slice none 0 0, .slice none 0 0] := (bxK B_r hp)
  have zp4 : w3.heap.size ≤ p4.heap.size := (by rw [hp]; exact leA)
  clear hp O
  have O := O'
  clear O'
  refine (l02Gcd_any A1 A2 c1 c2 x y l1 l2 _ (Row.below (B := w.heap.size) h1 O (Nat.le_refl _)) (Row.below (B := w.heap.size) h2 O (Nat.le_refl _)) (by omega) (by omega)).mono ?_
  rintro e w4 ⟨⟨A3, c3, he, r3⟩, o4⟩
  replace B_r := Bx.old B_r o4
  replace O := Old.trans O o4
  have zw4 := o4.size
  replace r3 := Row.more (lo' := p4.heap.size) r3 leA
  have lim_r3 := Row.lim r3
  rw [← HG.out] at he r3
  subst he
  obtain ⟨q_r_0, q_r_1, q_r_2, f_r_0, f_r_1, f_r_2, q_r⟩ := B_r.all3
  go_wp2_with fail
  refine callsNamed ?_
  intro p5 hp
  clear q_r_0 q_r_1 q_r_2 f_r_0 f_r_1 f_r_2 q_r
  have O' : Old w p5 := (by rw [hp]; exact Below.trans (b := w4) O oldA)
  replace B_r : Bx p5 (w.heap.size) #[.bool false, .slice none 0 0, .slice none 0 0] := (bxK B_r hp)
  replace r3 := rowK r3 hp
  have zp5 : w4.heap.size ≤ p5.heap.size := (by rw [hp]; exact leA)
  clear hp O
  have O := O'
  clear O'
  refine (plain_to (by rw [decide_eq_true HGE.out]) (l04One_any A3 c3 G _ _ r3)).mono ?_
  rintro e w5 ⟨rfl, o5⟩
  replace B_r := Bx.old B_r o5
  replace r3 := Row.below r3 o5 (Nat.le_refl _)
  replace O := Old.trans O o5
  have zw5 := o5.size
  obtain ⟨q_r_0, q_r_1, q_r_2, f_r_0, f_r_1, f_r_2, q_r⟩ := B_r.all3
  go_wp2
  refine bodyPost_ret (v := .agg #[.bool false, .slice none 0 0, .slice none 0 0]) (by simp [results, Tryz.results119, go_sem, q_r_0, q_r_1, q_r_2]) rfl ⟨RetR.zero rfl, Below.trans (b := w5) O oldA⟩
set_option maxRecDepth 100000 in
set_option maxHeartbeats 1000000 in
theorem l04Low_red_fit (b : Bool) (A1 A2 : Option Addr) (c1 c2 x y l1 l2 : Nat) (w : World) (h1 : NatS w l1 A1 c1 x) (h2 : NatS w l2 A2 c2 y) (hx : len x ≤ 100) (hy : len y ≤ 100) (hp : 0 < y) (h1' : y ≠ 1) (hg : Nat.gcd x y ≠ 1) (hf1 : len (x / Nat.gcd x y) ≤ 24) (hf2 : len (y / Nat.gcd x y) ≤ 24) :
    Calls Tryz.prog 119 #[.bool b, .slice A1 (len x) c1, .slice A2 (len y) c2] w fun e w' => RetR e w' w.heap.size (mkF (signed b x) y) ∧ Old w w' := by
  have hy0 : (((len y : Nat) : Int) == 0) = false := by have := len_pos hp; simp; omega
  have HD := Lib.hid h1'
  obtain ⟨G, hG⟩ : ∃ G, G = Nat.gcd x y := ⟨_, rfl⟩
  rw [← hG] at hg
  have hGp : 0 < G := by rw [hG]; exact gcd_pos hp
  have hGl : len G ≤ 100 := by rw [hG]; exact gcd_len hx hy
  have HGE := Lib.hid hg
  have HGP := Lib.hid hGp
  obtain ⟨X, hX⟩ : ∃ X, X = x / G := ⟨_, rfl⟩
  obtain ⟨Y, hY⟩ : ∃ Y, Y = y / G := ⟨_, rfl⟩
  have hXl : len X ≤ 100 := by rw [hX]; have := quo_len x G; omega
  have hYl : len Y ≤ 100 := by rw [hY]; have := quo_len y G; omega
  have HX := Lib.hid hX
  have HY := Lib.hid hY
  rw [← hG, ← hX] at hf1
  rw [← hG, ← hY] at hf2
  have t1 : ¬ (24 : Int) < ((len X : Nat) : Int) := by omega
  have t2 : ¬ (24 : Int) < ((len Y : Nat) : Int) := by omega
  obtain ⟨z, hz⟩ : ∃ z, z = signed b X := ⟨_, rfl⟩
  have Hz : Hid (signed b X = z) := Lib.hid hz.symm
  have Hv : Hid (mkF (signed b x) y = (z, Y)) := Lib.hid (by rw [mkF_signed hp (by rw [← hG, ← hX]; exact hf1) (by rw [← hG, ← hY]; exact hf2), ← hG, ← hX, ← hY, Hz.out])
  clear hz
  have HG := Lib.hid hG
  clear hG h1' hg hGp hp hX hY
  have O : Old w (w.alloc (.cells #[.bool false, .slice none 0 0, .slice none 0 0] 26)) := oldA
  have B_r : Bx (w.alloc (.cells #[.bool false, .slice none 0 0, .slice none 0 0] 26)) (w.heap.size) #[.bool false, .slice none 0 0, .slice none 0 0] := by have h := (Bx.new w #[.bool false, .slice none 0 0, .slice none 0 0] 26); simpa using h
  have ze : w.heap.size + 1 ≤ (w.alloc (.cells #[.bool false, .slice none 0 0, .slice none 0 0] 26)).heap.size := (by simp)
  go_enter Tryz.func119, Tryz.ntmps119
  go_wp2_with fail
  refine callsNamed ?_
  intro p1 hp
  have O' : Old w p1 := (by rw [hp]; exact Below.trans (b := (w.alloc (.cells #[.bool false, .slice none 0 0, .slice none 0 0] 26))) O oldA)
  replace B_r : Bx p1 (w.heap.size) #[.bool false, .slice none 0 0, .slice none 0 0] := (bxK B_r hp)
  have zp1 : (w.alloc (.cells #[.bool false, .slice none 0 0, .slice none 0 0] 26)).heap.size ≤ p1.heap.size := (by rw [hp]; exact leA)
  clear hp O
  have O := O'
  clear O'
  refine (l02Trim_any A1 _ c1 x l1 _ (Row.below (B := w.heap.size) h1 O (Nat.le_refl _)) (Nat.le_refl _) (by omega)).mono ?_
  rintro e w1 ⟨rfl, o1⟩
  replace B_r := Bx.old B_r o1
  replace O := Old.trans O o1
  have zw1 := o1.size
  obtain ⟨q_r_0, q_r_1, q_r_2, f_r_0, f_r_1, f_r_2, q_r⟩ := B_r.all3
  go_wp2_with fail
  refine callsNamed ?_
  intro p2 hp
  clear q_r_0 q_r_1 q_r_2 f_r_0 f_r_1 f_r_2 q_r
  have O' : Old w p2 := (by rw [hp]; exact Below.trans (b := w1) O oldA)
  replace B_r : Bx p2 (w.heap.size) #[.bool false, .slice none 0 0, .slice none 0 0] := (bxK B_r hp)
  have zp2 : w1.heap.size ≤ p2.heap.size := (by rw [hp]; exact leA)
  clear hp O
  have O := O'
  clear O'
  refine (l02Trim_any A2 _ c2 y l2 _ (Row.below (B := w.heap.size) h2 O (Nat.le_refl _)) (Nat.le_refl _) (by omega)).mono ?_
  rintro e w2 ⟨rfl, o2⟩
  replace B_r := Bx.old B_r o2
  replace O := Old.trans O o2
  have zw2 := o2.size
  obtain ⟨q_r_0, q_r_1, q_r_2, f_r_0, f_r_1, f_r_2, q_r⟩ := B_r.all3
  go_wp2_with fail
  refine callsNamed ?_
  intro p3 hp
  clear q_r_0 q_r_1 q_r_2 f_r_0 f_r_1 f_r_2 q_r
  have O' : Old w p3 := (by rw [hp]; exact Below.trans (b := w2) O oldA)
  replace B_r : Bx p3 (w.heap.size) #[.bool false, .slice none 0 0, .slice none 0 0] := (bxK B_r hp)
  have zp3 : w2.heap.size ≤ p3.heap.size := (by rw [hp]; exact leA)
  clear hp O
  have O := O'
  clear O'
  refine (plain_to (by rw [decide_eq_false HD.out]) (l04One_any A2 c2 y l2 _ (Row.below (B := w.heap.size) h2 O (Nat.le_refl _)))).mono ?_
  rintro e w3 ⟨rfl, o3⟩
  replace B_r := Bx.old B_r o3
  replace O := Old.trans O o3
  have zw3 := o3.size
  obtain ⟨q_r_0, q_r_1, q_r_2, f_r_0, f_r_1, f_r_2, q_r⟩ := B_r.all3
  go_wp2_with fail
  refine callsNamed ?_
  intro p4 hp
  clear q_r_0 q_r_1 q_r_2 f_r_0 f_r_1 f_r_2 q_r
  have O' : Old w p4 := (by rw [hp]; exact Below.trans (b := w3) O oldA)
  replace B_r : Bx p4 (w.heap.size) #[.bool false, .slice none 0 0, .slice none 0 0] := (bxK B_r hp)
  have zp4 : w3.heap.size ≤ p4.heap.size := (by rw [hp]; exact leA)
  clear hp O
  have O := O'
  clear O'
  refine (l02Gcd_any A1 A2 c1 c2 x y l1 l2 _ (Row.below (B := w.heap.size) h1 O (Nat.le_refl _)) (Row.below (B := w.heap.size) h2 O (Nat.le_refl _)) (by omega) (by omega)).mono ?_
  rintro e w4 ⟨⟨A3, c3, he, r3⟩, o4⟩
  replace B_r := Bx.old B_r o4
  replace O := Old.trans O o4
  have zw4 := o4.size
  replace r3 := Row.more (lo' := p4.heap.size) r3 leA
  have lim_r3 := Row.lim r3
  rw [← HG.out] at he r3
  subst he
  obtain ⟨q_r_0, q_r_1, q_r_2, f_r_0, f_r_1, f_r_2, q_r⟩ := B_r.all3
  go_wp2_with fail
  refine callsNamed ?_
  intro p5 hp
  clear q_r_0 q_r_1 q_r_2 f_r_0 f_r_1 f_r_2 q_r
  have O' : Old w p5 := (by rw [hp]; exact Below.trans (b := w4) O oldA)
  replace B_r : Bx p5 (w.heap.size) #[.bool false, .slice none 0 0, .slice none 0 0] := (bxK B_r hp)
  replace r3 := rowK r3 hp
  have zp5 : w4.heap.size ≤ p5.heap.size := (by rw [hp]; exact leA)
  clear hp O
  have O := O'
  clear O'
  refine (plain_to (by rw [decide_eq_false HGE.out]) (l04One_any A3 c3 G _ _ r3)).mono ?_
  rintro e w5 ⟨rfl, o5⟩
  replace B_r := Bx.old B_r o5
  replace r3 := Row.below r3 o5 (Nat.le_refl _)
  replace O := Old.trans O o5
  have zw5 := o5.size
  obtain ⟨q_r_0, q_r_1, q_r_2, f_r_0, f_r_1, f_r_2, q_r⟩ := B_r.all3
  go_wp2_with fail
  refine callsNamed ?_
  intro p6 hp
  clear q_r_0 q_r_1 q_r_2 f_r_0 f_r_1 f_r_2 q_r
  have O' : Old w p6 := (by rw [hp]; exact Below.trans (b := w5) O oldA)
  replace B_r : Bx p6 (w.heap.size) #[.bool false, .slice none 0 0, .slice none 0 0] := (bxK B_r hp)
  replace r3 := rowK r3 hp
  have zp6 : w5.heap.size ≤ p6.heap.size := (by rw [hp]; exact leA)
  clear hp O
  have O := O'
  clear O'
  refine (l02Div_any A1 A3 c1 c3 x G l1 _ _ (Row.below (B := w.heap.size) h1 O (Nat.le_refl _)) r3 (by omega) (by omega) HGP.out).mono ?_
  rintro e w6 ⟨⟨A7, c7, A8, c8, he, r7, r8⟩, o6⟩
  replace B_r := Bx.old B_r o6
  replace r3 := Row.below r3 o6 (Nat.le_refl _)
  replace O := Old.trans O o6
  have zw6 := o6.size
  replace r7 := Row.more (lo' := p6.heap.size) r7 leA
  replace r8 := Row.more (lo' := p6.heap.size) r8 leA
  have lim_r7 := Row.lim r7
  have lim_r8 := Row.lim r8
  rw [← HX.out] at he r7
  subst he
  obtain ⟨q_r_0, q_r_1, q_r_2, f_r_0, f_r_1, f_r_2, q_r⟩ := B_r.all3
  go_wp2_with fail
  refine callsNamed ?_
  intro p7 hp
  clear q_r_0 q_r_1 q_r_2 f_r_0 f_r_1 f_r_2 q_r
  have O' : Old w p7 := (by rw [hp]; exact Below.trans (b := w6) O oldA)
  replace B_r : Bx p7 (w.heap.size) #[.bool false, .slice none 0 0, .slice none 0 0] := (bxK B_r hp)
  replace r3 := rowK r3 hp
  replace r7 := rowK r7 hp
  replace r8 := rowK r8 hp
  have zp7 : w6.heap.size ≤ p7.heap.size := (by rw [hp]; exact leA)
  clear hp O
  have O := O'
  clear O'
  refine (l02Div_any A2 A3 c2 c3 y G l2 _ _ (Row.below (B := w.heap.size) h2 O (Nat.le_refl _)) r3 (by omega) (by omega) HGP.out).mono ?_
  rintro e w7 ⟨⟨A9, c9, A0, c0, he, r9, r0⟩, o7⟩
  replace B_r := Bx.old B_r o7
  replace r3 := Row.below r3 o7 (Nat.le_refl _)
  replace r7 := Row.below r7 o7 (Nat.le_refl _)
  replace r8 := Row.below r8 o7 (Nat.le_refl _)
  replace O := Old.trans O o7
  have zw7 := o7.size
  replace r9 := Row.more (lo' := p7.heap.size) r9 leA
  replace r0 := Row.more (lo' := p7.heap.size) r0 leA
  have lim_r9 := Row.lim r9
  have lim_r0 := Row.lim r0
  rw [← HY.out] at he r9
  subst he
  obtain ⟨q_r_0, q_r_1, q_r_2, f_r_0, f_r_1, f_r_2, q_r⟩ := B_r.all3
  go_wp2_with fail
  refine callsNamed ?_
  intro p8 hp
  clear q_r_0 q_r_1 q_r_2 f_r_0 f_r_1 f_r_2 q_r
  have O' : Old w p8 := (by rw [hp]; exact Below.trans (b := w7) O oldA)
  replace B_r : Bx p8 (w.heap.size) #[.bool false, .slice none 0 0, .slice none 0 0] := (bxK B_r hp)
  replace r3 := rowK r3 hp
  replace r7 := rowK r7 hp
  replace r8 := rowK r8 hp
  replace r9 := rowK r9 hp
  replace r0 := rowK r0 hp
  have zp8 : w7.heap.size ≤ p8.heap.size := (by rw [hp]; exact leA)
  clear hp O
  have O := O'
  clear O'
  refine (retB_to Hz.out (l03Make_fit b A7 c7 X _ _ r7 (by omega))).mono ?_
  rintro e w8 ⟨⟨A5, c5, rfl, r5⟩, o8⟩
  replace B_r := Bx.old B_r o8
  replace r3 := Row.below r3 o8 (Nat.le_refl _)
  replace r7 := Row.below r7 o8 (Nat.le_refl _)
  replace r8 := Row.below r8 o8 (Nat.le_refl _)
  replace r9 := Row.below r9 o8 (Nat.le_refl _)
  replace r0 := Row.below r0 o8 (Nat.le_refl _)
  replace O := Old.trans O o8
  have zw8 := o8.size
  replace r5 := Row.more (lo' := p8.heap.size) r5 leA
  have lim_r5 := Row.lim r5
  obtain ⟨q_r_0, q_r_1, q_r_2, f_r_0, f_r_1, f_r_2, q_r⟩ := B_r.all3
  go_wp2_with (at_builtin; refine wpList_clone rfl (.tmp 51) (.tmp 52) rfl (base := w8.heap.size) (f := digI Y) rfl (fresh_own (Nat.le_refl _)) rfl (Row.below (B := w8.heap.size) r9 oldA (Nat.le_refl _)) (by omega) (by simp) ?_; intro A6 c6 w9 r6 o9; clear q_r_0 q_r_1 q_r_2 f_r_0 f_r_1 f_r_2 q_r; replace o9 : Old w8 w9 := Below.trans (b := _) oldA o9; replace B_r := Bx.old B_r o9; replace r3 := Row.below r3 o9 (Nat.le_refl _); replace r7 := Row.below r7 o9 (Nat.le_refl _); replace r8 := Row.below r8 o9 (Nat.le_refl _); replace r9 := Row.below r9 o9 (Nat.le_refl _); replace r0 := Row.below r0 o9 (Nat.le_refl _); replace r5 := Row.below r5 o9 (Nat.le_refl _); replace O := Old.trans O o9; have zw9 := o9.size; have lim_r6 := Row.lim r6; obtain ⟨q_r_0, q_r_1, q_r_2, f_r_0, f_r_1, f_r_2, q_r⟩ := B_r.all3)
  have AP := Apart.of lim_r5 r6 (by omega)
  have AP' := Lib.hid AP
  clear AP
  go_wp2
  refine bodyPost_ret (v := .agg #[.bool (sgnZ z), .slice A5 (len (magZ z)) c5, .slice A6 (len Y) c6]) (by simp [results, Tryz.results119, go_sem, q_r_0, q_r_1, q_r_2]) rfl ⟨⟨z, Y, A5, c5, A6, c6, Hv.out, rfl, ?_, ?_, AP'.out⟩, ?_⟩
  · refine Row.more (lo := p8.heap.size) ?_ leA
    repeat' (first | exact r5 | refine Row.far_set ?_ (by first | (simp <;> done) | (simp; omega) | omega) _)
  · refine Row.more (lo := w8.heap.size) ?_ leA
    repeat' (first | exact r6 | refine Row.far_set ?_ (by first | (simp <;> done) | (simp; omega) | omega) _)
  · exact Below.trans (b := w9) O oldA
set_option maxRecDepth 100000 in
set_option maxHeartbeats 1000000 in
theorem l04Low_red_longx (b : Bool) (A1 A2 : Option Addr) (c1 c2 x y l1 l2 : Nat) (w : World) (h1 : NatS w l1 A1 c1 x) (h2 : NatS w l2 A2 c2 y) (hx : len x ≤ 100) (hy : len y ≤ 100) (hp : 0 < y) (h1' : y ≠ 1) (hg : Nat.gcd x y ≠ 1) (hf1 : ¬ len (x / Nat.gcd x y) ≤ 24) :
    Calls Tryz.prog 119 #[.bool b, .slice A1 (len x) c1, .slice A2 (len y) c2] w fun e w' => RetR e w' w.heap.size ((0, 0)) ∧ Old w w' := by
  have hy0 : (((len y : Nat) : Int) == 0) = false := by have := len_pos hp; simp; omega
  have HD := Lib.hid h1'
  obtain ⟨G, hG⟩ : ∃ G, G = Nat.gcd x y := ⟨_, rfl⟩
  rw [← hG] at hg
  have hGp : 0 < G := by rw [hG]; exact gcd_pos hp
  have hGl : len G ≤ 100 := by rw [hG]; exact gcd_len hx hy
  have HGE := Lib.hid hg
  have HGP := Lib.hid hGp
  obtain ⟨X, hX⟩ : ∃ X, X = x / G := ⟨_, rfl⟩
  obtain ⟨Y, hY⟩ : ∃ Y, Y = y / G := ⟨_, rfl⟩
  have hXl : len X ≤ 100 := by rw [hX]; have := quo_len x G; omega
  have hYl : len Y ≤ 100 := by rw [hY]; have := quo_len y G; omega
  have HX := Lib.hid hX
  have HY := Lib.hid hY
  rw [← hG, ← hX] at hf1
  have t1 : (24 : Int) < ((len X : Nat) : Int) := by omega
  have HG := Lib.hid hG
  clear hG h1' hg hGp hp hX hY
  have O : Old w (w.alloc (.cells #[.bool false, .slice none 0 0, .slice none 0 0] 26)) := oldA
  have B_r : Bx (w.alloc (.cells #[.bool false, .slice none 0 0, .slice none 0 0] 26)) (w.heap.size) #[.bool false, .slice none 0 0, .slice none 0 0] := by have h := (Bx.new w #[.bool false, .slice none 0 0, .slice none 0 0] 26); simpa using h
  have ze : w.heap.size + 1 ≤ (w.alloc (.cells #[.bool false, .slice none 0 0, .slice none 0 0] 26)).heap.size := (by simp)
  go_enter Tryz.func119, Tryz.ntmps119
  go_wp2_with fail
  refine callsNamed ?_
  intro p1 hp
  have O' : Old w p1 := (by rw [hp]; exact Below.trans (b := (w.alloc (.cells #[.bool false, .slice none 0 0, .slice none 0 0] 26))) O oldA)
  replace B_r : Bx p1 (w.heap.size) #[.bool false, .slice none 0 0, .slice none 0 0] := (bxK B_r hp)
  have zp1 : (w.alloc (.cells #[.bool false, .slice none 0 0, .slice none 0 0] 26)).heap.size ≤ p1.heap.size := (by rw [hp]; exact leA)
  clear hp O
  have O := O'
  clear O'
  refine (l02Trim_any A1 _ c1 x l1 _ (Row.below (B := w.heap.size) h1 O (Nat.le_refl _)) (Nat.le_refl _) (by omega)).mono ?_
  rintro e w1 ⟨rfl, o1⟩
  replace B_r := Bx.old B_r o1
  replace O := Old.trans O o1
  have zw1 := o1.size
  obtain ⟨q_r_0, q_r_1, q_r_2, f_r_0, f_r_1, f_r_2, q_r⟩ := B_r.all3
  go_wp2_with fail
  refine callsNamed ?_
  intro p2 hp
  clear q_r_0 q_r_1 q_r_2 f_r_0 f_r_1 f_r_2 q_r
  have O' : Old w p2 := (by rw [hp]; exact Below.trans (b := w1) O oldA)
  replace B_r : Bx p2 (w.heap.size) #[.bool false, .slice none 0 0, .slice none 0 0] := (bxK B_r hp)
  have zp2 : w1.heap.size ≤ p2.heap.size := (by rw [hp]; exact leA)
  clear hp O
  have O := O'
  clear O'
  refine (l02Trim_any A2 _ c2 y l2 _ (Row.below (B := w.heap.size) h2 O (Nat.le_refl _)) (Nat.le_refl _) (by omega)).mono ?_
  rintro e w2 ⟨rfl, o2⟩
  replace B_r := Bx.old B_r o2
  replace O := Old.trans O o2
  have zw2 := o2.size
  obtain ⟨q_r_0, q_r_1, q_r_2, f_r_0, f_r_1, f_r_2, q_r⟩ := B_r.all3
  go_wp2_with fail
  refine callsNamed ?_
  intro p3 hp
  clear q_r_0 q_r_1 q_r_2 f_r_0 f_r_1 f_r_2 q_r
  have O' : Old w p3 := (by rw [hp]; exact Below.trans (b := w2) O oldA)
  replace B_r : Bx p3 (w.heap.size) #[.bool false, .slice none 0 0, .slice none 0 0] := (bxK B_r hp)
  have zp3 : w2.heap.size ≤ p3.heap.size := (by rw [hp]; exact leA)
  clear hp O
  have O := O'
  clear O'
  refine (plain_to (by rw [decide_eq_false HD.out]) (l04One_any A2 c2 y l2 _ (Row.below (B := w.heap.size) h2 O (Nat.le_refl _)))).mono ?_
  rintro e w3 ⟨rfl, o3⟩
  replace B_r := Bx.old B_r o3
  replace O := Old.trans O o3
  have zw3 := o3.size
  obtain ⟨q_r_0, q_r_1, q_r_2, f_r_0, f_r_1, f_r_2, q_r⟩ := B_r.all3
  go_wp2_with fail
  refine callsNamed ?_
  intro p4 hp
  clear q_r_0 q_r_1 q_r_2 f_r_0 f_r_1 f_r_2 q_r
  have O' : Old w p4 := (by rw [hp]; exact Below.trans (b := w3) O oldA)
  replace B_r : Bx p4 (w.heap.size) #[.bool false, .slice none 0 0, .slice none 0 0] := (bxK B_r hp)
  have zp4 : w3.heap.size ≤ p4.heap.size := (by rw [hp]; exact leA)
  clear hp O
  have O := O'
  clear O'
  refine (l02Gcd_any A1 A2 c1 c2 x y l1 l2 _ (Row.below (B := w.heap.size) h1 O (Nat.le_refl _)) (Row.below (B := w.heap.size) h2 O (Nat.le_refl _)) (by omega) (by omega)).mono ?_
  rintro e w4 ⟨⟨A3, c3, he, r3⟩, o4⟩
  replace B_r := Bx.old B_r o4
  replace O := Old.trans O o4
  have zw4 := o4.size
  replace r3 := Row.more (lo' := p4.heap.size) r3 leA
  have lim_r3 := Row.lim r3
  rw [← HG.out] at he r3
  subst he
  obtain ⟨q_r_0, q_r_1, q_r_2, f_r_0, f_r_1, f_r_2, q_r⟩ := B_r.all3
  go_wp2_with fail
  refine callsNamed ?_
  intro p5 hp
  clear q_r_0 q_r_1 q_r_2 f_r_0 f_r_1 f_r_2 q_r
  have O' : Old w p5 := (by rw [hp]; exact Below.trans (b := w4) O oldA)
  replace B_r : Bx p5 (w.heap.size) #[.bool false, .slice none 0 0, .slice none 0 0] := (bxK B_r hp)
  replace r3 := rowK r3 hp
  have zp5 : w4.heap.size ≤ p5.heap.size := (by rw [hp]; exact leA)
  clear hp O
  have O := O'
  clear O'
  refine (plain_to (by rw [decide_eq_false HGE.out]) (l04One_any A3 c3 G _ _ r3)).mono ?_
  rintro e w5 ⟨rfl, o5⟩
  replace B_r := Bx.old B_r o5
  replace r3 := Row.below r3 o5 (Nat.le_refl _)
  replace O := Old.trans O o5
  have zw5 := o5.size
  obtain ⟨q_r_0, q_r_1, q_r_2, f_r_0, f_r_1, f_r_2, q_r⟩ := B_r.all3
  go_wp2_with fail
  refine callsNamed ?_
  intro p6 hp
  clear q_r_0 q_r_1 q_r_2 f_r_0 f_r_1 f_r_2 q_r
  have O' : Old w p6 := (by rw [hp]; exact Below.trans (b := w5) O oldA)
  replace B_r : Bx p6 (w.heap.size) #[.bool false, .slice none 0 0, .slice none 0 0] := (bxK B_r hp)
  replace r3 := rowK r3 hp
  have zp6 : w5.heap.size ≤ p6.heap.size := (by rw [hp]; exact leA)
  clear hp O
  have O := O'
  clear O'
  refine (l02Div_any A1 A3 c1 c3 x G l1 _ _ (Row.below (B := w.heap.size) h1 O (Nat.le_refl _)) r3 (by omega) (by omega) HGP.out).mono ?_
  rintro e w6 ⟨⟨A7, c7, A8, c8, he, r7, r8⟩, o6⟩
  replace B_r := Bx.old B_r o6
  replace r3 := Row.below r3 o6 (Nat.le_refl _)
  replace O := Old.trans O o6
  have zw6 := o6.size
  replace r7 := Row.more (lo' := p6.heap.size) r7 leA
  replace r8 := Row.more (lo' := p6.heap.size) r8 leA
  have lim_r7 := Row.lim r7
  have lim_r8 := Row.lim r8
  rw [← HX.out] at he r7
  subst he
  obtain ⟨q_r_0, q_r_1, q_r_2, f_r_0, f_r_1, f_r_2, q_r⟩ := B_r.all3
  go_wp2_with fail
  refine callsNamed ?_
  intro p7 hp
  clear q_r_0 q_r_1 q_r_2 f_r_0 f_r_1 f_r_2 q_r
  have O' : Old w p7 := (by rw [hp]; exact Below.trans (b := w6) O oldA)
  replace B_r : Bx p7 (w.heap.size) #[.bool false, .slice none 0 0, .slice none 0 0] := (bxK B_r hp)
  replace r3 := rowK r3 hp
  replace r7 := rowK r7 hp
  replace r8 := rowK r8 hp
  have zp7 : w6.heap.size ≤ p7.heap.size := (by rw [hp]; exact leA)
  clear hp O
  have O := O'
  clear O'
  refine (l02Div_any A2 A3 c2 c3 y G l2 _ _ (Row.below (B := w.heap.size) h2 O (Nat.le_refl _)) r3 (by omega) (by omega) HGP.out).mono ?_
  rintro e w7 ⟨⟨A9, c9, A0, c0, he, r9, r0⟩, o7⟩
  replace B_r := Bx.old B_r o7
  replace r3 := Row.below r3 o7 (Nat.le_refl _)
  replace r7 := Row.below r7 o7 (Nat.le_refl _)
  replace r8 := Row.below r8 o7 (Nat.le_refl _)
  replace O := Old.trans O o7
  have zw7 := o7.size
  replace r9 := Row.more (lo' := p7.heap.size) r9 leA
  replace r0 := Row.more (lo' := p7.heap.size) r0 leA
  have lim_r9 := Row.lim r9
  have lim_r0 := Row.lim r0
  rw [← HY.out] at he r9
  subst he
  obtain ⟨q_r_0, q_r_1, q_r_2, f_r_0, f_r_1, f_r_2, q_r⟩ := B_r.all3
  go_wp2
  refine bodyPost_ret (v := .agg #[.bool false, .slice none 0 0, .slice none 0 0]) (by simp [results, Tryz.results119, go_sem, q_r_0, q_r_1, q_r_2]) rfl ⟨RetR.zero rfl, Below.trans (b := w7) O oldA⟩
set_option maxRecDepth 100000 in
set_option maxHeartbeats 1000000 in
theorem l04Low_red_longy (b : Bool) (A1 A2 : Option Addr) (c1 c2 x y l1 l2 : Nat) (w : World) (h1 : NatS w l1 A1 c1 x) (h2 : NatS w l2 A2 c2 y) (hx : len x ≤ 100) (hy : len y ≤ 100) (hp : 0 < y) (h1' : y ≠ 1) (hg : Nat.gcd x y ≠ 1) (hf1 : len (x / Nat.gcd x y) ≤ 24) (hf2 : ¬ len (y / Nat.gcd x y) ≤ 24) :
    Calls Tryz.prog 119 #[.bool b, .slice A1 (len x) c1, .slice A2 (len y) c2] w fun e w' => RetR e w' w.heap.size ((0, 0)) ∧ Old w w' := by
  have hy0 : (((len y : Nat) : Int) == 0) = false := by have := len_pos hp; simp; omega
  have HD := Lib.hid h1'
  obtain ⟨G, hG⟩ : ∃ G, G = Nat.gcd x y := ⟨_, rfl⟩
  rw [← hG] at hg
  have hGp : 0 < G := by rw [hG]; exact gcd_pos hp
  have hGl : len G ≤ 100 := by rw [hG]; exact gcd_len hx hy
  have HGE := Lib.hid hg
  have HGP := Lib.hid hGp
  obtain ⟨X, hX⟩ : ∃ X, X = x / G := ⟨_, rfl⟩
  obtain ⟨Y, hY⟩ : ∃ Y, Y = y / G := ⟨_, rfl⟩
  have hXl : len X ≤ 100 := by rw [hX]; have := quo_len x G; omega
  have hYl : len Y ≤ 100 := by rw [hY]; have := quo_len y G; omega
  have HX := Lib.hid hX
  have HY := Lib.hid hY
  rw [← hG, ← hX] at hf1
  rw [← hG, ← hY] at hf2
  have t1 : ¬ (24 : Int) < ((len X : Nat) : Int) := by omega
  have t2 : (24 : Int) < ((len Y : Nat) : Int) := by omega
  have HG := Lib.hid hG
  clear hG h1' hg hGp hp hX hY
  have O : Old w (w.alloc (.cells #[.bool false, .slice none 0 0, .slice none 0 0] 26)) := oldA
  have B_r : Bx (w.alloc (.cells #[.bool false, .slice none 0 0, .slice none 0 0] 26)) (w.heap.size) #[.bool false, .slice none 0 0, .slice none 0 0] := by have h := (Bx.new w #[.bool false, .slice none 0 0, .slice none 0 0] 26); simpa using h
  have ze : w.heap.size + 1 ≤ (w.alloc (.cells #[.bool false, .slice none 0 0, .slice none 0 0] 26)).heap.size := (by simp)
  go_enter Tryz.func119, Tryz.ntmps119
  go_wp2_with fail
  refine callsNamed ?_
  intro p1 hp
  have O' : Old w p1 := (by rw [hp]; exact Below.trans (b := (w.alloc (.cells #[.bool false, .slice none 0 0, .slice none 0 0] 26))) O oldA)
  replace B_r : Bx p1 (w.heap.size) #[.bool false, .slice none 0 0, .slice none 0 0] := (bxK B_r hp)
  have zp1 : (w.alloc (.cells #[.bool false, .slice none 0 0, .slice none 0 0] 26)).heap.size ≤ p1.heap.size := (by rw [hp]; exact leA)
  clear hp O
  have O := O'
  clear O'
  refine (l02Trim_any A1 _ c1 x l1 _ (Row.below (B := w.heap.size) h1 O (Nat.le_refl _)) (Nat.le_refl _) (by omega)).mono ?_
  rintro e w1 ⟨rfl, o1⟩
  replace B_r := Bx.old B_r o1
  replace O := Old.trans O o1
  have zw1 := o1.size
  obtain ⟨q_r_0, q_r_1, q_r_2, f_r_0, f_r_1, f_r_2, q_r⟩ := B_r.all3
  go_wp2_with fail
  refine callsNamed ?_
  intro p2 hp
  clear q_r_0 q_r_1 q_r_2 f_r_0 f_r_1 f_r_2 q_r
  have O' : Old w p2 := (by rw [hp]; exact Below.trans (b := w1) O oldA)
  replace B_r : Bx p2 (w.heap.size) #[.bool false, .slice none 0 0, .slice none 0 0] := (bxK B_r hp)
  have zp2 : w1.heap.size ≤ p2.heap.size := (by rw [hp]; exact leA)
  clear hp O
  have O := O'
  clear O'
  refine (l02Trim_any A2 _ c2 y l2 _ (Row.below (B := w.heap.size) h2 O (Nat.le_refl _)) (Nat.le_refl _) (by omega)).mono ?_
  rintro e w2 ⟨rfl, o2⟩
  replace B_r := Bx.old B_r o2
  replace O := Old.trans O o2
  have zw2 := o2.size
  obtain ⟨q_r_0, q_r_1, q_r_2, f_r_0, f_r_1, f_r_2, q_r⟩ := B_r.all3
  go_wp2_with fail
  refine callsNamed ?_
  intro p3 hp
  clear q_r_0 q_r_1 q_r_2 f_r_0 f_r_1 f_r_2 q_r
  have O' : Old w p3 := (by rw [hp]; exact Below.trans (b := w2) O oldA)
  replace B_r : Bx p3 (w.heap.size) #[.bool false, .slice none 0 0, .slice none 0 0] := (bxK B_r hp)
  have zp3 : w2.heap.size ≤ p3.heap.size := (by rw [hp]; exact leA)
  clear hp O
  have O := O'
  clear O'
  refine (plain_to (by rw [decide_eq_false HD.out]) (l04One_any A2 c2 y l2 _ (Row.below (B := w.heap.size) h2 O (Nat.le_refl _)))).mono ?_
  rintro e w3 ⟨rfl, o3⟩
  replace B_r := Bx.old B_r o3
  replace O := Old.trans O o3
  have zw3 := o3.size
  obtain ⟨q_r_0, q_r_1, q_r_2, f_r_0, f_r_1, f_r_2, q_r⟩ := B_r.all3
  go_wp2_with fail
  refine callsNamed ?_
  intro p4 hp
  clear q_r_0 q_r_1 q_r_2 f_r_0 f_r_1 f_r_2 q_r
  have O' : Old w p4 := (by rw [hp]; exact Below.trans (b := w3) O oldA)
  replace B_r : Bx p4 (w.heap.size) #[.bool false, .slice none 0 0, .slice none 0 0] := (bxK B_r hp)
  have zp4 : w3.heap.size ≤ p4.heap.size := (by rw [hp]; exact leA)
  clear hp O
  have O := O'
  clear O'
  refine (l02Gcd_any A1 A2 c1 c2 x y l1 l2 _ (Row.below (B := w.heap.size) h1 O (Nat.le_refl _)) (Row.below (B := w.heap.size) h2 O (Nat.le_refl _)) (by omega) (by omega)).mono ?_
  rintro e w4 ⟨⟨A3, c3, he, r3⟩, o4⟩
  replace B_r := Bx.old B_r o4
  replace O := Old.trans O o4
  have zw4 := o4.size
  replace r3 := Row.more (lo' := p4.heap.size) r3 leA
  have lim_r3 := Row.lim r3
  rw [← HG.out] at he r3
  subst he
  obtain ⟨q_r_0, q_r_1, q_r_2, f_r_0, f_r_1, f_r_2, q_r⟩ := B_r.all3
  go_wp2_with fail
  refine callsNamed ?_
  intro p5 hp
  clear q_r_0 q_r_1 q_r_2 f_r_0 f_r_1 f_r_2 q_r
  have O' : Old w p5 := (by rw [hp]; exact Below.trans (b := w4) O oldA)
  replace B_r : Bx p5 (w.heap.size) #[.bool false, .slice none 0 0, .slice none 0 0] := (bxK B_r hp)
  replace r3 := rowK r3 hp
  have zp5 : w4.heap.size ≤ p5.heap.size := (by rw [hp]; exact leA)
  clear hp O
  have O := O'
  clear O'
  refine (plain_to (by rw [decide_eq_false HGE.out]) (l04One_any A3 c3 G _ _ r3)).mono ?_
  rintro e w5 ⟨rfl, o5⟩
  replace B_r := Bx.old B_r o5
  replace r3 := Row.below r3 o5 (Nat.le_refl _)
  replace O := Old.trans O o5
  have zw5 := o5.size
  obtain ⟨q_r_0, q_r_1, q_r_2, f_r_0, f_r_1, f_r_2, q_r⟩ := B_r.all3
  go_wp2_with fail
  refine callsNamed ?_
  intro p6 hp
  clear q_r_0 q_r_1 q_r_2 f_r_0 f_r_1 f_r_2 q_r
  have O' : Old w p6 := (by rw [hp]; exact Below.trans (b := w5) O oldA)
  replace B_r : Bx p6 (w.heap.size) #[.bool false, .slice none 0 0, .slice none 0 0] := (bxK B_r hp)
  replace r3 := rowK r3 hp
  have zp6 : w5.heap.size ≤ p6.heap.size := (by rw [hp]; exact leA)
  clear hp O
  have O := O'
  clear O'
  refine (l02Div_any A1 A3 c1 c3 x G l1 _ _ (Row.below (B := w.heap.size) h1 O (Nat.le_refl _)) r3 (by omega) (by omega) HGP.out).mono ?_
  rintro e w6 ⟨⟨A7, c7, A8, c8, he, r7, r8⟩, o6⟩
  replace B_r := Bx.old B_r o6
  replace r3 := Row.below r3 o6 (Nat.le_refl _)
  replace O := Old.trans O o6
  have zw6 := o6.size
  replace r7 := Row.more (lo' := p6.heap.size) r7 leA
  replace r8 := Row.more (lo' := p6.heap.size) r8 leA
  have lim_r7 := Row.lim r7
  have lim_r8 := Row.lim r8
  rw [← HX.out] at he r7
  subst he
  obtain ⟨q_r_0, q_r_1, q_r_2, f_r_0, f_r_1, f_r_2, q_r⟩ := B_r.all3
  go_wp2_with fail
  refine callsNamed ?_
  intro p7 hp
  clear q_r_0 q_r_1 q_r_2 f_r_0 f_r_1 f_r_2 q_r
  have O' : Old w p7 := (by rw [hp]; exact Below.trans (b := w6) O oldA)
  replace B_r : Bx p7 (w.heap.size) #[.bool false, .slice none 0 0, .slice none 0 0] := (bxK B_r hp)
  replace r3 := rowK r3 hp
  replace r7 := rowK r7 hp
  replace r8 := rowK r8 hp
  have zp7 : w6.heap.size ≤ p7.heap.size := (by rw [hp]; exact leA)
  clear hp O
  have O := O'
  clear O'
  refine (l02Div_any A2 A3 c2 c3 y G l2 _ _ (Row.below (B := w.heap.size) h2 O (Nat.le_refl _)) r3 (by omega) (by omega) HGP.out).mono ?_
  rintro e w7 ⟨⟨A9, c9, A0, c0, he, r9, r0⟩, o7⟩
  replace B_r := Bx.old B_r o7
  replace r3 := Row.below r3 o7 (Nat.le_refl _)
  replace r7 := Row.below r7 o7 (Nat.le_refl _)
  replace r8 := Row.below r8 o7 (Nat.le_refl _)
  replace O := Old.trans O o7
  have zw7 := o7.size
  replace r9 := Row.more (lo' := p7.heap.size) r9 leA
  replace r0 := Row.more (lo' := p7.heap.size) r0 leA
  have lim_r9 := Row.lim r9
  have lim_r0 := Row.lim r0
  rw [← HY.out] at he r9
  subst he
  obtain ⟨q_r_0, q_r_1, q_r_2, f_r_0, f_r_1, f_r_2, q_r⟩ := B_r.all3
  go_wp2
  refine bodyPost_ret (v := .agg #[.bool false, .slice none 0 0, .slice none 0 0]) (by simp [results, Tryz.results119, go_sem, q_r_0, q_r_1, q_r_2]) rfl ⟨RetR.zero rfl, Below.trans (b := w7) O oldA⟩
theorem l04Low_any (b : Bool) (A1 A2 : Option Addr) (c1 c2 x y l1 l2 : Nat) (w : World) (h1 : NatS w l1 A1 c1 x) (h2 : NatS w l2 A2 c2 y) (hx : len x ≤ 100) (hy : len y ≤ 100) :
    Calls Tryz.prog 119 #[.bool b, .slice A1 (len x) c1, .slice A2 (len y) c2] w fun e w' => RetR e w' w.heap.size (mkF (signed b x) y) ∧ Old w w' := by
  by_cases hp : 0 < y
  case neg => rw [mkF_d0 (by omega)]; exact l04Low_zero b A1 A2 c1 c2 x y l1 l2 w h1 h2 hx hy (by omega)
  by_cases h1' : y = 1
  · by_cases hf : len x ≤ 24
    · exact l04Low_one_fit b A1 A2 c1 c2 x y l1 l2 w h1 h2 hx hy h1' hf
    · rw [mkF_signed_no (fun h => hf (by have := h.1; rwa [h1', Nat.gcd_one_right, Nat.div_one] at this))]
      exact l04Low_one_longx b A1 A2 c1 c2 x y l1 l2 w h1 h2 hx hy h1' hf
  · by_cases hg : Nat.gcd x y = 1
    · by_cases hf : len x ≤ 24
      · by_cases hf2 : len y ≤ 24
        · exact l04Low_low_fit b A1 A2 c1 c2 x y l1 l2 w h1 h2 hx hy hp h1' hg hf hf2
        · rw [mkF_signed_no (fun h => hf2 (by have := h.2; rwa [hg, Nat.div_one] at this))]
          exact l04Low_low_longy b A1 A2 c1 c2 x y l1 l2 w h1 h2 hx hy hp h1' hg hf hf2
      · rw [mkF_signed_no (fun h => hf (by have := h.1; rwa [hg, Nat.div_one] at this))]
        exact l04Low_low_longx b A1 A2 c1 c2 x y l1 l2 w h1 h2 hx hy hp h1' hg hf
    · by_cases hf : len (x / Nat.gcd x y) ≤ 24
      · by_cases hf2 : len (y / Nat.gcd x y) ≤ 24
        · exact l04Low_red_fit b A1 A2 c1 c2 x y l1 l2 w h1 h2 hx hy hp h1' hg hf hf2
        · rw [mkF_signed_no (fun h => hf2 h.2)]
          exact l04Low_red_longy b A1 A2 c1 c2 x y l1 l2 w h1 h2 hx hy hp h1' hg hf hf2
      · rw [mkF_signed_no (fun h => hf h.1)]
        exact l04Low_red_longx b A1 A2 c1 c2 x y l1 l2 w h1 h2 hx hy hp h1' hg hf
end Go.Proofs.YtgchbbjhdeobpaaGreatDoor
