import Derived.Test.YtgchbbjhdeobpaaGreatDoorBigInt
import Derived.Deep.RegionHeld3
import Derived.Deep.DrawnRows
/-
  Big integers: both BigIntOf's; sum, product and order inside (bigAdd, l03Add, bigMul, bigCmp, l03Cmp).
-/
namespace Go.Proofs.YtgchbbjhdeobpaaGreatDoor
set_option linter.unusedVariables false
open Go.RowKit Num
attribute [local go_sem ↓] Go.wp_at_zero Go.wp_at_succ
theorem signed_add (b : Bool) (x y : Nat) : signed b x + signed b y = signed b (x + y) := by cases b <;> simp [signed] <;> omega
theorem signed_sub {b1 b2 : Bool} (hb : (b1 == b2) = false) {x y : Nat} (h : y ≤ x) : signed b1 x + signed b2 y = signed b1 (x - y) := by cases b1 <;> cases b2 <;> simp [signed] at * <;> omega
theorem signed_sub' {b1 b2 : Bool} (hb : (b1 == b2) = false) {x y : Nat} (h : ¬ y ≤ x) : signed b1 x + signed b2 y = signed b2 (y - x) := by cases b1 <;> cases b2 <;> simp [signed] at * <;> omega
theorem signed_mul (b1 b2 : Bool) (x y : Nat) : signed b1 x * signed b2 y = signed (b1 != b2) (x * y) := by
  have h : ((x * y : Nat) : Int) = (x : Int) * (y : Int) := Int.natCast_mul _ _
  cases b1 <;> cases b2 <;> simp [signed, h, Int.neg_mul, Int.mul_neg]
theorem mk_sgn (b : Bool) (x : Nat) : (b && decide (0 < x)) = sgnZ (signed b x) := by rw [sgn_signed]

theorem len_dec (x : Nat) : decide (0 < len x) = decide (0 < x) := decide_eq_decide.2 len_pos_iff'
set_option maxRecDepth 100000 in
set_option maxHeartbeats 1000000 in
theorem bigAdd_same (b1 b2 : Bool) (A1 A2 : Option Addr) (c1 c2 x y lo1 lo2 : Nat) (w : World) (h1 : NatS w lo1 A1 c1 x) (h2 : NatS w lo2 A2 c2 y) (hb : (b1 == b2) = true) (hx : len x ≤ 200) (hy : len y ≤ 200) :
    Calls Tryz.prog 72 #[.agg #[.bool b1, .slice A1 (len x) c1], .agg #[.bool b2, .slice A2 (len y) c2]] w fun e w' => RetB e w' w.heap.size (signed b1 (x + y)) ∧ Old w w' := by
  have hal := add_len_le x y
  have Hal : len (x + y) ≤ 1000 := by omega
  clear hal
  have O : Old w (((w.alloc (.cells #[.bool b1, .slice A1 (len x) c1] 24)).alloc (.cells #[.bool b2, .slice A2 (len y) c2] 24)).alloc (.cells #[.bool false, .slice none 0 0] 24)) := oldA
  have B_x : Bx (((w.alloc (.cells #[.bool b1, .slice A1 (len x) c1] 24)).alloc (.cells #[.bool b2, .slice A2 (len y) c2] 24)).alloc (.cells #[.bool false, .slice none 0 0] 24)) (w.heap.size) #[.bool b1, .slice A1 (len x) c1] := by have h := (Bx.alloc (Bx.alloc (Bx.new w #[.bool b1, .slice A1 (len x) c1] 24) (.cells #[.bool b2, .slice A2 (len y) c2] 24)) (.cells #[.bool false, .slice none 0 0] 24)); simpa using h
  have B_y : Bx (((w.alloc (.cells #[.bool b1, .slice A1 (len x) c1] 24)).alloc (.cells #[.bool b2, .slice A2 (len y) c2] 24)).alloc (.cells #[.bool false, .slice none 0 0] 24)) (w.heap.size + 1) #[.bool b2, .slice A2 (len y) c2] := by have h := (Bx.alloc (Bx.new (w.alloc (.cells #[.bool b1, .slice A1 (len x) c1] 24)) #[.bool b2, .slice A2 (len y) c2] 24) (.cells #[.bool false, .slice none 0 0] 24)); simpa using h
  have B_r : Bx (((w.alloc (.cells #[.bool b1, .slice A1 (len x) c1] 24)).alloc (.cells #[.bool b2, .slice A2 (len y) c2] 24)).alloc (.cells #[.bool false, .slice none 0 0] 24)) (w.heap.size + 1 + 1) #[.bool false, .slice none 0 0] := by have h := (Bx.new ((w.alloc (.cells #[.bool b1, .slice A1 (len x) c1] 24)).alloc (.cells #[.bool b2, .slice A2 (len y) c2] 24)) #[.bool false, .slice none 0 0] 24); simpa using h
  have ne_0_1 : ¬ (w.heap.size = w.heap.size + 1) := by omega
  have ne_0_2 : ¬ (w.heap.size = w.heap.size + 1 + 1) := by omega
  have ne_1_0 : ¬ (w.heap.size + 1 = w.heap.size) := by omega
  have ne_1_2 : ¬ (w.heap.size + 1 = w.heap.size + 1 + 1) := by omega
  have ne_2_0 : ¬ (w.heap.size + 1 + 1 = w.heap.size) := by omega
  have ne_2_1 : ¬ (w.heap.size + 1 + 1 = w.heap.size + 1) := by omega
  replace h1 := Row.below h1 O (Nat.le_refl _)
  replace h2 := Row.below h2 O (Nat.le_refl _)
  go_enter Tryz.func72, Tryz.ntmps72
  go_wp2_with fail
  go_region_held3 (fun w' => w'.cell? ⟨w.heap.size, 0, none⟩ = some (.bool b1) ∧ w'.cell? ⟨w.heap.size, 1, none⟩ = some (.slice A1 (len x) c1) ∧ w'.cell? ⟨w.heap.size + 1, 0, none⟩ = some (.bool b2) ∧ w'.cell? ⟨w.heap.size + 1, 1, none⟩ = some (.slice A2 (len y) c2)) (go_keep)
    (first
     | (go_at_call 99; refine (natAdd_any A1 A2 c1 c2 x y lo1 lo2 _ (Row.below (B := (((w.alloc (.cells #[.bool b1, .slice A1 (len x) c1] 24)).alloc (.cells #[.bool b2, .slice A2 (len y) c2] 24)).alloc (.cells #[.bool false, .slice none 0 0] 24)).heap.size) h1 oldA (Nat.le_refl _)) (Row.below (B := (((w.alloc (.cells #[.bool b1, .slice A1 (len x) c1] 24)).alloc (.cells #[.bool b2, .slice A2 (len y) c2] 24)).alloc (.cells #[.bool false, .slice none 0 0] 24)).heap.size) h2 oldA (Nat.le_refl _)) (by omega) (by omega)).mono ?_; rintro e w1 ⟨A, c, rfl, r1, o1⟩; replace o1 : Old (((w.alloc (.cells #[.bool b1, .slice A1 (len x) c1] 24)).alloc (.cells #[.bool b2, .slice A2 (len y) c2] 24)).alloc (.cells #[.bool false, .slice none 0 0] 24)) w1 := Below.trans (b := _) oldA (Below.mono o1 leA); replace B_x := Bx.old B_x o1; replace B_y := Bx.old B_y o1; replace B_r := Bx.old B_r o1; replace h1 := Row.below h1 o1 (Nat.le_refl _); replace h2 := Row.below h2 o1 (Nat.le_refl _); replace O := Old.trans O o1; have z1 : w.heap.size + 3 ≤ w1.heap.size := (by have h := o1.size; simp at h; omega); replace r1 := Row.more (lo' := w.heap.size + 1 + 1 + 1) r1 leA; have q_x_0 := B_x.cell 0 rfl; have q_x_1 := B_x.cell 1 rfl; have f_x_0 := B_x.frozen 0; have f_x_1 := B_x.frozen 1; have q_x := B_x.lt; have q_y_0 := B_y.cell 0 rfl; have q_y_1 := B_y.cell 1 rfl; have f_y_0 := B_y.frozen 0; have f_y_1 := B_y.frozen 1; have q_y := B_y.lt; have q_r_0 := B_r.cell 0 rfl; have q_r_1 := B_r.cell 1 rfl; have f_r_0 := B_r.frozen 0; have f_r_1 := B_r.frozen 1; have q_r := B_r.lt)
     | (go_at_call 78; refine (bigMake_any b1 A (len (x + y)) c _).mono ?_; rintro e w2 ⟨rfl, o2⟩; clear q_x_0 q_x_1 f_x_0 f_x_1 q_x q_y_0 q_y_1 f_y_0 f_y_1 q_y q_r_0 q_r_1 f_r_0 f_r_1 q_r; replace o2 : Old w1 w2 := Below.trans (b := _) oldA (Below.mono o2 leA); replace B_x := Bx.old B_x o2; replace B_y := Bx.old B_y o2; replace B_r := Bx.old B_r o2; replace h1 := Row.below h1 o2 (Nat.le_refl _); replace h2 := Row.below h2 o2 (Nat.le_refl _); replace r1 := Row.below r1 o2 (Nat.le_refl _); replace O := Old.trans O o2; have z2 := o2.size; have q_x_0 := B_x.cell 0 rfl; have q_x_1 := B_x.cell 1 rfl; have f_x_0 := B_x.frozen 0; have f_x_1 := B_x.frozen 1; have q_x := B_x.lt; have q_y_0 := B_y.cell 0 rfl; have q_y_1 := B_y.cell 1 rfl; have f_y_0 := B_y.frozen 0; have f_y_1 := B_y.frozen 1; have q_y := B_y.lt; have q_r_0 := B_r.cell 0 rfl; have q_r_1 := B_r.cell 1 rfl; have f_r_0 := B_r.frozen 0; have f_r_1 := B_r.frozen 1; have q_r := B_r.lt))
  go_wp2
  refine bodyPost_ret (v := .agg #[.bool (b1 && decide (0 < len (x + y))), .slice A (len (x + y)) c]) (by simp [results, Tryz.results72, go_sem, q_r_0, q_r_1]) rfl ⟨RetB.mk' (b := b1) (x := x + y) (A := A) (c := c) (by rw [len_dec]) ?_ rfl, ?_⟩
  · refine Row.more (lo := w.heap.size + 1 + 1 + 1) ?_ leA
    repeat' (first | exact r1 | refine Row.far_set ?_ (by first | (simp <;> done) | (simp; omega) | omega) _)
  · exact oldA
set_option maxRecDepth 100000 in
set_option maxHeartbeats 1000000 in
theorem bigAdd_ge (b1 b2 : Bool) (A1 A2 : Option Addr) (c1 c2 x y lo1 lo2 : Nat) (w : World) (h1 : NatS w lo1 A1 c1 x) (h2 : NatS w lo2 A2 c2 y) (hb : (b1 == b2) = false) (hc : y ≤ x) (hx : len x ≤ 200) (hy : len y ≤ 200) :
    Calls Tryz.prog 72 #[.agg #[.bool b1, .slice A1 (len x) c1], .agg #[.bool b2, .slice A2 (len y) c2]] w fun e w' => RetB e w' w.heap.size (signed b1 (x - y)) ∧ Old w w' := by
  have hal := sub_len (x := x) (y := y)
  have Hal : len (x - y) ≤ 1000 := by omega
  clear hal
  have hd : (0 : Int) ≤ cmpN x y := cmpN_nonneg.2 hc
  have O : Old w (((w.alloc (.cells #[.bool b1, .slice A1 (len x) c1] 24)).alloc (.cells #[.bool b2, .slice A2 (len y) c2] 24)).alloc (.cells #[.bool false, .slice none 0 0] 24)) := oldA
  have B_x : Bx (((w.alloc (.cells #[.bool b1, .slice A1 (len x) c1] 24)).alloc (.cells #[.bool b2, .slice A2 (len y) c2] 24)).alloc (.cells #[.bool false, .slice none 0 0] 24)) (w.heap.size) #[.bool b1, .slice A1 (len x) c1] := by have h := (Bx.alloc (Bx.alloc (Bx.new w #[.bool b1, .slice A1 (len x) c1] 24) (.cells #[.bool b2, .slice A2 (len y) c2] 24)) (.cells #[.bool false, .slice none 0 0] 24)); simpa using h
  have B_y : Bx (((w.alloc (.cells #[.bool b1, .slice A1 (len x) c1] 24)).alloc (.cells #[.bool b2, .slice A2 (len y) c2] 24)).alloc (.cells #[.bool false, .slice none 0 0] 24)) (w.heap.size + 1) #[.bool b2, .slice A2 (len y) c2] := by have h := (Bx.alloc (Bx.new (w.alloc (.cells #[.bool b1, .slice A1 (len x) c1] 24)) #[.bool b2, .slice A2 (len y) c2] 24) (.cells #[.bool false, .slice none 0 0] 24)); simpa using h
  have B_r : Bx (((w.alloc (.cells #[.bool b1, .slice A1 (len x) c1] 24)).alloc (.cells #[.bool b2, .slice A2 (len y) c2] 24)).alloc (.cells #[.bool false, .slice none 0 0] 24)) (w.heap.size + 1 + 1) #[.bool false, .slice none 0 0] := by have h := (Bx.new ((w.alloc (.cells #[.bool b1, .slice A1 (len x) c1] 24)).alloc (.cells #[.bool b2, .slice A2 (len y) c2] 24)) #[.bool false, .slice none 0 0] 24); simpa using h
  have ne_0_1 : ¬ (w.heap.size = w.heap.size + 1) := by omega
  have ne_0_2 : ¬ (w.heap.size = w.heap.size + 1 + 1) := by omega
  have ne_1_0 : ¬ (w.heap.size + 1 = w.heap.size) := by omega
  have ne_1_2 : ¬ (w.heap.size + 1 = w.heap.size + 1 + 1) := by omega
  have ne_2_0 : ¬ (w.heap.size + 1 + 1 = w.heap.size) := by omega
  have ne_2_1 : ¬ (w.heap.size + 1 + 1 = w.heap.size + 1) := by omega
  replace h1 := Row.below h1 O (Nat.le_refl _)
  replace h2 := Row.below h2 O (Nat.le_refl _)
  go_enter Tryz.func72, Tryz.ntmps72
  go_wp2_with fail
  refine (natCmp_any A1 A2 c1 c2 x y lo1 lo2 _ (Row.below (B := (((w.alloc (.cells #[.bool b1, .slice A1 (len x) c1] 24)).alloc (.cells #[.bool b2, .slice A2 (len y) c2] 24)).alloc (.cells #[.bool false, .slice none 0 0] 24)).heap.size) h1 oldA (Nat.le_refl _)) (Row.below (B := (((w.alloc (.cells #[.bool b1, .slice A1 (len x) c1] 24)).alloc (.cells #[.bool b2, .slice A2 (len y) c2] 24)).alloc (.cells #[.bool false, .slice none 0 0] 24)).heap.size) h2 oldA (Nat.le_refl _)) (by omega) (by omega)).mono ?_
  rintro e w1 ⟨rfl, o1⟩
  replace o1 : Old (((w.alloc (.cells #[.bool b1, .slice A1 (len x) c1] 24)).alloc (.cells #[.bool b2, .slice A2 (len y) c2] 24)).alloc (.cells #[.bool false, .slice none 0 0] 24)) w1 := Below.trans (b := _) oldA (Below.mono o1 leA)
  replace B_x := Bx.old B_x o1
  replace B_y := Bx.old B_y o1
  replace B_r := Bx.old B_r o1
  replace h1 := Row.below h1 o1 (Nat.le_refl _)
  replace h2 := Row.below h2 o1 (Nat.le_refl _)
  replace O := Old.trans O o1
  have z1 : w.heap.size + 3 ≤ w1.heap.size := (by have h := o1.size; simp at h; omega)
  have q_x_0 := B_x.cell 0 rfl
  have q_x_1 := B_x.cell 1 rfl
  have f_x_0 := B_x.frozen 0
  have f_x_1 := B_x.frozen 1
  have q_x := B_x.lt
  have q_y_0 := B_y.cell 0 rfl
  have q_y_1 := B_y.cell 1 rfl
  have f_y_0 := B_y.frozen 0
  have f_y_1 := B_y.frozen 1
  have q_y := B_y.lt
  have q_r_0 := B_r.cell 0 rfl
  have q_r_1 := B_r.cell 1 rfl
  have f_r_0 := B_r.frozen 0
  have f_r_1 := B_r.frozen 1
  have q_r := B_r.lt
  go_wp2_with fail
  go_region_held3 (fun w' => w'.cell? ⟨w.heap.size, 0, none⟩ = some (.bool b1) ∧ w'.cell? ⟨w.heap.size, 1, none⟩ = some (.slice A1 (len x) c1) ∧ w'.cell? ⟨w.heap.size + 1, 0, none⟩ = some (.bool b2) ∧ w'.cell? ⟨w.heap.size + 1, 1, none⟩ = some (.slice A2 (len y) c2)) (go_keep)
    (first
     | (go_at_call 101; refine (natSub_any A1 A2 c1 c2 x y lo1 lo2 _ (Row.below (B := w1.heap.size) h1 oldA (Nat.le_refl _)) (Row.below (B := w1.heap.size) h2 oldA (Nat.le_refl _)) (by omega) (by omega) hc).mono ?_; rintro e w2 ⟨A, c, rfl, r1, o2⟩; clear q_x_0 q_x_1 f_x_0 f_x_1 q_x q_y_0 q_y_1 f_y_0 f_y_1 q_y q_r_0 q_r_1 f_r_0 f_r_1 q_r; replace o2 : Old w1 w2 := Below.trans (b := _) oldA (Below.mono o2 leA); replace B_x := Bx.old B_x o2; replace B_y := Bx.old B_y o2; replace B_r := Bx.old B_r o2; replace h1 := Row.below h1 o2 (Nat.le_refl _); replace h2 := Row.below h2 o2 (Nat.le_refl _); replace O := Old.trans O o2; have z2 := o2.size; replace r1 := Row.more (lo' := w1.heap.size) r1 leA; have q_x_0 := B_x.cell 0 rfl; have q_x_1 := B_x.cell 1 rfl; have f_x_0 := B_x.frozen 0; have f_x_1 := B_x.frozen 1; have q_x := B_x.lt; have q_y_0 := B_y.cell 0 rfl; have q_y_1 := B_y.cell 1 rfl; have f_y_0 := B_y.frozen 0; have f_y_1 := B_y.frozen 1; have q_y := B_y.lt; have q_r_0 := B_r.cell 0 rfl; have q_r_1 := B_r.cell 1 rfl; have f_r_0 := B_r.frozen 0; have f_r_1 := B_r.frozen 1; have q_r := B_r.lt)
     | (go_at_call 78; refine (bigMake_any b1 A (len (x - y)) c _).mono ?_; rintro e w3 ⟨rfl, o3⟩; clear q_x_0 q_x_1 f_x_0 f_x_1 q_x q_y_0 q_y_1 f_y_0 f_y_1 q_y q_r_0 q_r_1 f_r_0 f_r_1 q_r; replace o3 : Old w2 w3 := Below.trans (b := _) oldA (Below.mono o3 leA); replace B_x := Bx.old B_x o3; replace B_y := Bx.old B_y o3; replace B_r := Bx.old B_r o3; replace h1 := Row.below h1 o3 (Nat.le_refl _); replace h2 := Row.below h2 o3 (Nat.le_refl _); replace r1 := Row.below r1 o3 (Nat.le_refl _); replace O := Old.trans O o3; have z3 := o3.size; have q_x_0 := B_x.cell 0 rfl; have q_x_1 := B_x.cell 1 rfl; have f_x_0 := B_x.frozen 0; have f_x_1 := B_x.frozen 1; have q_x := B_x.lt; have q_y_0 := B_y.cell 0 rfl; have q_y_1 := B_y.cell 1 rfl; have f_y_0 := B_y.frozen 0; have f_y_1 := B_y.frozen 1; have q_y := B_y.lt; have q_r_0 := B_r.cell 0 rfl; have q_r_1 := B_r.cell 1 rfl; have f_r_0 := B_r.frozen 0; have f_r_1 := B_r.frozen 1; have q_r := B_r.lt))
  go_wp2
  refine bodyPost_ret (v := .agg #[.bool (b1 && decide (0 < len (x - y))), .slice A (len (x - y)) c]) (by simp [results, Tryz.results72, go_sem, q_r_0, q_r_1]) rfl ⟨RetB.mk' (b := b1) (x := x - y) (A := A) (c := c) (by rw [len_dec]) ?_ rfl, ?_⟩
  · refine Row.more (lo := w1.heap.size) ?_ leA
    repeat' (first | exact r1 | refine Row.far_set ?_ (by first | (simp <;> done) | (simp; omega) | omega) _)
  · exact oldA
set_option maxRecDepth 100000 in
set_option maxHeartbeats 1000000 in
theorem bigAdd_lt (b1 b2 : Bool) (A1 A2 : Option Addr) (c1 c2 x y lo1 lo2 : Nat) (w : World) (h1 : NatS w lo1 A1 c1 x) (h2 : NatS w lo2 A2 c2 y) (hb : (b1 == b2) = false) (hc : ¬ y ≤ x) (hx : len x ≤ 200) (hy : len y ≤ 200) :
    Calls Tryz.prog 72 #[.agg #[.bool b1, .slice A1 (len x) c1], .agg #[.bool b2, .slice A2 (len y) c2]] w fun e w' => RetB e w' w.heap.size (signed b2 (y - x)) ∧ Old w w' := by
  have hal := sub_len (x := y) (y := x)
  have Hal : len (y - x) ≤ 1000 := by omega
  clear hal
  have hd : ¬ (0 : Int) ≤ cmpN x y := fun h => hc (cmpN_nonneg.1 h)
  have hd' : cmpN x y < 0 := by omega
  have hc2 : x ≤ y := by omega
  have O : Old w (((w.alloc (.cells #[.bool b1, .slice A1 (len x) c1] 24)).alloc (.cells #[.bool b2, .slice A2 (len y) c2] 24)).alloc (.cells #[.bool false, .slice none 0 0] 24)) := oldA
  have B_x : Bx (((w.alloc (.cells #[.bool b1, .slice A1 (len x) c1] 24)).alloc (.cells #[.bool b2, .slice A2 (len y) c2] 24)).alloc (.cells #[.bool false, .slice none 0 0] 24)) (w.heap.size) #[.bool b1, .slice A1 (len x) c1] := by have h := (Bx.alloc (Bx.alloc (Bx.new w #[.bool b1, .slice A1 (len x) c1] 24) (.cells #[.bool b2, .slice A2 (len y) c2] 24)) (.cells #[.bool false, .slice none 0 0] 24)); simpa using h
  have B_y : Bx (((w.alloc (.cells #[.bool b1, .slice A1 (len x) c1] 24)).alloc (.cells #[.bool b2, .slice A2 (len y) c2] 24)).alloc (.cells #[.bool false, .slice none 0 0] 24)) (w.heap.size + 1) #[.bool b2, .slice A2 (len y) c2] := by have h := (Bx.alloc (Bx.new (w.alloc (.cells #[.bool b1, .slice A1 (len x) c1] 24)) #[.bool b2, .slice A2 (len y) c2] 24) (.cells #[.bool false, .slice none 0 0] 24)); simpa using h
  have B_r : Bx (((w.alloc (.cells #[.bool b1, .slice A1 (len x) c1] 24)).alloc (.cells #[.bool b2, .slice A2 (len y) c2] 24)).alloc (.cells #[.bool false, .slice none 0 0] 24)) (w.heap.size + 1 + 1) #[.bool false, .slice none 0 0] := by have h := (Bx.new ((w.alloc (.cells #[.bool b1, .slice A1 (len x) c1] 24)).alloc (.cells #[.bool b2, .slice A2 (len y) c2] 24)) #[.bool false, .slice none 0 0] 24); simpa using h
  have ne_0_1 : ¬ (w.heap.size = w.heap.size + 1) := by omega
  have ne_0_2 : ¬ (w.heap.size = w.heap.size + 1 + 1) := by omega
  have ne_1_0 : ¬ (w.heap.size + 1 = w.heap.size) := by omega
  have ne_1_2 : ¬ (w.heap.size + 1 = w.heap.size + 1 + 1) := by omega
  have ne_2_0 : ¬ (w.heap.size + 1 + 1 = w.heap.size) := by omega
  have ne_2_1 : ¬ (w.heap.size + 1 + 1 = w.heap.size + 1) := by omega
  replace h1 := Row.below h1 O (Nat.le_refl _)
  replace h2 := Row.below h2 O (Nat.le_refl _)
  go_enter Tryz.func72, Tryz.ntmps72
  go_wp2_with fail
  refine (natCmp_any A1 A2 c1 c2 x y lo1 lo2 _ (Row.below (B := (((w.alloc (.cells #[.bool b1, .slice A1 (len x) c1] 24)).alloc (.cells #[.bool b2, .slice A2 (len y) c2] 24)).alloc (.cells #[.bool false, .slice none 0 0] 24)).heap.size) h1 oldA (Nat.le_refl _)) (Row.below (B := (((w.alloc (.cells #[.bool b1, .slice A1 (len x) c1] 24)).alloc (.cells #[.bool b2, .slice A2 (len y) c2] 24)).alloc (.cells #[.bool false, .slice none 0 0] 24)).heap.size) h2 oldA (Nat.le_refl _)) (by omega) (by omega)).mono ?_
  rintro e w1 ⟨rfl, o1⟩
  replace o1 : Old (((w.alloc (.cells #[.bool b1, .slice A1 (len x) c1] 24)).alloc (.cells #[.bool b2, .slice A2 (len y) c2] 24)).alloc (.cells #[.bool false, .slice none 0 0] 24)) w1 := Below.trans (b := _) oldA (Below.mono o1 leA)
  replace B_x := Bx.old B_x o1
  replace B_y := Bx.old B_y o1
  replace B_r := Bx.old B_r o1
  replace h1 := Row.below h1 o1 (Nat.le_refl _)
  replace h2 := Row.below h2 o1 (Nat.le_refl _)
  replace O := Old.trans O o1
  have z1 : w.heap.size + 3 ≤ w1.heap.size := (by have h := o1.size; simp at h; omega)
  have q_x_0 := B_x.cell 0 rfl
  have q_x_1 := B_x.cell 1 rfl
  have f_x_0 := B_x.frozen 0
  have f_x_1 := B_x.frozen 1
  have q_x := B_x.lt
  have q_y_0 := B_y.cell 0 rfl
  have q_y_1 := B_y.cell 1 rfl
  have f_y_0 := B_y.frozen 0
  have f_y_1 := B_y.frozen 1
  have q_y := B_y.lt
  have q_r_0 := B_r.cell 0 rfl
  have q_r_1 := B_r.cell 1 rfl
  have f_r_0 := B_r.frozen 0
  have f_r_1 := B_r.frozen 1
  have q_r := B_r.lt
  go_wp2_with fail
  go_region_held3 (fun w' => w'.cell? ⟨w.heap.size, 0, none⟩ = some (.bool b1) ∧ w'.cell? ⟨w.heap.size, 1, none⟩ = some (.slice A1 (len x) c1) ∧ w'.cell? ⟨w.heap.size + 1, 0, none⟩ = some (.bool b2) ∧ w'.cell? ⟨w.heap.size + 1, 1, none⟩ = some (.slice A2 (len y) c2)) (go_keep)
    (first
     | (go_at_call 101; refine (natSub_any A2 A1 c2 c1 y x lo2 lo1 _ (Row.below (B := w1.heap.size) h2 oldA (Nat.le_refl _)) (Row.below (B := w1.heap.size) h1 oldA (Nat.le_refl _)) (by omega) (by omega) hc2).mono ?_; rintro e w2 ⟨A, c, rfl, r1, o2⟩; clear q_x_0 q_x_1 f_x_0 f_x_1 q_x q_y_0 q_y_1 f_y_0 f_y_1 q_y q_r_0 q_r_1 f_r_0 f_r_1 q_r; replace o2 : Old w1 w2 := Below.trans (b := _) oldA (Below.mono o2 leA); replace B_x := Bx.old B_x o2; replace B_y := Bx.old B_y o2; replace B_r := Bx.old B_r o2; replace h1 := Row.below h1 o2 (Nat.le_refl _); replace h2 := Row.below h2 o2 (Nat.le_refl _); replace O := Old.trans O o2; have z2 := o2.size; replace r1 := Row.more (lo' := w1.heap.size) r1 leA; have q_x_0 := B_x.cell 0 rfl; have q_x_1 := B_x.cell 1 rfl; have f_x_0 := B_x.frozen 0; have f_x_1 := B_x.frozen 1; have q_x := B_x.lt; have q_y_0 := B_y.cell 0 rfl; have q_y_1 := B_y.cell 1 rfl; have f_y_0 := B_y.frozen 0; have f_y_1 := B_y.frozen 1; have q_y := B_y.lt; have q_r_0 := B_r.cell 0 rfl; have q_r_1 := B_r.cell 1 rfl; have f_r_0 := B_r.frozen 0; have f_r_1 := B_r.frozen 1; have q_r := B_r.lt)
     | (go_at_call 78; refine (bigMake_any b2 A (len (y - x)) c _).mono ?_; rintro e w3 ⟨rfl, o3⟩; clear q_x_0 q_x_1 f_x_0 f_x_1 q_x q_y_0 q_y_1 f_y_0 f_y_1 q_y q_r_0 q_r_1 f_r_0 f_r_1 q_r; replace o3 : Old w2 w3 := Below.trans (b := _) oldA (Below.mono o3 leA); replace B_x := Bx.old B_x o3; replace B_y := Bx.old B_y o3; replace B_r := Bx.old B_r o3; replace h1 := Row.below h1 o3 (Nat.le_refl _); replace h2 := Row.below h2 o3 (Nat.le_refl _); replace r1 := Row.below r1 o3 (Nat.le_refl _); replace O := Old.trans O o3; have z3 := o3.size; have q_x_0 := B_x.cell 0 rfl; have q_x_1 := B_x.cell 1 rfl; have f_x_0 := B_x.frozen 0; have f_x_1 := B_x.frozen 1; have q_x := B_x.lt; have q_y_0 := B_y.cell 0 rfl; have q_y_1 := B_y.cell 1 rfl; have f_y_0 := B_y.frozen 0; have f_y_1 := B_y.frozen 1; have q_y := B_y.lt; have q_r_0 := B_r.cell 0 rfl; have q_r_1 := B_r.cell 1 rfl; have f_r_0 := B_r.frozen 0; have f_r_1 := B_r.frozen 1; have q_r := B_r.lt))
  go_wp2
  refine bodyPost_ret (v := .agg #[.bool (b2 && decide (0 < len (y - x))), .slice A (len (y - x)) c]) (by simp [results, Tryz.results72, go_sem, q_r_0, q_r_1]) rfl ⟨RetB.mk' (b := b2) (x := y - x) (A := A) (c := c) (by rw [len_dec]) ?_ rfl, ?_⟩
  · refine Row.more (lo := w1.heap.size) ?_ leA
    repeat' (first | exact r1 | refine Row.far_set ?_ (by first | (simp <;> done) | (simp; omega) | omega) _)
  · exact oldA
theorem bigAdd_any (b1 b2 : Bool) (A1 A2 : Option Addr) (c1 c2 x y lo1 lo2 : Nat) (w : World) (h1 : NatS w lo1 A1 c1 x) (h2 : NatS w lo2 A2 c2 y) (hx : len x ≤ 200) (hy : len y ≤ 200) :
    Calls Tryz.prog 72 #[.agg #[.bool b1, .slice A1 (len x) c1], .agg #[.bool b2, .slice A2 (len y) c2]] w fun e w' => RetB e w' w.heap.size (signed b1 x + signed b2 y) ∧ Old w w' := by
  by_cases hb : (b1 == b2) = true
  · have e : b1 = b2 := by simpa using hb
    have hz : signed b1 x + signed b2 y = signed b1 (x + y) := by subst e; rw [signed_add]
    rw [hz]
    exact bigAdd_same b1 b2 A1 A2 c1 c2 x y lo1 lo2 w h1 h2 hb hx hy
  · have hb' : (b1 == b2) = false := by simpa using hb
    by_cases hc : y ≤ x
    · have hz : signed b1 x + signed b2 y = signed b1 (x - y) := by rw [signed_sub hb' hc]
      rw [hz]
      exact bigAdd_ge b1 b2 A1 A2 c1 c2 x y lo1 lo2 w h1 h2 hb' hc hx hy
    · have hz : signed b1 x + signed b2 y = signed b2 (y - x) := by rw [signed_sub' hb' hc]
      rw [hz]
      exact bigAdd_lt b1 b2 A1 A2 c1 c2 x y lo1 lo2 w h1 h2 hb' hc hx hy
end Go.Proofs.YtgchbbjhdeobpaaGreatDoor
