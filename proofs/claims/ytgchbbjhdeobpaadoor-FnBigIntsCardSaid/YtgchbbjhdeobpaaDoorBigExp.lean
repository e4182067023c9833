import Derived.Test.YtgchbbjhdeobpaaDoorBigMake
/-
  Big integers: the exported sum, difference, product and order, the program's and the reference's.
-/
namespace Go.Proofs.YtgchbbjhdeobpaaDoor
set_option linter.unusedVariables false
open Go.RowKit Num
attribute [local go_sem ↓] Go.wp_at_zero Go.wp_at_succ
open Classical in
noncomputable def zBigIntAdd (b1 : Bool) (n : Nat) (f : Nat → Int) (b2 : Bool) (m : Nat) (g : Nat → Int) : Int := if okB b1 n f ∧ okB b2 m g then capZ (bigX b1 n f + bigX b2 m g) else 0
theorem zBigIntAdd_yes {b1 b2 : Bool} {n m : Nat} {f g : Nat → Int} (k1 : okB b1 n f) (k2 : okB b2 m g) : zBigIntAdd b1 n f b2 m g = capZ (bigX b1 n f + bigX b2 m g) := if_pos ⟨k1, k2⟩
theorem zBigIntAdd_no1 {b1 b2 : Bool} {n m : Nat} {f g : Nat → Int} (k1 : ¬ okB b1 n f) : zBigIntAdd b1 n f b2 m g = 0 := if_neg fun h => k1 h.1
theorem zBigIntAdd_no2 {b1 b2 : Bool} {n m : Nat} {f g : Nat → Int} (k2 : ¬ okB b2 m g) : zBigIntAdd b1 n f b2 m g = 0 := if_neg fun h => k2 h.2
theorem zBigIntAdd_len (b1 : Bool) (n : Nat) (f : Nat → Int) (b2 : Bool) (m : Nat) (g : Nat → Int) : len (magZ (zBigIntAdd b1 n f b2 m g)) ≤ 60 := by
  unfold zBigIntAdd; split
  · exact capZ_len _
  · have : len (magZ 0) = 0 := len_zero
    omega
set_option maxRecDepth 100000 in
set_option maxHeartbeats 1000000 in
theorem impl_BigIntAdd_yes (b1 b2 : Bool) (A1 A2 : Option Addr) (c1 c2 x y lo1 lo2 : Nat) (w : World) (h1 : NatS w lo1 A1 c1 x) (h2 : NatS w lo2 A2 c2 y) (hx : len x ≤ 60) (hy : len y ≤ 60) (hb1 : b1 = true → 0 < x) (hb2 : b2 = true → 0 < y) :
    Calls Tryd.prog 16 #[.agg #[.bool b1, .slice A1 (len x) c1], .agg #[.bool b2, .slice A2 (len y) c2]] w fun e w' => RetB e w' w.heap.size (capZ (signed b1 x + signed b2 y)) ∧ Old w w' := by
  have Hz : Hid (len (magZ (signed b1 x + signed b2 y)) ≤ 2000) := Lib.hid (add_z_len (by omega) (by omega))
  have HB1 := Lib.hid hb1
  have HB2 := Lib.hid hb2
  clear hb1 hb2
  have O : Old w (((w.alloc (.cells #[.bool b1, .slice A1 (len x) c1] 34)).alloc (.cells #[.bool b2, .slice A2 (len y) c2] 34)).alloc (.cells #[.bool false, .slice none 0 0] 34)) := oldA
  have B_x : Bx (((w.alloc (.cells #[.bool b1, .slice A1 (len x) c1] 34)).alloc (.cells #[.bool b2, .slice A2 (len y) c2] 34)).alloc (.cells #[.bool false, .slice none 0 0] 34)) (w.heap.size) #[.bool b1, .slice A1 (len x) c1] := by have h := (Bx.alloc (Bx.alloc (Bx.new w #[.bool b1, .slice A1 (len x) c1] 34) (.cells #[.bool b2, .slice A2 (len y) c2] 34)) (.cells #[.bool false, .slice none 0 0] 34)); simpa using h
  have B_y : Bx (((w.alloc (.cells #[.bool b1, .slice A1 (len x) c1] 34)).alloc (.cells #[.bool b2, .slice A2 (len y) c2] 34)).alloc (.cells #[.bool false, .slice none 0 0] 34)) (w.heap.size + 1) #[.bool b2, .slice A2 (len y) c2] := by have h := (Bx.alloc (Bx.new (w.alloc (.cells #[.bool b1, .slice A1 (len x) c1] 34)) #[.bool b2, .slice A2 (len y) c2] 34) (.cells #[.bool false, .slice none 0 0] 34)); simpa using h
  have B_r : Bx (((w.alloc (.cells #[.bool b1, .slice A1 (len x) c1] 34)).alloc (.cells #[.bool b2, .slice A2 (len y) c2] 34)).alloc (.cells #[.bool false, .slice none 0 0] 34)) (w.heap.size + 1 + 1) #[.bool false, .slice none 0 0] := by have h := (Bx.new ((w.alloc (.cells #[.bool b1, .slice A1 (len x) c1] 34)).alloc (.cells #[.bool b2, .slice A2 (len y) c2] 34)) #[.bool false, .slice none 0 0] 34); simpa using h
  have ne_0_1 : ¬ (w.heap.size = w.heap.size + 1) := by omega
  have ne_0_2 : ¬ (w.heap.size = w.heap.size + 1 + 1) := by omega
  have ne_1_0 : ¬ (w.heap.size + 1 = w.heap.size) := by omega
  have ne_1_2 : ¬ (w.heap.size + 1 = w.heap.size + 1 + 1) := by omega
  have ne_2_0 : ¬ (w.heap.size + 1 + 1 = w.heap.size) := by omega
  have ne_2_1 : ¬ (w.heap.size + 1 + 1 = w.heap.size + 1) := by omega
  replace h1 := Row.below h1 O (Nat.le_refl _)
  replace h2 := Row.below h2 O (Nat.le_refl _)
  go_enter Tryd.func16, Tryd.ntmps16
  go_wp2_with fail
  refine (areBig_yes b1 b2 A1 A2 c1 c2 x y lo1 lo2 _ (Row.below (B := (((w.alloc (.cells #[.bool b1, .slice A1 (len x) c1] 34)).alloc (.cells #[.bool b2, .slice A2 (len y) c2] 34)).alloc (.cells #[.bool false, .slice none 0 0] 34)).heap.size) h1 oldA (Nat.le_refl _)) (Row.below (B := (((w.alloc (.cells #[.bool b1, .slice A1 (len x) c1] 34)).alloc (.cells #[.bool b2, .slice A2 (len y) c2] 34)).alloc (.cells #[.bool false, .slice none 0 0] 34)).heap.size) h2 oldA (Nat.le_refl _)) hx hy HB1.out HB2.out).mono ?_
  rintro e w1 ⟨rfl, o1⟩
  replace o1 : Old (((w.alloc (.cells #[.bool b1, .slice A1 (len x) c1] 34)).alloc (.cells #[.bool b2, .slice A2 (len y) c2] 34)).alloc (.cells #[.bool false, .slice none 0 0] 34)) w1 := Below.trans (b := _) oldA (Below.mono o1 leA)
  replace B_x := Bx.old B_x o1
  replace B_y := Bx.old B_y o1
  replace B_r := Bx.old B_r o1
  replace h1 := Row.below h1 o1 (Nat.le_refl _)
  replace h2 := Row.below h2 o1 (Nat.le_refl _)
  replace O := Old.trans O o1
  have z1 : w.heap.size + 3 ≤ w1.heap.size := (by have h := o1.size; simp at h; omega)
  have q_x_0 := B_x.cell 0 rfl
  have q_x_1 := B_x.cell 1 rfl
  have f_x_0 := B_x.frozen 0
  have f_x_1 := B_x.frozen 1
  have q_x := B_x.lt
  have q_y_0 := B_y.cell 0 rfl
  have q_y_1 := B_y.cell 1 rfl
  have f_y_0 := B_y.frozen 0
  have f_y_1 := B_y.frozen 1
  have q_y := B_y.lt
  have q_r_0 := B_r.cell 0 rfl
  have q_r_1 := B_r.cell 1 rfl
  have f_r_0 := B_r.frozen 0
  have f_r_1 := B_r.frozen 1
  have q_r := B_r.lt
  go_wp2_with fail
  refine (bigAdd_any b1 b2 A1 A2 c1 c2 x y lo1 lo2 _ (Row.below (B := w1.heap.size) h1 oldA (Nat.le_refl _)) (Row.below (B := w1.heap.size) h2 oldA (Nat.le_refl _)) (by omega) (by omega)).mono ?_
  rintro e w2 ⟨⟨A', c', rfl, r0⟩, o2⟩
  clear q_x_0 q_x_1 f_x_0 f_x_1 q_x q_y_0 q_y_1 f_y_0 f_y_1 q_y q_r_0 q_r_1 f_r_0 f_r_1 q_r
  replace o2 : Old w1 w2 := Below.trans (b := _) oldA (Below.mono o2 leA)
  replace B_x := Bx.old B_x o2
  replace B_y := Bx.old B_y o2
  replace B_r := Bx.old B_r o2
  replace h1 := Row.below h1 o2 (Nat.le_refl _)
  replace h2 := Row.below h2 o2 (Nat.le_refl _)
  replace O := Old.trans O o2
  have z2 := o2.size
  replace r0 := Row.more (lo' := w1.heap.size) r0 leA
  have q_x_0 := B_x.cell 0 rfl
  have q_x_1 := B_x.cell 1 rfl
  have f_x_0 := B_x.frozen 0
  have f_x_1 := B_x.frozen 1
  have q_x := B_x.lt
  have q_y_0 := B_y.cell 0 rfl
  have q_y_1 := B_y.cell 1 rfl
  have f_y_0 := B_y.frozen 0
  have f_y_1 := B_y.frozen 1
  have q_y := B_y.lt
  have q_r_0 := B_r.cell 0 rfl
  have q_r_1 := B_r.cell 1 rfl
  have f_r_0 := B_r.frozen 0
  have f_r_1 := B_r.frozen 1
  have q_r := B_r.lt
  go_wp2_with fail
  refine (ownBig_z (signed b1 x + signed b2 y) A' c' _ _ (Row.below (B := w2.heap.size) r0 oldA (Nat.le_refl _)) Hz.out).mono ?_
  rintro e w3 ⟨⟨A, c, rfl, r1⟩, o3⟩
  clear q_x_0 q_x_1 f_x_0 f_x_1 q_x q_y_0 q_y_1 f_y_0 f_y_1 q_y q_r_0 q_r_1 f_r_0 f_r_1 q_r
  replace o3 : Old w2 w3 := Below.trans (b := _) oldA (Below.mono o3 leA)
  replace B_x := Bx.old B_x o3
  replace B_y := Bx.old B_y o3
  replace B_r := Bx.old B_r o3
  replace h1 := Row.below h1 o3 (Nat.le_refl _)
  replace h2 := Row.below h2 o3 (Nat.le_refl _)
  replace r0 := Row.below r0 o3 (Nat.le_refl _)
  replace O := Old.trans O o3
  have z3 := o3.size
  replace r1 := Row.more (lo' := w2.heap.size) r1 leA
  have q_x_0 := B_x.cell 0 rfl
  have q_x_1 := B_x.cell 1 rfl
  have f_x_0 := B_x.frozen 0
  have f_x_1 := B_x.frozen 1
  have q_x := B_x.lt
  have q_y_0 := B_y.cell 0 rfl
  have q_y_1 := B_y.cell 1 rfl
  have f_y_0 := B_y.frozen 0
  have f_y_1 := B_y.frozen 1
  have q_y := B_y.lt
  have q_r_0 := B_r.cell 0 rfl
  have q_r_1 := B_r.cell 1 rfl
  have f_r_0 := B_r.frozen 0
  have f_r_1 := B_r.frozen 1
  have q_r := B_r.lt
  go_wp2
  refine bodyPost_ret (v := .agg #[.bool (sgnZ (capZ (signed b1 x + signed b2 y))), .slice A (len (magZ (capZ (signed b1 x + signed b2 y)))) c]) (by simp [results, Tryd.results16, go_sem, q_r_0, q_r_1]) rfl ⟨⟨A, c, rfl, ?_⟩, ?_⟩
  · refine Row.more (lo := w2.heap.size) ?_ leA
    repeat' (first | exact r1 | refine Row.far_set ?_ (by first | (simp <;> done) | (simp; omega) | omega) _)
  · exact oldA
set_option maxRecDepth 100000 in
set_option maxHeartbeats 1000000 in
theorem impl_BigIntAdd_no1 (b1 b2 : Bool) (A1 A2 : Option Addr) (n c1 m c2 lo1 : Nat) (f : Nat → Int) (w : World) (h1 : Row w lo1 A1 n c1 f) (hn : n ≤ 1048576) (k1 : ¬ okB b1 n f) :
    Calls Tryd.prog 16 #[.agg #[.bool b1, .slice A1 n c1], .agg #[.bool b2, .slice A2 m c2]] w fun e w' => RetB e w' w.heap.size (0) ∧ Old w w' := by
  have K := Lib.hid k1
  clear k1
  have O : Old w (((w.alloc (.cells #[.bool b1, .slice A1 n c1] 34)).alloc (.cells #[.bool b2, .slice A2 m c2] 34)).alloc (.cells #[.bool false, .slice none 0 0] 34)) := oldA
  have B_x : Bx (((w.alloc (.cells #[.bool b1, .slice A1 n c1] 34)).alloc (.cells #[.bool b2, .slice A2 m c2] 34)).alloc (.cells #[.bool false, .slice none 0 0] 34)) (w.heap.size) #[.bool b1, .slice A1 n c1] := by have h := (Bx.alloc (Bx.alloc (Bx.new w #[.bool b1, .slice A1 n c1] 34) (.cells #[.bool b2, .slice A2 m c2] 34)) (.cells #[.bool false, .slice none 0 0] 34)); simpa using h
  have B_y : Bx (((w.alloc (.cells #[.bool b1, .slice A1 n c1] 34)).alloc (.cells #[.bool b2, .slice A2 m c2] 34)).alloc (.cells #[.bool false, .slice none 0 0] 34)) (w.heap.size + 1) #[.bool b2, .slice A2 m c2] := by have h := (Bx.alloc (Bx.new (w.alloc (.cells #[.bool b1, .slice A1 n c1] 34)) #[.bool b2, .slice A2 m c2] 34) (.cells #[.bool false, .slice none 0 0] 34)); simpa using h
  have B_r : Bx (((w.alloc (.cells #[.bool b1, .slice A1 n c1] 34)).alloc (.cells #[.bool b2, .slice A2 m c2] 34)).alloc (.cells #[.bool false, .slice none 0 0] 34)) (w.heap.size + 1 + 1) #[.bool false, .slice none 0 0] := by have h := (Bx.new ((w.alloc (.cells #[.bool b1, .slice A1 n c1] 34)).alloc (.cells #[.bool b2, .slice A2 m c2] 34)) #[.bool false, .slice none 0 0] 34); simpa using h
  have ne_0_1 : ¬ (w.heap.size = w.heap.size + 1) := by omega
  have ne_0_2 : ¬ (w.heap.size = w.heap.size + 1 + 1) := by omega
  have ne_1_0 : ¬ (w.heap.size + 1 = w.heap.size) := by omega
  have ne_1_2 : ¬ (w.heap.size + 1 = w.heap.size + 1 + 1) := by omega
  have ne_2_0 : ¬ (w.heap.size + 1 + 1 = w.heap.size) := by omega
  have ne_2_1 : ¬ (w.heap.size + 1 + 1 = w.heap.size + 1) := by omega
  replace h1 := Row.below h1 O (Nat.le_refl _)
  go_enter Tryd.func16, Tryd.ntmps16
  go_wp2_with fail
  refine (areBig_no1 b1 b2 A1 A2 n c1 m c2 lo1 f _ (Row.below (B := (((w.alloc (.cells #[.bool b1, .slice A1 n c1] 34)).alloc (.cells #[.bool b2, .slice A2 m c2] 34)).alloc (.cells #[.bool false, .slice none 0 0] 34)).heap.size) h1 oldA (Nat.le_refl _)) hn K.out).mono ?_
  rintro e w1 ⟨rfl, o1⟩
  replace o1 : Old (((w.alloc (.cells #[.bool b1, .slice A1 n c1] 34)).alloc (.cells #[.bool b2, .slice A2 m c2] 34)).alloc (.cells #[.bool false, .slice none 0 0] 34)) w1 := Below.trans (b := _) oldA (Below.mono o1 leA)
  replace B_x := Bx.old B_x o1
  replace B_y := Bx.old B_y o1
  replace B_r := Bx.old B_r o1
  replace h1 := Row.below h1 o1 (Nat.le_refl _)
  replace O := Old.trans O o1
  have z1 : w.heap.size + 3 ≤ w1.heap.size := (by have h := o1.size; simp at h; omega)
  have q_x_0 := B_x.cell 0 rfl
  have q_x_1 := B_x.cell 1 rfl
  have f_x_0 := B_x.frozen 0
  have f_x_1 := B_x.frozen 1
  have q_x := B_x.lt
  have q_y_0 := B_y.cell 0 rfl
  have q_y_1 := B_y.cell 1 rfl
  have f_y_0 := B_y.frozen 0
  have f_y_1 := B_y.frozen 1
  have q_y := B_y.lt
  have q_r_0 := B_r.cell 0 rfl
  have q_r_1 := B_r.cell 1 rfl
  have f_r_0 := B_r.frozen 0
  have f_r_1 := B_r.frozen 1
  have q_r := B_r.lt
  go_wp2
  refine bodyPost_ret (v := .agg #[.bool false, .slice none 0 0]) (by simp [results, Tryd.results16, go_sem, q_r_0, q_r_1]) rfl ⟨RetB.zero rfl, oldA⟩
set_option maxRecDepth 100000 in
set_option maxHeartbeats 1000000 in
theorem impl_BigIntAdd_no2 (b1 b2 : Bool) (A1 A2 : Option Addr) (c1 x m c2 lo1 lo2 : Nat) (g : Nat → Int) (w : World) (h1 : NatS w lo1 A1 c1 x) (h2 : Row w lo2 A2 m c2 g) (hx : len x ≤ 60) (hb1 : b1 = true → 0 < x) (hm : m ≤ 1048576) (k2 : ¬ okB b2 m g) :
    Calls Tryd.prog 16 #[.agg #[.bool b1, .slice A1 (len x) c1], .agg #[.bool b2, .slice A2 m c2]] w fun e w' => RetB e w' w.heap.size (0) ∧ Old w w' := by
  have K := Lib.hid k2
  have HB1 := Lib.hid hb1
  clear k2 hb1
  have O : Old w (((w.alloc (.cells #[.bool b1, .slice A1 (len x) c1] 34)).alloc (.cells #[.bool b2, .slice A2 m c2] 34)).alloc (.cells #[.bool false, .slice none 0 0] 34)) := oldA
  have B_x : Bx (((w.alloc (.cells #[.bool b1, .slice A1 (len x) c1] 34)).alloc (.cells #[.bool b2, .slice A2 m c2] 34)).alloc (.cells #[.bool false, .slice none 0 0] 34)) (w.heap.size) #[.bool b1, .slice A1 (len x) c1] := by have h := (Bx.alloc (Bx.alloc (Bx.new w #[.bool b1, .slice A1 (len x) c1] 34) (.cells #[.bool b2, .slice A2 m c2] 34)) (.cells #[.bool false, .slice none 0 0] 34)); simpa using h
  have B_y : Bx (((w.alloc (.cells #[.bool b1, .slice A1 (len x) c1] 34)).alloc (.cells #[.bool b2, .slice A2 m c2] 34)).alloc (.cells #[.bool false, .slice none 0 0] 34)) (w.heap.size + 1) #[.bool b2, .slice A2 m c2] := by have h := (Bx.alloc (Bx.new (w.alloc (.cells #[.bool b1, .slice A1 (len x) c1] 34)) #[.bool b2, .slice A2 m c2] 34) (.cells #[.bool false, .slice none 0 0] 34)); simpa using h
  have B_r : Bx (((w.alloc (.cells #[.bool b1, .slice A1 (len x) c1] 34)).alloc (.cells #[.bool b2, .slice A2 m c2] 34)).alloc (.cells #[.bool false, .slice none 0 0] 34)) (w.heap.size + 1 + 1) #[.bool false, .slice none 0 0] := by have h := (Bx.new ((w.alloc (.cells #[.bool b1, .slice A1 (len x) c1] 34)).alloc (.cells #[.bool b2, .slice A2 m c2] 34)) #[.bool false, .slice none 0 0] 34); simpa using h
  have ne_0_1 : ¬ (w.heap.size = w.heap.size + 1) := by omega
  have ne_0_2 : ¬ (w.heap.size = w.heap.size + 1 + 1) := by omega
  have ne_1_0 : ¬ (w.heap.size + 1 = w.heap.size) := by omega
  have ne_1_2 : ¬ (w.heap.size + 1 = w.heap.size + 1 + 1) := by omega
  have ne_2_0 : ¬ (w.heap.size + 1 + 1 = w.heap.size) := by omega
  have ne_2_1 : ¬ (w.heap.size + 1 + 1 = w.heap.size + 1) := by omega
  replace h1 := Row.below h1 O (Nat.le_refl _)
  replace h2 := Row.below h2 O (Nat.le_refl _)
  go_enter Tryd.func16, Tryd.ntmps16
  go_wp2_with fail
  refine (areBig_no2 b1 b2 A1 A2 c1 x m c2 lo1 lo2 g _ (Row.below (B := (((w.alloc (.cells #[.bool b1, .slice A1 (len x) c1] 34)).alloc (.cells #[.bool b2, .slice A2 m c2] 34)).alloc (.cells #[.bool false, .slice none 0 0] 34)).heap.size) h1 oldA (Nat.le_refl _)) (Row.below (B := (((w.alloc (.cells #[.bool b1, .slice A1 (len x) c1] 34)).alloc (.cells #[.bool b2, .slice A2 m c2] 34)).alloc (.cells #[.bool false, .slice none 0 0] 34)).heap.size) h2 oldA (Nat.le_refl _)) hx HB1.out hm K.out).mono ?_
  rintro e w1 ⟨rfl, o1⟩
  replace o1 : Old (((w.alloc (.cells #[.bool b1, .slice A1 (len x) c1] 34)).alloc (.cells #[.bool b2, .slice A2 m c2] 34)).alloc (.cells #[.bool false, .slice none 0 0] 34)) w1 := Below.trans (b := _) oldA (Below.mono o1 leA)
  replace B_x := Bx.old B_x o1
  replace B_y := Bx.old B_y o1
  replace B_r := Bx.old B_r o1
  replace h1 := Row.below h1 o1 (Nat.le_refl _)
  replace h2 := Row.below h2 o1 (Nat.le_refl _)
  replace O := Old.trans O o1
  have z1 : w.heap.size + 3 ≤ w1.heap.size := (by have h := o1.size; simp at h; omega)
  have q_x_0 := B_x.cell 0 rfl
  have q_x_1 := B_x.cell 1 rfl
  have f_x_0 := B_x.frozen 0
  have f_x_1 := B_x.frozen 1
  have q_x := B_x.lt
  have q_y_0 := B_y.cell 0 rfl
  have q_y_1 := B_y.cell 1 rfl
  have f_y_0 := B_y.frozen 0
  have f_y_1 := B_y.frozen 1
  have q_y := B_y.lt
  have q_r_0 := B_r.cell 0 rfl
  have q_r_1 := B_r.cell 1 rfl
  have f_r_0 := B_r.frozen 0
  have f_r_1 := B_r.frozen 1
  have q_r := B_r.lt
  go_wp2
  refine bodyPost_ret (v := .agg #[.bool false, .slice none 0 0]) (by simp [results, Tryd.results16, go_sem, q_r_0, q_r_1]) rfl ⟨RetB.zero rfl, oldA⟩
theorem impl_BigIntAdd (b1 : Bool) (A1 : Option Addr) (n c1 lo1 : Nat) (f : Nat → Int) (b2 : Bool) (A2 : Option Addr) (m c2 lo2 : Nat) (g : Nat → Int) (w : World) (h1 : Row w lo1 A1 n c1 f) (h2 : Row w lo2 A2 m c2 g) (hn : n ≤ 1048576) (hm : m ≤ 1048576) :
    Calls Tryd.prog 16 #[.agg #[.bool b1, .slice A1 n c1], .agg #[.bool b2, .slice A2 m c2]] w fun e w' => RetB e w' w.heap.size (zBigIntAdd b1 n f b2 m g) ∧ Old w w' := by
  by_cases k1 : okB b1 n f
  · obtain ⟨x, e1, hx, hb1, v1, s1⟩ := okB_nat k1 h1
    by_cases k2 : okB b2 m g
    · obtain ⟨y, e2, hy, hb2, v2, s2⟩ := okB_nat k2 h2
      rw [zBigIntAdd_yes k1 k2, v1, v2, e1, e2]
      exact impl_BigIntAdd_yes b1 b2 A1 A2 c1 c2 x y lo1 lo2 w s1 s2 hx hy hb1 hb2
    · rw [zBigIntAdd_no2 k2, e1]
      exact impl_BigIntAdd_no2 b1 b2 A1 A2 c1 x m c2 lo1 lo2 g w s1 h2 hx hb1 hm k2
  · rw [zBigIntAdd_no1 k1]
    exact impl_BigIntAdd_no1 b1 b2 A1 A2 n c1 m c2 lo1 f w h1 hn k1
open Classical in
noncomputable def zBigIntSub (b1 : Bool) (n : Nat) (f : Nat → Int) (b2 : Bool) (m : Nat) (g : Nat → Int) : Int := if okB b1 n f ∧ okB b2 m g then capZ (bigX b1 n f - bigX b2 m g) else 0
theorem zBigIntSub_yes {b1 b2 : Bool} {n m : Nat} {f g : Nat → Int} (k1 : okB b1 n f) (k2 : okB b2 m g) : zBigIntSub b1 n f b2 m g = capZ (bigX b1 n f - bigX b2 m g) := if_pos ⟨k1, k2⟩
theorem zBigIntSub_no1 {b1 b2 : Bool} {n m : Nat} {f g : Nat → Int} (k1 : ¬ okB b1 n f) : zBigIntSub b1 n f b2 m g = 0 := if_neg fun h => k1 h.1
theorem zBigIntSub_no2 {b1 b2 : Bool} {n m : Nat} {f g : Nat → Int} (k2 : ¬ okB b2 m g) : zBigIntSub b1 n f b2 m g = 0 := if_neg fun h => k2 h.2
theorem zBigIntSub_len (b1 : Bool) (n : Nat) (f : Nat → Int) (b2 : Bool) (m : Nat) (g : Nat → Int) : len (magZ (zBigIntSub b1 n f b2 m g)) ≤ 60 := by
  unfold zBigIntSub; split
  · exact capZ_len _
  · have : len (magZ 0) = 0 := len_zero
    omega
set_option maxRecDepth 100000 in
set_option maxHeartbeats 1000000 in
theorem impl_BigIntSub_yes (b1 b2 : Bool) (A1 A2 : Option Addr) (c1 c2 x y lo1 lo2 : Nat) (w : World) (h1 : NatS w lo1 A1 c1 x) (h2 : NatS w lo2 A2 c2 y) (hx : len x ≤ 60) (hy : len y ≤ 60) (hb1 : b1 = true → 0 < x) (hb2 : b2 = true → 0 < y) :
    Calls Tryd.prog 18 #[.agg #[.bool b1, .slice A1 (len x) c1], .agg #[.bool b2, .slice A2 (len y) c2]] w fun e w' => RetB e w' w.heap.size (capZ (signed b1 x - signed b2 y)) ∧ Old w w' := by
  have hneg : signed b1 x - signed b2 y = signed b1 x + -signed b2 y := Int.sub_eq_add_neg
  rw [hneg]
  clear hneg
  obtain ⟨t, ht⟩ : ∃ t, t = (!b2 && decide (0 < len y)) := ⟨_, rfl⟩
  have hst : -signed b2 y = signed t y := by rw [ht, ← signed_not]; exact signed_pos (!b2) len_pos_iff'
  rw [hst]
  clear hst
  have HT := Lib.hid ht
  clear ht
  have Hz : Hid (len (magZ (signed b1 x + signed t y)) ≤ 2000) := Lib.hid (add_z_len (by omega) (by omega))
  have HB1 := Lib.hid hb1
  have HB2 := Lib.hid hb2
  clear hb1 hb2
  have O : Old w (((w.alloc (.cells #[.bool b1, .slice A1 (len x) c1] 34)).alloc (.cells #[.bool b2, .slice A2 (len y) c2] 34)).alloc (.cells #[.bool false, .slice none 0 0] 34)) := oldA
  have B_x : Bx (((w.alloc (.cells #[.bool b1, .slice A1 (len x) c1] 34)).alloc (.cells #[.bool b2, .slice A2 (len y) c2] 34)).alloc (.cells #[.bool false, .slice none 0 0] 34)) (w.heap.size) #[.bool b1, .slice A1 (len x) c1] := by have h := (Bx.alloc (Bx.alloc (Bx.new w #[.bool b1, .slice A1 (len x) c1] 34) (.cells #[.bool b2, .slice A2 (len y) c2] 34)) (.cells #[.bool false, .slice none 0 0] 34)); simpa using h
  have B_y : Bx (((w.alloc (.cells #[.bool b1, .slice A1 (len x) c1] 34)).alloc (.cells #[.bool b2, .slice A2 (len y) c2] 34)).alloc (.cells #[.bool false, .slice none 0 0] 34)) (w.heap.size + 1) #[.bool b2, .slice A2 (len y) c2] := by have h := (Bx.alloc (Bx.new (w.alloc (.cells #[.bool b1, .slice A1 (len x) c1] 34)) #[.bool b2, .slice A2 (len y) c2] 34) (.cells #[.bool false, .slice none 0 0] 34)); simpa using h
  have B_r : Bx (((w.alloc (.cells #[.bool b1, .slice A1 (len x) c1] 34)).alloc (.cells #[.bool b2, .slice A2 (len y) c2] 34)).alloc (.cells #[.bool false, .slice none 0 0] 34)) (w.heap.size + 1 + 1) #[.bool false, .slice none 0 0] := by have h := (Bx.new ((w.alloc (.cells #[.bool b1, .slice A1 (len x) c1] 34)).alloc (.cells #[.bool b2, .slice A2 (len y) c2] 34)) #[.bool false, .slice none 0 0] 34); simpa using h
  have ne_0_1 : ¬ (w.heap.size = w.heap.size + 1) := by omega
  have ne_0_2 : ¬ (w.heap.size = w.heap.size + 1 + 1) := by omega
  have ne_1_0 : ¬ (w.heap.size + 1 = w.heap.size) := by omega
  have ne_1_2 : ¬ (w.heap.size + 1 = w.heap.size + 1 + 1) := by omega
  have ne_2_0 : ¬ (w.heap.size + 1 + 1 = w.heap.size) := by omega
  have ne_2_1 : ¬ (w.heap.size + 1 + 1 = w.heap.size + 1) := by omega
  replace h1 := Row.below h1 O (Nat.le_refl _)
  replace h2 := Row.below h2 O (Nat.le_refl _)
  go_enter Tryd.func18, Tryd.ntmps18
  go_wp2_with fail
  refine (areBig_yes b1 b2 A1 A2 c1 c2 x y lo1 lo2 _ (Row.below (B := (((w.alloc (.cells #[.bool b1, .slice A1 (len x) c1] 34)).alloc (.cells #[.bool b2, .slice A2 (len y) c2] 34)).alloc (.cells #[.bool false, .slice none 0 0] 34)).heap.size) h1 oldA (Nat.le_refl _)) (Row.below (B := (((w.alloc (.cells #[.bool b1, .slice A1 (len x) c1] 34)).alloc (.cells #[.bool b2, .slice A2 (len y) c2] 34)).alloc (.cells #[.bool false, .slice none 0 0] 34)).heap.size) h2 oldA (Nat.le_refl _)) hx hy HB1.out HB2.out).mono ?_
  rintro e w1 ⟨rfl, o1⟩
  replace o1 : Old (((w.alloc (.cells #[.bool b1, .slice A1 (len x) c1] 34)).alloc (.cells #[.bool b2, .slice A2 (len y) c2] 34)).alloc (.cells #[.bool false, .slice none 0 0] 34)) w1 := Below.trans (b := _) oldA (Below.mono o1 leA)
  replace B_x := Bx.old B_x o1
  replace B_y := Bx.old B_y o1
  replace B_r := Bx.old B_r o1
  replace h1 := Row.below h1 o1 (Nat.le_refl _)
  replace h2 := Row.below h2 o1 (Nat.le_refl _)
  replace O := Old.trans O o1
  have z1 : w.heap.size + 3 ≤ w1.heap.size := (by have h := o1.size; simp at h; omega)
  have q_x_0 := B_x.cell 0 rfl
  have q_x_1 := B_x.cell 1 rfl
  have f_x_0 := B_x.frozen 0
  have f_x_1 := B_x.frozen 1
  have q_x := B_x.lt
  have q_y_0 := B_y.cell 0 rfl
  have q_y_1 := B_y.cell 1 rfl
  have f_y_0 := B_y.frozen 0
  have f_y_1 := B_y.frozen 1
  have q_y := B_y.lt
  have q_r_0 := B_r.cell 0 rfl
  have q_r_1 := B_r.cell 1 rfl
  have f_r_0 := B_r.frozen 0
  have f_r_1 := B_r.frozen 1
  have q_r := B_r.lt
  go_wp2_with fail
  go_region_held3 (fun w' => w'.cell? ⟨w.heap.size, 0, none⟩ = some (.bool b1) ∧ w'.cell? ⟨w.heap.size, 1, none⟩ = some (.slice A1 (len x) c1) ∧ w'.cell? ⟨w.heap.size + 1, 0, none⟩ = some (.bool b2) ∧ w'.cell? ⟨w.heap.size + 1, 1, none⟩ = some (.slice A2 (len y) c2)) (go_keep)
    (first
     | (go_at_call 42; refine (bigNeg_any b2 A2 (len y) c2 _).mono ?_; rintro e w2 ⟨he, o2⟩; clear q_x_0 q_x_1 f_x_0 f_x_1 q_x q_y_0 q_y_1 f_y_0 f_y_1 q_y q_r_0 q_r_1 f_r_0 f_r_1 q_r; replace o2 : Old w1 w2 := Below.trans (b := _) oldA (Below.mono o2 leA); replace B_x := Bx.old B_x o2; replace B_y := Bx.old B_y o2; replace B_r := Bx.old B_r o2; replace h1 := Row.below h1 o2 (Nat.le_refl _); replace h2 := Row.below h2 o2 (Nat.le_refl _); replace O := Old.trans O o2; have z2 := o2.size; rw [← HT.out] at he; subst he; have q_x_0 := B_x.cell 0 rfl; have q_x_1 := B_x.cell 1 rfl; have f_x_0 := B_x.frozen 0; have f_x_1 := B_x.frozen 1; have q_x := B_x.lt; have q_y_0 := B_y.cell 0 rfl; have q_y_1 := B_y.cell 1 rfl; have f_y_0 := B_y.frozen 0; have f_y_1 := B_y.frozen 1; have q_y := B_y.lt; have q_r_0 := B_r.cell 0 rfl; have q_r_1 := B_r.cell 1 rfl; have f_r_0 := B_r.frozen 0; have f_r_1 := B_r.frozen 1; have q_r := B_r.lt)
     | (go_at_call 40; refine (bigAdd_any b1 t A1 A2 c1 c2 x y lo1 lo2 _ (Row.below (B := w2.heap.size) h1 oldA (Nat.le_refl _)) (Row.below (B := w2.heap.size) h2 oldA (Nat.le_refl _)) (by omega) (by omega)).mono ?_; rintro e w3 ⟨⟨A', c', rfl, r0⟩, o3⟩; clear q_x_0 q_x_1 f_x_0 f_x_1 q_x q_y_0 q_y_1 f_y_0 f_y_1 q_y q_r_0 q_r_1 f_r_0 f_r_1 q_r; replace o3 : Old w2 w3 := Below.trans (b := _) oldA (Below.mono o3 leA); replace B_x := Bx.old B_x o3; replace B_y := Bx.old B_y o3; replace B_r := Bx.old B_r o3; replace h1 := Row.below h1 o3 (Nat.le_refl _); replace h2 := Row.below h2 o3 (Nat.le_refl _); replace O := Old.trans O o3; have z3 := o3.size; replace r0 := Row.more (lo' := w2.heap.size) r0 leA; have q_x_0 := B_x.cell 0 rfl; have q_x_1 := B_x.cell 1 rfl; have f_x_0 := B_x.frozen 0; have f_x_1 := B_x.frozen 1; have q_x := B_x.lt; have q_y_0 := B_y.cell 0 rfl; have q_y_1 := B_y.cell 1 rfl; have f_y_0 := B_y.frozen 0; have f_y_1 := B_y.frozen 1; have q_y := B_y.lt; have q_r_0 := B_r.cell 0 rfl; have q_r_1 := B_r.cell 1 rfl; have f_r_0 := B_r.frozen 0; have f_r_1 := B_r.frozen 1; have q_r := B_r.lt)
     | (go_at_call 39; refine (ownBig_z (signed b1 x + signed t y) A' c' _ _ (Row.below (B := w3.heap.size) r0 oldA (Nat.le_refl _)) Hz.out).mono ?_; rintro e w4 ⟨⟨A, c, rfl, r1⟩, o4⟩; clear q_x_0 q_x_1 f_x_0 f_x_1 q_x q_y_0 q_y_1 f_y_0 f_y_1 q_y q_r_0 q_r_1 f_r_0 f_r_1 q_r; replace o4 : Old w3 w4 := Below.trans (b := _) oldA (Below.mono o4 leA); replace B_x := Bx.old B_x o4; replace B_y := Bx.old B_y o4; replace B_r := Bx.old B_r o4; replace h1 := Row.below h1 o4 (Nat.le_refl _); replace h2 := Row.below h2 o4 (Nat.le_refl _); replace r0 := Row.below r0 o4 (Nat.le_refl _); replace O := Old.trans O o4; have z4 := o4.size; replace r1 := Row.more (lo' := w3.heap.size) r1 leA; have q_x_0 := B_x.cell 0 rfl; have q_x_1 := B_x.cell 1 rfl; have f_x_0 := B_x.frozen 0; have f_x_1 := B_x.frozen 1; have q_x := B_x.lt; have q_y_0 := B_y.cell 0 rfl; have q_y_1 := B_y.cell 1 rfl; have f_y_0 := B_y.frozen 0; have f_y_1 := B_y.frozen 1; have q_y := B_y.lt; have q_r_0 := B_r.cell 0 rfl; have q_r_1 := B_r.cell 1 rfl; have f_r_0 := B_r.frozen 0; have f_r_1 := B_r.frozen 1; have q_r := B_r.lt))
  go_wp2
  refine bodyPost_ret (v := .agg #[.bool (sgnZ (capZ (signed b1 x + signed t y))), .slice A (len (magZ (capZ (signed b1 x + signed t y)))) c]) (by simp [results, Tryd.results18, go_sem, q_r_0, q_r_1]) rfl ⟨⟨A, c, rfl, ?_⟩, ?_⟩
  · refine Row.more (lo := w3.heap.size) ?_ leA
    repeat' (first | exact r1 | refine Row.far_set ?_ (by first | (simp <;> done) | (simp; omega) | omega) _)
  · exact oldA
set_option maxRecDepth 100000 in
set_option maxHeartbeats 1000000 in
theorem impl_BigIntSub_no1 (b1 b2 : Bool) (A1 A2 : Option Addr) (n c1 m c2 lo1 : Nat) (f : Nat → Int) (w : World) (h1 : Row w lo1 A1 n c1 f) (hn : n ≤ 1048576) (k1 : ¬ okB b1 n f) :
    Calls Tryd.prog 18 #[.agg #[.bool b1, .slice A1 n c1], .agg #[.bool b2, .slice A2 m c2]] w fun e w' => RetB e w' w.heap.size (0) ∧ Old w w' := by
  have K := Lib.hid k1
  clear k1
  have O : Old w (((w.alloc (.cells #[.bool b1, .slice A1 n c1] 34)).alloc (.cells #[.bool b2, .slice A2 m c2] 34)).alloc (.cells #[.bool false, .slice none 0 0] 34)) := oldA
  have B_x : Bx (((w.alloc (.cells #[.bool b1, .slice A1 n c1] 34)).alloc (.cells #[.bool b2, .slice A2 m c2] 34)).alloc (.cells #[.bool false, .slice none 0 0] 34)) (w.heap.size) #[.bool b1, .slice A1 n c1] := by have h := (Bx.alloc (Bx.alloc (Bx.new w #[.bool b1, .slice A1 n c1] 34) (.cells #[.bool b2, .slice A2 m c2] 34)) (.cells #[.bool false, .slice none 0 0] 34)); simpa using h
  have B_y : Bx (((w.alloc (.cells #[.bool b1, .slice A1 n c1] 34)).alloc (.cells #[.bool b2, .slice A2 m c2] 34)).alloc (.cells #[.bool false, .slice none 0 0] 34)) (w.heap.size + 1) #[.bool b2, .slice A2 m c2] := by have h := (Bx.alloc (Bx.new (w.alloc (.cells #[.bool b1, .slice A1 n c1] 34)) #[.bool b2, .slice A2 m c2] 34) (.cells #[.bool false, .slice none 0 0] 34)); simpa using h
  have B_r : Bx (((w.alloc (.cells #[.bool b1, .slice A1 n c1] 34)).alloc (.cells #[.bool b2, .slice A2 m c2] 34)).alloc (.cells #[.bool false, .slice none 0 0] 34)) (w.heap.size + 1 + 1) #[.bool false, .slice none 0 0] := by have h := (Bx.new ((w.alloc (.cells #[.bool b1, .slice A1 n c1] 34)).alloc (.cells #[.bool b2, .slice A2 m c2] 34)) #[.bool false, .slice none 0 0] 34); simpa using h
  have ne_0_1 : ¬ (w.heap.size = w.heap.size + 1) := by omega
  have ne_0_2 : ¬ (w.heap.size = w.heap.size + 1 + 1) := by omega
  have ne_1_0 : ¬ (w.heap.size + 1 = w.heap.size) := by omega
  have ne_1_2 : ¬ (w.heap.size + 1 = w.heap.size + 1 + 1) := by omega
  have ne_2_0 : ¬ (w.heap.size + 1 + 1 = w.heap.size) := by omega
  have ne_2_1 : ¬ (w.heap.size + 1 + 1 = w.heap.size + 1) := by omega
  replace h1 := Row.below h1 O (Nat.le_refl _)
  go_enter Tryd.func18, Tryd.ntmps18
  go_wp2_with fail
  refine (areBig_no1 b1 b2 A1 A2 n c1 m c2 lo1 f _ (Row.below (B := (((w.alloc (.cells #[.bool b1, .slice A1 n c1] 34)).alloc (.cells #[.bool b2, .slice A2 m c2] 34)).alloc (.cells #[.bool false, .slice none 0 0] 34)).heap.size) h1 oldA (Nat.le_refl _)) hn K.out).mono ?_
  rintro e w1 ⟨rfl, o1⟩
  replace o1 : Old (((w.alloc (.cells #[.bool b1, .slice A1 n c1] 34)).alloc (.cells #[.bool b2, .slice A2 m c2] 34)).alloc (.cells #[.bool false, .slice none 0 0] 34)) w1 := Below.trans (b := _) oldA (Below.mono o1 leA)
  replace B_x := Bx.old B_x o1
  replace B_y := Bx.old B_y o1
  replace B_r := Bx.old B_r o1
  replace h1 := Row.below h1 o1 (Nat.le_refl _)
  replace O := Old.trans O o1
  have z1 : w.heap.size + 3 ≤ w1.heap.size := (by have h := o1.size; simp at h; omega)
  have q_x_0 := B_x.cell 0 rfl
  have q_x_1 := B_x.cell 1 rfl
  have f_x_0 := B_x.frozen 0
  have f_x_1 := B_x.frozen 1
  have q_x := B_x.lt
  have q_y_0 := B_y.cell 0 rfl
  have q_y_1 := B_y.cell 1 rfl
  have f_y_0 := B_y.frozen 0
  have f_y_1 := B_y.frozen 1
  have q_y := B_y.lt
  have q_r_0 := B_r.cell 0 rfl
  have q_r_1 := B_r.cell 1 rfl
  have f_r_0 := B_r.frozen 0
  have f_r_1 := B_r.frozen 1
  have q_r := B_r.lt
  go_wp2
  refine bodyPost_ret (v := .agg #[.bool false, .slice none 0 0]) (by simp [results, Tryd.results18, go_sem, q_r_0, q_r_1]) rfl ⟨RetB.zero rfl, oldA⟩
set_option maxRecDepth 100000 in
set_option maxHeartbeats 1000000 in
theorem impl_BigIntSub_no2 (b1 b2 : Bool) (A1 A2 : Option Addr) (c1 x m c2 lo1 lo2 : Nat) (g : Nat → Int) (w : World) (h1 : NatS w lo1 A1 c1 x) (h2 : Row w lo2 A2 m c2 g) (hx : len x ≤ 60) (hb1 : b1 = true → 0 < x) (hm : m ≤ 1048576) (k2 : ¬ okB b2 m g) :
    Calls Tryd.prog 18 #[.agg #[.bool b1, .slice A1 (len x) c1], .agg #[.bool b2, .slice A2 m c2]] w fun e w' => RetB e w' w.heap.size (0) ∧ Old w w' := by
  have K := Lib.hid k2
  have HB1 := Lib.hid hb1
  clear k2 hb1
  have O : Old w (((w.alloc (.cells #[.bool b1, .slice A1 (len x) c1] 34)).alloc (.cells #[.bool b2, .slice A2 m c2] 34)).alloc (.cells #[.bool false, .slice none 0 0] 34)) := oldA
  have B_x : Bx (((w.alloc (.cells #[.bool b1, .slice A1 (len x) c1] 34)).alloc (.cells #[.bool b2, .slice A2 m c2] 34)).alloc (.cells #[.bool false, .slice none 0 0] 34)) (w.heap.size) #[.bool b1, .slice A1 (len x) c1] := by have h := (Bx.alloc (Bx.alloc (Bx.new w #[.bool b1, .slice A1 (len x) c1] 34) (.cells #[.bool b2, .slice A2 m c2] 34)) (.cells #[.bool false, .slice none 0 0] 34)); simpa using h
  have B_y : Bx (((w.alloc (.cells #[.bool b1, .slice A1 (len x) c1] 34)).alloc (.cells #[.bool b2, .slice A2 m c2] 34)).alloc (.cells #[.bool false, .slice none 0 0] 34)) (w.heap.size + 1) #[.bool b2, .slice A2 m c2] := by have h := (Bx.alloc (Bx.new (w.alloc (.cells #[.bool b1, .slice A1 (len x) c1] 34)) #[.bool b2, .slice A2 m c2] 34) (.cells #[.bool false, .slice none 0 0] 34)); simpa using h
  have B_r : Bx (((w.alloc (.cells #[.bool b1, .slice A1 (len x) c1] 34)).alloc (.cells #[.bool b2, .slice A2 m c2] 34)).alloc (.cells #[.bool false, .slice none 0 0] 34)) (w.heap.size + 1 + 1) #[.bool false, .slice none 0 0] := by have h := (Bx.new ((w.alloc (.cells #[.bool b1, .slice A1 (len x) c1] 34)).alloc (.cells #[.bool b2, .slice A2 m c2] 34)) #[.bool false, .slice none 0 0] 34); simpa using h
  have ne_0_1 : ¬ (w.heap.size = w.heap.size + 1) := by omega
  have ne_0_2 : ¬ (w.heap.size = w.heap.size + 1 + 1) := by omega
  have ne_1_0 : ¬ (w.heap.size + 1 = w.heap.size) := by omega
  have ne_1_2 : ¬ (w.heap.size + 1 = w.heap.size + 1 + 1) := by omega
  have ne_2_0 : ¬ (w.heap.size + 1 + 1 = w.heap.size) := by omega
  have ne_2_1 : ¬ (w.heap.size + 1 + 1 = w.heap.size + 1) := by omega
  replace h1 := Row.below h1 O (Nat.le_refl _)
  replace h2 := Row.below h2 O (Nat.le_refl _)
  go_enter Tryd.func18, Tryd.ntmps18
  go_wp2_with fail
  refine (areBig_no2 b1 b2 A1 A2 c1 x m c2 lo1 lo2 g _ (Row.below (B := (((w.alloc (.cells #[.bool b1, .slice A1 (len x) c1] 34)).alloc (.cells #[.bool b2, .slice A2 m c2] 34)).alloc (.cells #[.bool false, .slice none 0 0] 34)).heap.size) h1 oldA (Nat.le_refl _)) (Row.below (B := (((w.alloc (.cells #[.bool b1, .slice A1 (len x) c1] 34)).alloc (.cells #[.bool b2, .slice A2 m c2] 34)).alloc (.cells #[.bool false, .slice none 0 0] 34)).heap.size) h2 oldA (Nat.le_refl _)) hx HB1.out hm K.out).mono ?_
  rintro e w1 ⟨rfl, o1⟩
  replace o1 : Old (((w.alloc (.cells #[.bool b1, .slice A1 (len x) c1] 34)).alloc (.cells #[.bool b2, .slice A2 m c2] 34)).alloc (.cells #[.bool false, .slice none 0 0] 34)) w1 := Below.trans (b := _) oldA (Below.mono o1 leA)
  replace B_x := Bx.old B_x o1
  replace B_y := Bx.old B_y o1
  replace B_r := Bx.old B_r o1
  replace h1 := Row.below h1 o1 (Nat.le_refl _)
  replace h2 := Row.below h2 o1 (Nat.le_refl _)
  replace O := Old.trans O o1
  have z1 : w.heap.size + 3 ≤ w1.heap.size := (by have h := o1.size; simp at h; omega)
  have q_x_0 := B_x.cell 0 rfl
  have q_x_1 := B_x.cell 1 rfl
  have f_x_0 := B_x.frozen 0
  have f_x_1 := B_x.frozen 1
  have q_x := B_x.lt
  have q_y_0 := B_y.cell 0 rfl
  have q_y_1 := B_y.cell 1 rfl
  have f_y_0 := B_y.frozen 0
  have f_y_1 := B_y.frozen 1
  have q_y := B_y.lt
  have q_r_0 := B_r.cell 0 rfl
  have q_r_1 := B_r.cell 1 rfl
  have f_r_0 := B_r.frozen 0
  have f_r_1 := B_r.frozen 1
  have q_r := B_r.lt
  go_wp2
  refine bodyPost_ret (v := .agg #[.bool false, .slice none 0 0]) (by simp [results, Tryd.results18, go_sem, q_r_0, q_r_1]) rfl ⟨RetB.zero rfl, oldA⟩
theorem impl_BigIntSub (b1 : Bool) (A1 : Option Addr) (n c1 lo1 : Nat) (f : Nat → Int) (b2 : Bool) (A2 : Option Addr) (m c2 lo2 : Nat) (g : Nat → Int) (w : World) (h1 : Row w lo1 A1 n c1 f) (h2 : Row w lo2 A2 m c2 g) (hn : n ≤ 1048576) (hm : m ≤ 1048576) :
    Calls Tryd.prog 18 #[.agg #[.bool b1, .slice A1 n c1], .agg #[.bool b2, .slice A2 m c2]] w fun e w' => RetB e w' w.heap.size (zBigIntSub b1 n f b2 m g) ∧ Old w w' := by
  by_cases k1 : okB b1 n f
  · obtain ⟨x, e1, hx, hb1, v1, s1⟩ := okB_nat k1 h1
    by_cases k2 : okB b2 m g
    · obtain ⟨y, e2, hy, hb2, v2, s2⟩ := okB_nat k2 h2
      rw [zBigIntSub_yes k1 k2, v1, v2, e1, e2]
      exact impl_BigIntSub_yes b1 b2 A1 A2 c1 c2 x y lo1 lo2 w s1 s2 hx hy hb1 hb2
    · rw [zBigIntSub_no2 k2, e1]
      exact impl_BigIntSub_no2 b1 b2 A1 A2 c1 x m c2 lo1 lo2 g w s1 h2 hx hb1 hm k2
  · rw [zBigIntSub_no1 k1]
    exact impl_BigIntSub_no1 b1 b2 A1 A2 n c1 m c2 lo1 f w h1 hn k1
open Classical in
noncomputable def zBigIntMul (b1 : Bool) (n : Nat) (f : Nat → Int) (b2 : Bool) (m : Nat) (g : Nat → Int) : Int := if okB b1 n f ∧ okB b2 m g then capZ (bigX b1 n f * bigX b2 m g) else 0
theorem zBigIntMul_yes {b1 b2 : Bool} {n m : Nat} {f g : Nat → Int} (k1 : okB b1 n f) (k2 : okB b2 m g) : zBigIntMul b1 n f b2 m g = capZ (bigX b1 n f * bigX b2 m g) := if_pos ⟨k1, k2⟩
theorem zBigIntMul_no1 {b1 b2 : Bool} {n m : Nat} {f g : Nat → Int} (k1 : ¬ okB b1 n f) : zBigIntMul b1 n f b2 m g = 0 := if_neg fun h => k1 h.1
theorem zBigIntMul_no2 {b1 b2 : Bool} {n m : Nat} {f g : Nat → Int} (k2 : ¬ okB b2 m g) : zBigIntMul b1 n f b2 m g = 0 := if_neg fun h => k2 h.2
theorem zBigIntMul_len (b1 : Bool) (n : Nat) (f : Nat → Int) (b2 : Bool) (m : Nat) (g : Nat → Int) : len (magZ (zBigIntMul b1 n f b2 m g)) ≤ 60 := by
  unfold zBigIntMul; split
  · exact capZ_len _
  · have : len (magZ 0) = 0 := len_zero
    omega
set_option maxRecDepth 100000 in
set_option maxHeartbeats 1000000 in
theorem impl_BigIntMul_yes (b1 b2 : Bool) (A1 A2 : Option Addr) (c1 c2 x y lo1 lo2 : Nat) (w : World) (h1 : NatS w lo1 A1 c1 x) (h2 : NatS w lo2 A2 c2 y) (hx : len x ≤ 60) (hy : len y ≤ 60) (hb1 : b1 = true → 0 < x) (hb2 : b2 = true → 0 < y) :
    Calls Tryd.prog 19 #[.agg #[.bool b1, .slice A1 (len x) c1], .agg #[.bool b2, .slice A2 (len y) c2]] w fun e w' => RetB e w' w.heap.size (capZ (signed b1 x * signed b2 y)) ∧ Old w w' := by
  have Hz : Hid (len (magZ (signed b1 x * signed b2 y)) ≤ 2000) := Lib.hid (mul_z_len (by omega) (by omega))
  have HB1 := Lib.hid hb1
  have HB2 := Lib.hid hb2
  clear hb1 hb2
  have O : Old w (((w.alloc (.cells #[.bool b1, .slice A1 (len x) c1] 34)).alloc (.cells #[.bool b2, .slice A2 (len y) c2] 34)).alloc (.cells #[.bool false, .slice none 0 0] 34)) := oldA
  have B_x : Bx (((w.alloc (.cells #[.bool b1, .slice A1 (len x) c1] 34)).alloc (.cells #[.bool b2, .slice A2 (len y) c2] 34)).alloc (.cells #[.bool false, .slice none 0 0] 34)) (w.heap.size) #[.bool b1, .slice A1 (len x) c1] := by have h := (Bx.alloc (Bx.alloc (Bx.new w #[.bool b1, .slice A1 (len x) c1] 34) (.cells #[.bool b2, .slice A2 (len y) c2] 34)) (.cells #[.bool false, .slice none 0 0] 34)); simpa using h
  have B_y : Bx (((w.alloc (.cells #[.bool b1, .slice A1 (len x) c1] 34)).alloc (.cells #[.bool b2, .slice A2 (len y) c2] 34)).alloc (.cells #[.bool false, .slice none 0 0] 34)) (w.heap.size + 1) #[.bool b2, .slice A2 (len y) c2] := by have h := (Bx.alloc (Bx.new (w.alloc (.cells #[.bool b1, .slice A1 (len x) c1] 34)) #[.bool b2, .slice A2 (len y) c2] 34) (.cells #[.bool false, .slice none 0 0] 34)); simpa using h
  have B_r : Bx (((w.alloc (.cells #[.bool b1, .slice A1 (len x) c1] 34)).alloc (.cells #[.bool b2, .slice A2 (len y) c2] 34)).alloc (.cells #[.bool false, .slice none 0 0] 34)) (w.heap.size + 1 + 1) #[.bool false, .slice none 0 0] := by have h := (Bx.new ((w.alloc (.cells #[.bool b1, .slice A1 (len x) c1] 34)).alloc (.cells #[.bool b2, .slice A2 (len y) c2] 34)) #[.bool false, .slice none 0 0] 34); simpa using h
  have ne_0_1 : ¬ (w.heap.size = w.heap.size + 1) := by omega
  have ne_0_2 : ¬ (w.heap.size = w.heap.size + 1 + 1) := by omega
  have ne_1_0 : ¬ (w.heap.size + 1 = w.heap.size) := by omega
  have ne_1_2 : ¬ (w.heap.size + 1 = w.heap.size + 1 + 1) := by omega
  have ne_2_0 : ¬ (w.heap.size + 1 + 1 = w.heap.size) := by omega
  have ne_2_1 : ¬ (w.heap.size + 1 + 1 = w.heap.size + 1) := by omega
  replace h1 := Row.below h1 O (Nat.le_refl _)
  replace h2 := Row.below h2 O (Nat.le_refl _)
  go_enter Tryd.func19, Tryd.ntmps19
  go_wp2_with fail
  refine (areBig_yes b1 b2 A1 A2 c1 c2 x y lo1 lo2 _ (Row.below (B := (((w.alloc (.cells #[.bool b1, .slice A1 (len x) c1] 34)).alloc (.cells #[.bool b2, .slice A2 (len y) c2] 34)).alloc (.cells #[.bool false, .slice none 0 0] 34)).heap.size) h1 oldA (Nat.le_refl _)) (Row.below (B := (((w.alloc (.cells #[.bool b1, .slice A1 (len x) c1] 34)).alloc (.cells #[.bool b2, .slice A2 (len y) c2] 34)).alloc (.cells #[.bool false, .slice none 0 0] 34)).heap.size) h2 oldA (Nat.le_refl _)) hx hy HB1.out HB2.out).mono ?_
  rintro e w1 ⟨rfl, o1⟩
  replace o1 : Old (((w.alloc (.cells #[.bool b1, .slice A1 (len x) c1] 34)).alloc (.cells #[.bool b2, .slice A2 (len y) c2] 34)).alloc (.cells #[.bool false, .slice none 0 0] 34)) w1 := Below.trans (b := _) oldA (Below.mono o1 leA)
  replace B_x := Bx.old B_x o1
  replace B_y := Bx.old B_y o1
  replace B_r := Bx.old B_r o1
  replace h1 := Row.below h1 o1 (Nat.le_refl _)
  replace h2 := Row.below h2 o1 (Nat.le_refl _)
  replace O := Old.trans O o1
  have z1 : w.heap.size + 3 ≤ w1.heap.size := (by have h := o1.size; simp at h; omega)
  have q_x_0 := B_x.cell 0 rfl
  have q_x_1 := B_x.cell 1 rfl
  have f_x_0 := B_x.frozen 0
  have f_x_1 := B_x.frozen 1
  have q_x := B_x.lt
  have q_y_0 := B_y.cell 0 rfl
  have q_y_1 := B_y.cell 1 rfl
  have f_y_0 := B_y.frozen 0
  have f_y_1 := B_y.frozen 1
  have q_y := B_y.lt
  have q_r_0 := B_r.cell 0 rfl
  have q_r_1 := B_r.cell 1 rfl
  have f_r_0 := B_r.frozen 0
  have f_r_1 := B_r.frozen 1
  have q_r := B_r.lt
  go_wp2_with fail
  refine (bigMul_any b1 b2 A1 A2 c1 c2 x y lo1 lo2 _ (Row.below (B := w1.heap.size) h1 oldA (Nat.le_refl _)) (Row.below (B := w1.heap.size) h2 oldA (Nat.le_refl _)) (by omega) (by omega)).mono ?_
  rintro e w2 ⟨⟨A', c', rfl, r0⟩, o2⟩
  clear q_x_0 q_x_1 f_x_0 f_x_1 q_x q_y_0 q_y_1 f_y_0 f_y_1 q_y q_r_0 q_r_1 f_r_0 f_r_1 q_r
  replace o2 : Old w1 w2 := Below.trans (b := _) oldA (Below.mono o2 leA)
  replace B_x := Bx.old B_x o2
  replace B_y := Bx.old B_y o2
  replace B_r := Bx.old B_r o2
  replace h1 := Row.below h1 o2 (Nat.le_refl _)
  replace h2 := Row.below h2 o2 (Nat.le_refl _)
  replace O := Old.trans O o2
  have z2 := o2.size
  replace r0 := Row.more (lo' := w1.heap.size) r0 leA
  have q_x_0 := B_x.cell 0 rfl
  have q_x_1 := B_x.cell 1 rfl
  have f_x_0 := B_x.frozen 0
  have f_x_1 := B_x.frozen 1
  have q_x := B_x.lt
  have q_y_0 := B_y.cell 0 rfl
  have q_y_1 := B_y.cell 1 rfl
  have f_y_0 := B_y.frozen 0
  have f_y_1 := B_y.frozen 1
  have q_y := B_y.lt
  have q_r_0 := B_r.cell 0 rfl
  have q_r_1 := B_r.cell 1 rfl
  have f_r_0 := B_r.frozen 0
  have f_r_1 := B_r.frozen 1
  have q_r := B_r.lt
  go_wp2_with fail
  refine (ownBig_z (signed b1 x * signed b2 y) A' c' _ _ (Row.below (B := w2.heap.size) r0 oldA (Nat.le_refl _)) Hz.out).mono ?_
  rintro e w3 ⟨⟨A, c, rfl, r1⟩, o3⟩
  clear q_x_0 q_x_1 f_x_0 f_x_1 q_x q_y_0 q_y_1 f_y_0 f_y_1 q_y q_r_0 q_r_1 f_r_0 f_r_1 q_r
  replace o3 : Old w2 w3 := Below.trans (b := _) oldA (Below.mono o3 leA)
  replace B_x := Bx.old B_x o3
  replace B_y := Bx.old B_y o3
  replace B_r := Bx.old B_r o3
  replace h1 := Row.below h1 o3 (Nat.le_refl _)
  replace h2 := Row.below h2 o3 (Nat.le_refl _)
  replace r0 := Row.below r0 o3 (Nat.le_refl _)
  replace O := Old.trans O o3
  have z3 := o3.size
  replace r1 := Row.more (lo' := w2.heap.size) r1 leA
  have q_x_0 := B_x.cell 0 rfl
  have q_x_1 := B_x.cell 1 rfl
  have f_x_0 := B_x.frozen 0
  have f_x_1 := B_x.frozen 1
  have q_x := B_x.lt
  have q_y_0 := B_y.cell 0 rfl
  have q_y_1 := B_y.cell 1 rfl
  have f_y_0 := B_y.frozen 0
  have f_y_1 := B_y.frozen 1
  have q_y := B_y.lt
  have q_r_0 := B_r.cell 0 rfl
  have q_r_1 := B_r.cell 1 rfl
  have f_r_0 := B_r.frozen 0
  have f_r_1 := B_r.frozen 1
  have q_r := B_r.lt
  go_wp2
  refine bodyPost_ret (v := .agg #[.bool (sgnZ (capZ (signed b1 x * signed b2 y))), .slice A (len (magZ (capZ (signed b1 x * signed b2 y)))) c]) (by simp [results, Tryd.results19, go_sem, q_r_0, q_r_1]) rfl ⟨⟨A, c, rfl, ?_⟩, ?_⟩
  · refine Row.more (lo := w2.heap.size) ?_ leA
    repeat' (first | exact r1 | refine Row.far_set ?_ (by first | (simp <;> done) | (simp; omega) | omega) _)
  · exact oldA
set_option maxRecDepth 100000 in
set_option maxHeartbeats 1000000 in
theorem impl_BigIntMul_no1 (b1 b2 : Bool) (A1 A2 : Option Addr) (n c1 m c2 lo1 : Nat) (f : Nat → Int) (w : World) (h1 : Row w lo1 A1 n c1 f) (hn : n ≤ 1048576) (k1 : ¬ okB b1 n f) :
    Calls Tryd.prog 19 #[.agg #[.bool b1, .slice A1 n c1], .agg #[.bool b2, .slice A2 m c2]] w fun e w' => RetB e w' w.heap.size (0) ∧ Old w w' := by
  have K := Lib.hid k1
  clear k1
  have O : Old w (((w.alloc (.cells #[.bool b1, .slice A1 n c1] 34)).alloc (.cells #[.bool b2, .slice A2 m c2] 34)).alloc (.cells #[.bool false, .slice none 0 0] 34)) := oldA
  have B_x : Bx (((w.alloc (.cells #[.bool b1, .slice A1 n c1] 34)).alloc (.cells #[.bool b2, .slice A2 m c2] 34)).alloc (.cells #[.bool false, .slice none 0 0] 34)) (w.heap.size) #[.bool b1, .slice A1 n c1] := by have h := (Bx.alloc (Bx.alloc (Bx.new w #[.bool b1, .slice A1 n c1] 34) (.cells #[.bool b2, .slice A2 m c2] 34)) (.cells #[.bool false, .slice none 0 0] 34)); simpa using h
  have B_y : Bx (((w.alloc (.cells #[.bool b1, .slice A1 n c1] 34)).alloc (.cells #[.bool b2, .slice A2 m c2] 34)).alloc (.cells #[.bool false, .slice none 0 0] 34)) (w.heap.size + 1) #[.bool b2, .slice A2 m c2] := by have h := (Bx.alloc (Bx.new (w.alloc (.cells #[.bool b1, .slice A1 n c1] 34)) #[.bool b2, .slice A2 m c2] 34) (.cells #[.bool false, .slice none 0 0] 34)); simpa using h
  have B_r : Bx (((w.alloc (.cells #[.bool b1, .slice A1 n c1] 34)).alloc (.cells #[.bool b2, .slice A2 m c2] 34)).alloc (.cells #[.bool false, .slice none 0 0] 34)) (w.heap.size + 1 + 1) #[.bool false, .slice none 0 0] := by have h := (Bx.new ((w.alloc (.cells #[.bool b1, .slice A1 n c1] 34)).alloc (.cells #[.bool b2, .slice A2 m c2] 34)) #[.bool false, .slice none 0 0] 34); simpa using h
  have ne_0_1 : ¬ (w.heap.size = w.heap.size + 1) := by omega
  have ne_0_2 : ¬ (w.heap.size = w.heap.size + 1 + 1) := by omega
  have ne_1_0 : ¬ (w.heap.size + 1 = w.heap.size) := by omega
  have ne_1_2 : ¬ (w.heap.size + 1 = w.heap.size + 1 + 1) := by omega
  have ne_2_0 : ¬ (w.heap.size + 1 + 1 = w.heap.size) := by omega
  have ne_2_1 : ¬ (w.heap.size + 1 + 1 = w.heap.size + 1) := by omega
  replace h1 := Row.below h1 O (Nat.le_refl _)
  go_enter Tryd.func19, Tryd.ntmps19
  go_wp2_with fail
  refine (areBig_no1 b1 b2 A1 A2 n c1 m c2 lo1 f _ (Row.below (B := (((w.alloc (.cells #[.bool b1, .slice A1 n c1] 34)).alloc (.cells #[.bool b2, .slice A2 m c2] 34)).alloc (.cells #[.bool false, .slice none 0 0] 34)).heap.size) h1 oldA (Nat.le_refl _)) hn K.out).mono ?_
  rintro e w1 ⟨rfl, o1⟩
  replace o1 : Old (((w.alloc (.cells #[.bool b1, .slice A1 n c1] 34)).alloc (.cells #[.bool b2, .slice A2 m c2] 34)).alloc (.cells #[.bool false, .slice none 0 0] 34)) w1 := Below.trans (b := _) oldA (Below.mono o1 leA)
  replace B_x := Bx.old B_x o1
  replace B_y := Bx.old B_y o1
  replace B_r := Bx.old B_r o1
  replace h1 := Row.below h1 o1 (Nat.le_refl _)
  replace O := Old.trans O o1
  have z1 : w.heap.size + 3 ≤ w1.heap.size := (by have h := o1.size; simp at h; omega)
  have q_x_0 := B_x.cell 0 rfl
  have q_x_1 := B_x.cell 1 rfl
  have f_x_0 := B_x.frozen 0
  have f_x_1 := B_x.frozen 1
  have q_x := B_x.lt
  have q_y_0 := B_y.cell 0 rfl
  have q_y_1 := B_y.cell 1 rfl
  have f_y_0 := B_y.frozen 0
  have f_y_1 := B_y.frozen 1
  have q_y := B_y.lt
  have q_r_0 := B_r.cell 0 rfl
  have q_r_1 := B_r.cell 1 rfl
  have f_r_0 := B_r.frozen 0
  have f_r_1 := B_r.frozen 1
  have q_r := B_r.lt
  go_wp2
  refine bodyPost_ret (v := .agg #[.bool false, .slice none 0 0]) (by simp [results, Tryd.results19, go_sem, q_r_0, q_r_1]) rfl ⟨RetB.zero rfl, oldA⟩
set_option maxRecDepth 100000 in
set_option maxHeartbeats 1000000 in
theorem impl_BigIntMul_no2 (b1 b2 : Bool) (A1 A2 : Option Addr) (c1 x m c2 lo1 lo2 : Nat) (g : Nat → Int) (w : World) (h1 : NatS w lo1 A1 c1 x) (h2 : Row w lo2 A2 m c2 g) (hx : len x ≤ 60) (hb1 : b1 = true → 0 < x) (hm : m ≤ 1048576) (k2 : ¬ okB b2 m g) :
    Calls Tryd.prog 19 #[.agg #[.bool b1, .slice A1 (len x) c1], .agg #[.bool b2, .slice A2 m c2]] w fun e w' => RetB e w' w.heap.size (0) ∧ Old w w' := by
  have K := Lib.hid k2
  have HB1 := Lib.hid hb1
  clear k2 hb1
  have O : Old w (((w.alloc (.cells #[.bool b1, .slice A1 (len x) c1] 34)).alloc (.cells #[.bool b2, .slice A2 m c2] 34)).alloc (.cells #[.bool false, .slice none 0 0] 34)) := oldA
  have B_x : Bx (((w.alloc (.cells #[.bool b1, .slice A1 (len x) c1] 34)).alloc (.cells #[.bool b2, .slice A2 m c2] 34)).alloc (.cells #[.bool false, .slice none 0 0] 34)) (w.heap.size) #[.bool b1, .slice A1 (len x) c1] := by have h := (Bx.alloc (Bx.alloc (Bx.new w #[.bool b1, .slice A1 (len x) c1] 34) (.cells #[.bool b2, .slice A2 m c2] 34)) (.cells #[.bool false, .slice none 0 0] 34)); simpa using h
  have B_y : Bx (((w.alloc (.cells #[.bool b1, .slice A1 (len x) c1] 34)).alloc (.cells #[.bool b2, .slice A2 m c2] 34)).alloc (.cells #[.bool false, .slice none 0 0] 34)) (w.heap.size + 1) #[.bool b2, .slice A2 m c2] := by have h := (Bx.alloc (Bx.new (w.alloc (.cells #[.bool b1, .slice A1 (len x) c1] 34)) #[.bool b2, .slice A2 m c2] 34) (.cells #[.bool false, .slice none 0 0] 34)); simpa using h
  have B_r : Bx (((w.alloc (.cells #[.bool b1, .slice A1 (len x) c1] 34)).alloc (.cells #[.bool b2, .slice A2 m c2] 34)).alloc (.cells #[.bool false, .slice none 0 0] 34)) (w.heap.size + 1 + 1) #[.bool false, .slice none 0 0] := by have h := (Bx.new ((w.alloc (.cells #[.bool b1, .slice A1 (len x) c1] 34)).alloc (.cells #[.bool b2, .slice A2 m c2] 34)) #[.bool false, .slice none 0 0] 34); simpa using h
  have ne_0_1 : ¬ (w.heap.size = w.heap.size + 1) := by omega
  have ne_0_2 : ¬ (w.heap.size = w.heap.size + 1 + 1) := by omega
  have ne_1_0 : ¬ (w.heap.size + 1 = w.heap.size) := by omega
  have ne_1_2 : ¬ (w.heap.size + 1 = w.heap.size + 1 + 1) := by omega
  have ne_2_0 : ¬ (w.heap.size + 1 + 1 = w.heap.size) := by omega
  have ne_2_1 : ¬ (w.heap.size + 1 + 1 = w.heap.size + 1) := by omega
  replace h1 := Row.below h1 O (Nat.le_refl _)
  replace h2 := Row.below h2 O (Nat.le_refl _)
  go_enter Tryd.func19, Tryd.ntmps19
  go_wp2_with fail
  refine (areBig_no2 b1 b2 A1 A2 c1 x m c2 lo1 lo2 g _ (Row.below (B := (((w.alloc (.cells #[.bool b1, .slice A1 (len x) c1] 34)).alloc (.cells #[.bool b2, .slice A2 m c2] 34)).alloc (.cells #[.bool false, .slice none 0 0] 34)).heap.size) h1 oldA (Nat.le_refl _)) (Row.below (B := (((w.alloc (.cells #[.bool b1, .slice A1 (len x) c1] 34)).alloc (.cells #[.bool b2, .slice A2 m c2] 34)).alloc (.cells #[.bool false, .slice none 0 0] 34)).heap.size) h2 oldA (Nat.le_refl _)) hx HB1.out hm K.out).mono ?_
  rintro e w1 ⟨rfl, o1⟩
  replace o1 : Old (((w.alloc (.cells #[.bool b1, .slice A1 (len x) c1] 34)).alloc (.cells #[.bool b2, .slice A2 m c2] 34)).alloc (.cells #[.bool false, .slice none 0 0] 34)) w1 := Below.trans (b := _) oldA (Below.mono o1 leA)
  replace B_x := Bx.old B_x o1
  replace B_y := Bx.old B_y o1
  replace B_r := Bx.old B_r o1
  replace h1 := Row.below h1 o1 (Nat.le_refl _)
  replace h2 := Row.below h2 o1 (Nat.le_refl _)
  replace O := Old.trans O o1
  have z1 : w.heap.size + 3 ≤ w1.heap.size := (by have h := o1.size; simp at h; omega)
  have q_x_0 := B_x.cell 0 rfl
  have q_x_1 := B_x.cell 1 rfl
  have f_x_0 := B_x.frozen 0
  have f_x_1 := B_x.frozen 1
  have q_x := B_x.lt
  have q_y_0 := B_y.cell 0 rfl
  have q_y_1 := B_y.cell 1 rfl
  have f_y_0 := B_y.frozen 0
  have f_y_1 := B_y.frozen 1
  have q_y := B_y.lt
  have q_r_0 := B_r.cell 0 rfl
  have q_r_1 := B_r.cell 1 rfl
  have f_r_0 := B_r.frozen 0
  have f_r_1 := B_r.frozen 1
  have q_r := B_r.lt
  go_wp2
  refine bodyPost_ret (v := .agg #[.bool false, .slice none 0 0]) (by simp [results, Tryd.results19, go_sem, q_r_0, q_r_1]) rfl ⟨RetB.zero rfl, oldA⟩
theorem impl_BigIntMul (b1 : Bool) (A1 : Option Addr) (n c1 lo1 : Nat) (f : Nat → Int) (b2 : Bool) (A2 : Option Addr) (m c2 lo2 : Nat) (g : Nat → Int) (w : World) (h1 : Row w lo1 A1 n c1 f) (h2 : Row w lo2 A2 m c2 g) (hn : n ≤ 1048576) (hm : m ≤ 1048576) :
    Calls Tryd.prog 19 #[.agg #[.bool b1, .slice A1 n c1], .agg #[.bool b2, .slice A2 m c2]] w fun e w' => RetB e w' w.heap.size (zBigIntMul b1 n f b2 m g) ∧ Old w w' := by
  by_cases k1 : okB b1 n f
  · obtain ⟨x, e1, hx, hb1, v1, s1⟩ := okB_nat k1 h1
    by_cases k2 : okB b2 m g
    · obtain ⟨y, e2, hy, hb2, v2, s2⟩ := okB_nat k2 h2
      rw [zBigIntMul_yes k1 k2, v1, v2, e1, e2]
      exact impl_BigIntMul_yes b1 b2 A1 A2 c1 c2 x y lo1 lo2 w s1 s2 hx hy hb1 hb2
    · rw [zBigIntMul_no2 k2, e1]
      exact impl_BigIntMul_no2 b1 b2 A1 A2 c1 x m c2 lo1 lo2 g w s1 h2 hx hb1 hm k2
  · rw [zBigIntMul_no1 k1]
    exact impl_BigIntMul_no1 b1 b2 A1 A2 n c1 m c2 lo1 f w h1 hn k1
open Classical in
noncomputable def rBigIntCmp (b1 : Bool) (n : Nat) (f : Nat → Int) (b2 : Bool) (m : Nat) (g : Nat → Int) : Int := if okB b1 n f ∧ okB b2 m g then cmpZ (bigX b1 n f) (bigX b2 m g) else 0
theorem rBigIntCmp_yes {b1 b2 : Bool} {n m : Nat} {f g : Nat → Int} (k1 : okB b1 n f) (k2 : okB b2 m g) : rBigIntCmp b1 n f b2 m g = cmpZ (bigX b1 n f) (bigX b2 m g) := if_pos ⟨k1, k2⟩
theorem rBigIntCmp_no1 {b1 b2 : Bool} {n m : Nat} {f g : Nat → Int} (k1 : ¬ okB b1 n f) : rBigIntCmp b1 n f b2 m g = 0 := if_neg fun h => k1 h.1
theorem rBigIntCmp_no2 {b1 b2 : Bool} {n m : Nat} {f g : Nat → Int} (k2 : ¬ okB b2 m g) : rBigIntCmp b1 n f b2 m g = 0 := if_neg fun h => k2 h.2
set_option maxRecDepth 100000 in
set_option maxHeartbeats 1000000 in
theorem impl_BigIntCmp_yes (b1 b2 : Bool) (A1 A2 : Option Addr) (c1 c2 x y lo1 lo2 : Nat) (w : World) (h1 : NatS w lo1 A1 c1 x) (h2 : NatS w lo2 A2 c2 y) (hx : len x ≤ 60) (hy : len y ≤ 60) (hb1 : b1 = true → 0 < x) (hb2 : b2 = true → 0 < y) :
    Calls Tryd.prog 17 #[.agg #[.bool b1, .slice A1 (len x) c1], .agg #[.bool b2, .slice A2 (len y) c2]] w fun e w' => e = .returned (.int .i64 (cmpZ (signed b1 x) (signed b2 y))) ∧ Old w w' := by
  have HB1 := Lib.hid hb1
  have HB2 := Lib.hid hb2
  clear hb1 hb2
  have O : Old w ((w.alloc (.cells #[.bool b1, .slice A1 (len x) c1] 34)).alloc (.cells #[.bool b2, .slice A2 (len y) c2] 34)) := oldA
  have B_x : Bx ((w.alloc (.cells #[.bool b1, .slice A1 (len x) c1] 34)).alloc (.cells #[.bool b2, .slice A2 (len y) c2] 34)) (w.heap.size) #[.bool b1, .slice A1 (len x) c1] := by have h := (Bx.alloc (Bx.new w #[.bool b1, .slice A1 (len x) c1] 34) (.cells #[.bool b2, .slice A2 (len y) c2] 34)); simpa using h
  have B_y : Bx ((w.alloc (.cells #[.bool b1, .slice A1 (len x) c1] 34)).alloc (.cells #[.bool b2, .slice A2 (len y) c2] 34)) (w.heap.size + 1) #[.bool b2, .slice A2 (len y) c2] := by have h := (Bx.new (w.alloc (.cells #[.bool b1, .slice A1 (len x) c1] 34)) #[.bool b2, .slice A2 (len y) c2] 34); simpa using h
  have ne_0_1 : ¬ (w.heap.size = w.heap.size + 1) := by omega
  have ne_1_0 : ¬ (w.heap.size + 1 = w.heap.size) := by omega
  replace h1 := Row.below h1 O (Nat.le_refl _)
  replace h2 := Row.below h2 O (Nat.le_refl _)
  go_enter Tryd.func17, Tryd.ntmps17
  go_wp2_with fail
  refine (areBig_yes b1 b2 A1 A2 c1 c2 x y lo1 lo2 _ (Row.below (B := ((w.alloc (.cells #[.bool b1, .slice A1 (len x) c1] 34)).alloc (.cells #[.bool b2, .slice A2 (len y) c2] 34)).heap.size) h1 oldA (Nat.le_refl _)) (Row.below (B := ((w.alloc (.cells #[.bool b1, .slice A1 (len x) c1] 34)).alloc (.cells #[.bool b2, .slice A2 (len y) c2] 34)).heap.size) h2 oldA (Nat.le_refl _)) hx hy HB1.out HB2.out).mono ?_
  rintro e w1 ⟨rfl, o1⟩
  replace o1 : Old ((w.alloc (.cells #[.bool b1, .slice A1 (len x) c1] 34)).alloc (.cells #[.bool b2, .slice A2 (len y) c2] 34)) w1 := Below.trans (b := _) oldA (Below.mono o1 leA)
  replace B_x := Bx.old B_x o1
  replace B_y := Bx.old B_y o1
  replace h1 := Row.below h1 o1 (Nat.le_refl _)
  replace h2 := Row.below h2 o1 (Nat.le_refl _)
  replace O := Old.trans O o1
  have z1 : w.heap.size + 2 ≤ w1.heap.size := (by have h := o1.size; simp at h; omega)
  have q_x_0 := B_x.cell 0 rfl
  have q_x_1 := B_x.cell 1 rfl
  have f_x_0 := B_x.frozen 0
  have f_x_1 := B_x.frozen 1
  have q_x := B_x.lt
  have q_y_0 := B_y.cell 0 rfl
  have q_y_1 := B_y.cell 1 rfl
  have f_y_0 := B_y.frozen 0
  have f_y_1 := B_y.frozen 1
  have q_y := B_y.lt
  go_wp2_with fail
  refine (bigCmp_any b1 b2 A1 A2 c1 c2 x y lo1 lo2 _ (Row.below (B := w1.heap.size) h1 oldA (Nat.le_refl _)) (Row.below (B := w1.heap.size) h2 oldA (Nat.le_refl _)) (by omega) (by omega) HB1.out HB2.out).mono ?_
  rintro e w2 ⟨rfl, o2⟩
  clear q_x_0 q_x_1 f_x_0 f_x_1 q_x q_y_0 q_y_1 f_y_0 f_y_1 q_y
  replace o2 : Old w1 w2 := Below.trans (b := _) oldA (Below.mono o2 leA)
  replace B_x := Bx.old B_x o2
  replace B_y := Bx.old B_y o2
  replace h1 := Row.below h1 o2 (Nat.le_refl _)
  replace h2 := Row.below h2 o2 (Nat.le_refl _)
  replace O := Old.trans O o2
  have z2 := o2.size
  have q_x_0 := B_x.cell 0 rfl
  have q_x_1 := B_x.cell 1 rfl
  have f_x_0 := B_x.frozen 0
  have f_x_1 := B_x.frozen 1
  have q_x := B_x.lt
  have q_y_0 := B_y.cell 0 rfl
  have q_y_1 := B_y.cell 1 rfl
  have f_y_0 := B_y.frozen 0
  have f_y_1 := B_y.frozen 1
  have q_y := B_y.lt
  go_wp2
  go_ret
  exact ⟨rfl, oldA⟩
set_option maxRecDepth 100000 in
set_option maxHeartbeats 1000000 in
theorem impl_BigIntCmp_no1 (b1 b2 : Bool) (A1 A2 : Option Addr) (n c1 m c2 lo1 : Nat) (f : Nat → Int) (w : World) (h1 : Row w lo1 A1 n c1 f) (hn : n ≤ 1048576) (k1 : ¬ okB b1 n f) :
    Calls Tryd.prog 17 #[.agg #[.bool b1, .slice A1 n c1], .agg #[.bool b2, .slice A2 m c2]] w fun e w' => e = .returned (.int .i64 (0)) ∧ Old w w' := by
  have K := Lib.hid k1
  clear k1
  have O : Old w ((w.alloc (.cells #[.bool b1, .slice A1 n c1] 34)).alloc (.cells #[.bool b2, .slice A2 m c2] 34)) := oldA
  have B_x : Bx ((w.alloc (.cells #[.bool b1, .slice A1 n c1] 34)).alloc (.cells #[.bool b2, .slice A2 m c2] 34)) (w.heap.size) #[.bool b1, .slice A1 n c1] := by have h := (Bx.alloc (Bx.new w #[.bool b1, .slice A1 n c1] 34) (.cells #[.bool b2, .slice A2 m c2] 34)); simpa using h
  have B_y : Bx ((w.alloc (.cells #[.bool b1, .slice A1 n c1] 34)).alloc (.cells #[.bool b2, .slice A2 m c2] 34)) (w.heap.size + 1) #[.bool b2, .slice A2 m c2] := by have h := (Bx.new (w.alloc (.cells #[.bool b1, .slice A1 n c1] 34)) #[.bool b2, .slice A2 m c2] 34); simpa using h
  have ne_0_1 : ¬ (w.heap.size = w.heap.size + 1) := by omega
  have ne_1_0 : ¬ (w.heap.size + 1 = w.heap.size) := by omega
  replace h1 := Row.below h1 O (Nat.le_refl _)
  go_enter Tryd.func17, Tryd.ntmps17
  go_wp2_with fail
  refine (areBig_no1 b1 b2 A1 A2 n c1 m c2 lo1 f _ (Row.below (B := ((w.alloc (.cells #[.bool b1, .slice A1 n c1] 34)).alloc (.cells #[.bool b2, .slice A2 m c2] 34)).heap.size) h1 oldA (Nat.le_refl _)) hn K.out).mono ?_
  rintro e w1 ⟨rfl, o1⟩
  replace o1 : Old ((w.alloc (.cells #[.bool b1, .slice A1 n c1] 34)).alloc (.cells #[.bool b2, .slice A2 m c2] 34)) w1 := Below.trans (b := _) oldA (Below.mono o1 leA)
  replace B_x := Bx.old B_x o1
  replace B_y := Bx.old B_y o1
  replace h1 := Row.below h1 o1 (Nat.le_refl _)
  replace O := Old.trans O o1
  have z1 : w.heap.size + 2 ≤ w1.heap.size := (by have h := o1.size; simp at h; omega)
  have q_x_0 := B_x.cell 0 rfl
  have q_x_1 := B_x.cell 1 rfl
  have f_x_0 := B_x.frozen 0
  have f_x_1 := B_x.frozen 1
  have q_x := B_x.lt
  have q_y_0 := B_y.cell 0 rfl
  have q_y_1 := B_y.cell 1 rfl
  have f_y_0 := B_y.frozen 0
  have f_y_1 := B_y.frozen 1
  have q_y := B_y.lt
  go_wp2
  go_ret
  exact ⟨rfl, oldA⟩
set_option maxRecDepth 100000 in
set_option maxHeartbeats 1000000 in
theorem impl_BigIntCmp_no2 (b1 b2 : Bool) (A1 A2 : Option Addr) (c1 x m c2 lo1 lo2 : Nat) (g : Nat → Int) (w : World) (h1 : NatS w lo1 A1 c1 x) (h2 : Row w lo2 A2 m c2 g) (hx : len x ≤ 60) (hb1 : b1 = true → 0 < x) (hm : m ≤ 1048576) (k2 : ¬ okB b2 m g) :
    Calls Tryd.prog 17 #[.agg #[.bool b1, .slice A1 (len x) c1], .agg #[.bool b2, .slice A2 m c2]] w fun e w' => e = .returned (.int .i64 (0)) ∧ Old w w' := by
  have K := Lib.hid k2
  have HB1 := Lib.hid hb1
  clear k2 hb1
  have O : Old w ((w.alloc (.cells #[.bool b1, .slice A1 (len x) c1] 34)).alloc (.cells #[.bool b2, .slice A2 m c2] 34)) := oldA
  have B_x : Bx ((w.alloc (.cells #[.bool b1, .slice A1 (len x) c1] 34)).alloc (.cells #[.bool b2, .slice A2 m c2] 34)) (w.heap.size) #[.bool b1, .slice A1 (len x) c1] := by have h := (Bx.alloc (Bx.new w #[.bool b1, .slice A1 (len x) c1] 34) (.cells #[.bool b2, .slice A2 m c2] 34)); simpa using h
  have B_y : Bx ((w.alloc (.cells #[.bool b1, .slice A1 (len x) c1] 34)).alloc (.cells #[.bool b2, .slice A2 m c2] 34)) (w.heap.size + 1) #[.bool b2, .slice A2 m c2] := by have h := (Bx.new (w.alloc (.cells #[.bool b1, .slice A1 (len x) c1] 34)) #[.bool b2, .slice A2 m c2] 34); simpa using h
  have ne_0_1 : ¬ (w.heap.size = w.heap.size + 1) := by omega
  have ne_1_0 : ¬ (w.heap.size + 1 = w.heap.size) := by omega
  replace h1 := Row.below h1 O (Nat.le_refl _)
  replace h2 := Row.below h2 O (Nat.le_refl _)
  go_enter Tryd.func17, Tryd.ntmps17
  go_wp2_with fail
  refine (areBig_no2 b1 b2 A1 A2 c1 x m c2 lo1 lo2 g _ (Row.below (B := ((w.alloc (.cells #[.bool b1, .slice A1 (len x) c1] 34)).alloc (.cells #[.bool b2, .slice A2 m c2] 34)).heap.size) h1 oldA (Nat.le_refl _)) (Row.below (B := ((w.alloc (.cells #[.bool b1, .slice A1 (len x) c1] 34)).alloc (.cells #[.bool b2, .slice A2 m c2] 34)).heap.size) h2 oldA (Nat.le_refl _)) hx HB1.out hm K.out).mono ?_
  rintro e w1 ⟨rfl, o1⟩
  replace o1 : Old ((w.alloc (.cells #[.bool b1, .slice A1 (len x) c1] 34)).alloc (.cells #[.bool b2, .slice A2 m c2] 34)) w1 := Below.trans (b := _) oldA (Below.mono o1 leA)
  replace B_x := Bx.old B_x o1
  replace B_y := Bx.old B_y o1
  replace h1 := Row.below h1 o1 (Nat.le_refl _)
  replace h2 := Row.below h2 o1 (Nat.le_refl _)
  replace O := Old.trans O o1
  have z1 : w.heap.size + 2 ≤ w1.heap.size := (by have h := o1.size; simp at h; omega)
  have q_x_0 := B_x.cell 0 rfl
  have q_x_1 := B_x.cell 1 rfl
  have f_x_0 := B_x.frozen 0
  have f_x_1 := B_x.frozen 1
  have q_x := B_x.lt
  have q_y_0 := B_y.cell 0 rfl
  have q_y_1 := B_y.cell 1 rfl
  have f_y_0 := B_y.frozen 0
  have f_y_1 := B_y.frozen 1
  have q_y := B_y.lt
  go_wp2
  go_ret
  exact ⟨rfl, oldA⟩
theorem impl_BigIntCmp (b1 : Bool) (A1 : Option Addr) (n c1 lo1 : Nat) (f : Nat → Int) (b2 : Bool) (A2 : Option Addr) (m c2 lo2 : Nat) (g : Nat → Int) (w : World) (h1 : Row w lo1 A1 n c1 f) (h2 : Row w lo2 A2 m c2 g) (hn : n ≤ 1048576) (hm : m ≤ 1048576) :
    Calls Tryd.prog 17 #[.agg #[.bool b1, .slice A1 n c1], .agg #[.bool b2, .slice A2 m c2]] w fun e w' => e = .returned (.int .i64 (rBigIntCmp b1 n f b2 m g)) ∧ Old w w' := by
  by_cases k1 : okB b1 n f
  · obtain ⟨x, e1, hx, hb1, v1, s1⟩ := okB_nat k1 h1
    by_cases k2 : okB b2 m g
    · obtain ⟨y, e2, hy, hb2, v2, s2⟩ := okB_nat k2 h2
      rw [rBigIntCmp_yes k1 k2, v1, v2, e1, e2]
      exact impl_BigIntCmp_yes b1 b2 A1 A2 c1 c2 x y lo1 lo2 w s1 s2 hx hy hb1 hb2
    · rw [rBigIntCmp_no2 k2, e1]
      exact impl_BigIntCmp_no2 b1 b2 A1 A2 c1 x m c2 lo1 lo2 g w s1 h2 hx hb1 hm k2
  · rw [rBigIntCmp_no1 k1]
    exact impl_BigIntCmp_no1 b1 b2 A1 A2 n c1 m c2 lo1 f w h1 hn k1
end Go.Proofs.YtgchbbjhdeobpaaDoor
