import Derived.Test.YtgchbbjhdeobpaaGreatDoorBigOps
/-
  Big integers: product and order inside, the tests.
-/
namespace Go.Proofs.YtgchbbjhdeobpaaGreatDoor
set_option linter.unusedVariables false
open Go.RowKit Num
attribute [local go_sem ↓] Go.wp_at_zero Go.wp_at_succ
theorem okB_nat {w : World} {lo n c : Nat} {A : Option Addr} {f : Nat → Int} {b : Bool} (k : okB b n f) (h : Row w lo A n c f) : ∃ x, n = len x ∧ len x ≤ 60 ∧ (b = true → 0 < x) ∧ bigX b n f = signed b x ∧ NatS w lo A c x := by
  obtain ⟨x, e1, hx, v1, s1⟩ := row_nat h k.1
  exact ⟨x, e1, hx, fun hb => by have := k.2 hb; rw [e1] at this; exact len_pos_iff'.1 this, by rw [bigX, v1], s1⟩
theorem okB_of {x : Nat} {b : Bool} (hx : len x ≤ 60) (hb : b = true → 0 < x) : okB b (len x) (digI x) := ⟨okP_of hx, fun h => len_pos_iff'.2 (hb h)⟩
theorem signed_mag (z : Int) : signed (sgnZ z) (magZ z) = z := by unfold signed sgnZ magZ; by_cases h : z < 0 <;> simp [h] <;> omega
theorem mag_neg (z : Int) : magZ (-z) = magZ z := Int.natAbs_neg z
theorem mag_add_le (a b : Int) : magZ (a + b) ≤ magZ a + magZ b := Int.natAbs_add_le a b
theorem mag_mul (a b : Int) : magZ (a * b) = magZ a * magZ b := Int.natAbs_mul a b
theorem add_z_len {b1 b2 : Bool} {x y : Nat} (hx : len x ≤ 60) (hy : len y ≤ 60) : len (magZ (signed b1 x + signed b2 y)) ≤ 2000 := by
  have h1 := mag_add_le (signed b1 x) (signed b2 y)
  rw [mag_signed, mag_signed] at h1
  have h2 := len_mono h1
  have h3 := add_len_le x y
  omega
theorem mul_z_len {b1 b2 : Bool} {x y : Nat} (hx : len x ≤ 60) (hy : len y ≤ 60) : len (magZ (signed b1 x * signed b2 y)) ≤ 2000 := by
  rw [mag_mul, mag_signed, mag_signed]
  have h3 := mul_len_le x y
  omega
theorem bigX_nat {b : Bool} {x : Nat} (hx : len x ≤ 60) : bigX b (len x) (digI x) = signed b x := by
  have h := natX_spec (okP_of hx)
  have hl : natX (len x) (digI x) = x := by
    obtain ⟨h1, _, h3⟩ := h
    have hd : digs (natX (len x) (digI x)) = digs x := by
      apply List.ext_getElem?
      intro i
      by_cases hi : i < len x
      · rw [digs_get _ _ (by omega), digs_get _ _ hi]
        have := h3 i hi
        simp only [digI] at this
        have e : dig (natX (len x) (digI x)) i = dig x i := by omega
        rw [e]
      · rw [List.getElem?_eq_none (by rw [digs_length]; omega), List.getElem?_eq_none (by rw [digs_length]; omega)]
    exact digs_inj hd
  rw [bigX, hl]
theorem retB_to {P : Program} {f : FuncId} {args : Array Value} {w : World} {z z' : Int} (hz : z = z') (h : Calls P f args w fun e w' => RetB e w' w.heap.size z ∧ Old w w') : Calls P f args w fun e w' => RetB e w' w.heap.size z' ∧ Old w w' := by rw [← hz]; exact h
theorem ownBig_z (z : Int) (A : Option Addr) (c lo : Nat) (w : World) (h : NatS w lo A c (magZ z)) (hz : len (magZ z) ≤ 2000) :
    Calls Tryz.prog 102 #[.agg #[.bool (sgnZ z), .slice A (len (magZ z)) c]] w fun e w' => RetB e w' w.heap.size (capZ z) ∧ Old w w' := by
  have := ownBig_any (sgnZ z) A c (magZ z) lo w h (fun hs => by have : z < 0 := by simpa [sgnZ] using hs
                                                                unfold magZ; omega) hz
  rw [signed_mag] at this
  exact this
/-- The order of two numbers. -/
def cmpZ (a b : Int) : Int := if a < b then -1 else if a = b then 0 else 1
theorem cmpZ_tt (x y : Nat) : cmpZ (signed true x) (signed true y) = cmpN y x := by
  simp only [cmpZ, cmpN, signed, if_true]
  by_cases h : y < x
  · rw [if_pos (by omega), if_pos h]
  · rw [if_neg (by omega), if_neg h]
    by_cases h2 : y = x
    · rw [if_pos (by omega), if_pos h2]
    · rw [if_neg (by omega), if_neg h2]
theorem cmpZ_ff (x y : Nat) : cmpZ (signed false x) (signed false y) = cmpN x y := by
  simp only [cmpZ, cmpN, signed, Bool.false_eq_true, if_false]
  by_cases h : x < y
  · rw [if_pos (by omega), if_pos h]
  · rw [if_neg (by omega), if_neg h]
    by_cases h2 : x = y
    · rw [if_pos (by omega), if_pos h2]
    · rw [if_neg (by omega), if_neg h2]
theorem cmpZ_tf {x y : Nat} (h : 0 < x) : cmpZ (signed true x) (signed false y) = -1 := by simp [cmpZ, signed]; omega
theorem cmpZ_ft {x y : Nat} (h : 0 < y) : cmpZ (signed false x) (signed true y) = 1 := by simp [cmpZ, signed]; omega

set_option maxRecDepth 100000 in
set_option maxHeartbeats 1000000 in
theorem bigMul_any (b1 b2 : Bool) (A1 A2 : Option Addr) (c1 c2 x y lo1 lo2 : Nat) (w : World) (h1 : NatS w lo1 A1 c1 x) (h2 : NatS w lo2 A2 c2 y) (hx : len x ≤ 200) (hy : len y ≤ 200) :
    Calls Tryz.prog 73 #[.agg #[.bool b1, .slice A1 (len x) c1], .agg #[.bool b2, .slice A2 (len y) c2]] w fun e w' => RetB e w' w.heap.size (signed b1 x * signed b2 y) ∧ Old w w' := by
  rw [signed_mul]
  obtain ⟨t, ht⟩ : ∃ t, t = (b1 != b2) := ⟨_, rfl⟩
  rw [← ht]
  have O : Old w (((w.alloc (.cells #[.bool b1, .slice A1 (len x) c1] 24)).alloc (.cells #[.bool b2, .slice A2 (len y) c2] 24)).alloc (.cells #[.bool false, .slice none 0 0] 24)) := oldA
  have B_x : Bx (((w.alloc (.cells #[.bool b1, .slice A1 (len x) c1] 24)).alloc (.cells #[.bool b2, .slice A2 (len y) c2] 24)).alloc (.cells #[.bool false, .slice none 0 0] 24)) (w.heap.size) #[.bool b1, .slice A1 (len x) c1] := by have h := (Bx.alloc (Bx.alloc (Bx.new w #[.bool b1, .slice A1 (len x) c1] 24) (.cells #[.bool b2, .slice A2 (len y) c2] 24)) (.cells #[.bool false, .slice none 0 0] 24)); simpa using h
  have B_y : Bx (((w.alloc (.cells #[.bool b1, .slice A1 (len x) c1] 24)).alloc (.cells #[.bool b2, .slice A2 (len y) c2] 24)).alloc (.cells #[.bool false, .slice none 0 0] 24)) (w.heap.size + 1) #[.bool b2, .slice A2 (len y) c2] := by have h := (Bx.alloc (Bx.new (w.alloc (.cells #[.bool b1, .slice A1 (len x) c1] 24)) #[.bool b2, .slice A2 (len y) c2] 24) (.cells #[.bool false, .slice none 0 0] 24)); simpa using h
  have B_r : Bx (((w.alloc (.cells #[.bool b1, .slice A1 (len x) c1] 24)).alloc (.cells #[.bool b2, .slice A2 (len y) c2] 24)).alloc (.cells #[.bool false, .slice none 0 0] 24)) (w.heap.size + 1 + 1) #[.bool false, .slice none 0 0] := by have h := (Bx.new ((w.alloc (.cells #[.bool b1, .slice A1 (len x) c1] 24)).alloc (.cells #[.bool b2, .slice A2 (len y) c2] 24)) #[.bool false, .slice none 0 0] 24); simpa using h
  have ne_0_1 : ¬ (w.heap.size = w.heap.size + 1) := by omega
  have ne_0_2 : ¬ (w.heap.size = w.heap.size + 1 + 1) := by omega
  have ne_1_0 : ¬ (w.heap.size + 1 = w.heap.size) := by omega
  have ne_1_2 : ¬ (w.heap.size + 1 = w.heap.size + 1 + 1) := by omega
  have ne_2_0 : ¬ (w.heap.size + 1 + 1 = w.heap.size) := by omega
  have ne_2_1 : ¬ (w.heap.size + 1 + 1 = w.heap.size + 1) := by omega
  replace h1 := Row.below h1 O (Nat.le_refl _)
  replace h2 := Row.below h2 O (Nat.le_refl _)
  go_enter Tryz.func73, Tryz.ntmps73
  go_wp2_with fail
  go_region_held3 (fun w' => w'.cell? ⟨w.heap.size, 0, none⟩ = some (.bool b1) ∧ w'.cell? ⟨w.heap.size, 1, none⟩ = some (.slice A1 (len x) c1) ∧ w'.cell? ⟨w.heap.size + 1, 0, none⟩ = some (.bool b2) ∧ w'.cell? ⟨w.heap.size + 1, 1, none⟩ = some (.slice A2 (len y) c2)) (go_keep)
    (first
     | (go_at_call 75; refine (natMul_any A1 A2 c1 c2 x y lo1 lo2 _ (Row.below (B := (((w.alloc (.cells #[.bool b1, .slice A1 (len x) c1] 24)).alloc (.cells #[.bool b2, .slice A2 (len y) c2] 24)).alloc (.cells #[.bool false, .slice none 0 0] 24)).heap.size) h1 oldA (Nat.le_refl _)) (Row.below (B := (((w.alloc (.cells #[.bool b1, .slice A1 (len x) c1] 24)).alloc (.cells #[.bool b2, .slice A2 (len y) c2] 24)).alloc (.cells #[.bool false, .slice none 0 0] 24)).heap.size) h2 oldA (Nat.le_refl _)) (by omega) (by omega)).mono ?_; rintro e w1 ⟨A, c, rfl, r1, o1⟩; replace o1 : Old (((w.alloc (.cells #[.bool b1, .slice A1 (len x) c1] 24)).alloc (.cells #[.bool b2, .slice A2 (len y) c2] 24)).alloc (.cells #[.bool false, .slice none 0 0] 24)) w1 := Below.trans (b := _) oldA (Below.mono o1 leA); replace B_x := Bx.old B_x o1; replace B_y := Bx.old B_y o1; replace B_r := Bx.old B_r o1; replace h1 := Row.below h1 o1 (Nat.le_refl _); replace h2 := Row.below h2 o1 (Nat.le_refl _); replace O := Old.trans O o1; have z1 : w.heap.size + 3 ≤ w1.heap.size := (by have h := o1.size; simp at h; omega); replace r1 := Row.more (lo' := w.heap.size + 1 + 1 + 1) r1 leA; have q_x_0 := B_x.cell 0 rfl; have q_x_1 := B_x.cell 1 rfl; have f_x_0 := B_x.frozen 0; have f_x_1 := B_x.frozen 1; have q_x := B_x.lt; have q_y_0 := B_y.cell 0 rfl; have q_y_1 := B_y.cell 1 rfl; have f_y_0 := B_y.frozen 0; have f_y_1 := B_y.frozen 1; have q_y := B_y.lt; have q_r_0 := B_r.cell 0 rfl; have q_r_1 := B_r.cell 1 rfl; have f_r_0 := B_r.frozen 0; have f_r_1 := B_r.frozen 1; have q_r := B_r.lt)
     | (go_at_call 78; refine (bigMake_any (b1 != b2) A (len (x * y)) c _).mono ?_; rintro e w2 ⟨rfl, o2⟩; clear q_x_0 q_x_1 f_x_0 f_x_1 q_x q_y_0 q_y_1 f_y_0 f_y_1 q_y q_r_0 q_r_1 f_r_0 f_r_1 q_r; replace o2 : Old w1 w2 := Below.trans (b := _) oldA (Below.mono o2 leA); replace B_x := Bx.old B_x o2; replace B_y := Bx.old B_y o2; replace B_r := Bx.old B_r o2; replace h1 := Row.below h1 o2 (Nat.le_refl _); replace h2 := Row.below h2 o2 (Nat.le_refl _); replace r1 := Row.below r1 o2 (Nat.le_refl _); replace O := Old.trans O o2; have z2 := o2.size; have q_x_0 := B_x.cell 0 rfl; have q_x_1 := B_x.cell 1 rfl; have f_x_0 := B_x.frozen 0; have f_x_1 := B_x.frozen 1; have q_x := B_x.lt; have q_y_0 := B_y.cell 0 rfl; have q_y_1 := B_y.cell 1 rfl; have f_y_0 := B_y.frozen 0; have f_y_1 := B_y.frozen 1; have q_y := B_y.lt; have q_r_0 := B_r.cell 0 rfl; have q_r_1 := B_r.cell 1 rfl; have f_r_0 := B_r.frozen 0; have f_r_1 := B_r.frozen 1; have q_r := B_r.lt))
  go_wp2
  refine bodyPost_ret (v := .agg #[.bool ((b1 != b2) && decide (0 < len (x * y))), .slice A (len (x * y)) c]) (by simp [results, Tryz.results73, go_sem, q_r_0, q_r_1]) rfl ⟨RetB.mk' (b := b1 != b2) (x := x * y) (A := A) (c := c) (by rw [len_dec]) ?_ (by rw [ht]), ?_⟩
  · refine Row.more (lo := w.heap.size + 1 + 1 + 1) ?_ leA
    repeat' (first | exact r1 | refine Row.far_set ?_ (by first | (simp <;> done) | (simp; omega) | omega) _)
  · exact oldA
set_option maxRecDepth 100000 in
set_option maxHeartbeats 1000000 in
theorem bigCmp_tt (A1 A2 : Option Addr) (c1 c2 x y lo1 lo2 : Nat) (w : World) (h1 : NatS w lo1 A1 c1 x) (h2 : NatS w lo2 A2 c2 y) (hx : len x ≤ 200) (hy : len y ≤ 200) :
    Calls Tryz.prog 76 #[.agg #[.bool true, .slice A1 (len x) c1], .agg #[.bool true, .slice A2 (len y) c2]] w fun e w' => e = .returned (.int .i64 (cmpN y x)) ∧ Old w w' := by
  have O : Old w ((w.alloc (.cells #[.bool true, .slice A1 (len x) c1] 24)).alloc (.cells #[.bool true, .slice A2 (len y) c2] 24)) := oldA
  have B_x : Bx ((w.alloc (.cells #[.bool true, .slice A1 (len x) c1] 24)).alloc (.cells #[.bool true, .slice A2 (len y) c2] 24)) (w.heap.size) #[.bool true, .slice A1 (len x) c1] := by have h := (Bx.alloc (Bx.new w #[.bool true, .slice A1 (len x) c1] 24) (.cells #[.bool true, .slice A2 (len y) c2] 24)); simpa using h
  have B_y : Bx ((w.alloc (.cells #[.bool true, .slice A1 (len x) c1] 24)).alloc (.cells #[.bool true, .slice A2 (len y) c2] 24)) (w.heap.size + 1) #[.bool true, .slice A2 (len y) c2] := by have h := (Bx.new (w.alloc (.cells #[.bool true, .slice A1 (len x) c1] 24)) #[.bool true, .slice A2 (len y) c2] 24); simpa using h
  have ne_0_1 : ¬ (w.heap.size = w.heap.size + 1) := by omega
  have ne_1_0 : ¬ (w.heap.size + 1 = w.heap.size) := by omega
  replace h1 := Row.below h1 O (Nat.le_refl _)
  replace h2 := Row.below h2 O (Nat.le_refl _)
  go_enter Tryz.func76, Tryz.ntmps76
  go_wp2_with fail
  refine (natCmp_any A2 A1 c2 c1 y x lo2 lo1 _ (Row.below (B := ((w.alloc (.cells #[.bool true, .slice A1 (len x) c1] 24)).alloc (.cells #[.bool true, .slice A2 (len y) c2] 24)).heap.size) h2 oldA (Nat.le_refl _)) (Row.below (B := ((w.alloc (.cells #[.bool true, .slice A1 (len x) c1] 24)).alloc (.cells #[.bool true, .slice A2 (len y) c2] 24)).heap.size) h1 oldA (Nat.le_refl _)) (by omega) (by omega)).mono ?_
  rintro e w1 ⟨rfl, o1⟩
  replace o1 : Old ((w.alloc (.cells #[.bool true, .slice A1 (len x) c1] 24)).alloc (.cells #[.bool true, .slice A2 (len y) c2] 24)) w1 := Below.trans (b := _) oldA (Below.mono o1 leA)
  replace B_x := Bx.old B_x o1
  replace B_y := Bx.old B_y o1
  replace h1 := Row.below h1 o1 (Nat.le_refl _)
  replace h2 := Row.below h2 o1 (Nat.le_refl _)
  replace O := Old.trans O o1
  have z1 : w.heap.size + 2 ≤ w1.heap.size := (by have h := o1.size; simp at h; omega)
  have q_x_0 := B_x.cell 0 rfl
  have q_x_1 := B_x.cell 1 rfl
  have f_x_0 := B_x.frozen 0
  have f_x_1 := B_x.frozen 1
  have q_x := B_x.lt
  have q_y_0 := B_y.cell 0 rfl
  have q_y_1 := B_y.cell 1 rfl
  have f_y_0 := B_y.frozen 0
  have f_y_1 := B_y.frozen 1
  have q_y := B_y.lt
  go_wp2
  go_ret
  exact ⟨rfl, oldA⟩
set_option maxRecDepth 100000 in
set_option maxHeartbeats 1000000 in
theorem bigCmp_tf (A1 A2 : Option Addr) (c1 c2 x y lo1 lo2 : Nat) (w : World) (h1 : NatS w lo1 A1 c1 x) (h2 : NatS w lo2 A2 c2 y) (hx : len x ≤ 200) (hy : len y ≤ 200) :
    Calls Tryz.prog 76 #[.agg #[.bool true, .slice A1 (len x) c1], .agg #[.bool false, .slice A2 (len y) c2]] w fun e w' => e = .returned (.int .i64 (-1)) ∧ Old w w' := by
  have O : Old w ((w.alloc (.cells #[.bool true, .slice A1 (len x) c1] 24)).alloc (.cells #[.bool false, .slice A2 (len y) c2] 24)) := oldA
  have B_x : Bx ((w.alloc (.cells #[.bool true, .slice A1 (len x) c1] 24)).alloc (.cells #[.bool false, .slice A2 (len y) c2] 24)) (w.heap.size) #[.bool true, .slice A1 (len x) c1] := by have h := (Bx.alloc (Bx.new w #[.bool true, .slice A1 (len x) c1] 24) (.cells #[.bool false, .slice A2 (len y) c2] 24)); simpa using h
  have B_y : Bx ((w.alloc (.cells #[.bool true, .slice A1 (len x) c1] 24)).alloc (.cells #[.bool false, .slice A2 (len y) c2] 24)) (w.heap.size + 1) #[.bool false, .slice A2 (len y) c2] := by have h := (Bx.new (w.alloc (.cells #[.bool true, .slice A1 (len x) c1] 24)) #[.bool false, .slice A2 (len y) c2] 24); simpa using h
  have ne_0_1 : ¬ (w.heap.size = w.heap.size + 1) := by omega
  have ne_1_0 : ¬ (w.heap.size + 1 = w.heap.size) := by omega
  replace h1 := Row.below h1 O (Nat.le_refl _)
  replace h2 := Row.below h2 O (Nat.le_refl _)
  go_enter Tryz.func76, Tryz.ntmps76
  go_wp2
  go_ret
  exact ⟨rfl, oldA⟩
set_option maxRecDepth 100000 in
set_option maxHeartbeats 1000000 in
theorem bigCmp_ft (A1 A2 : Option Addr) (c1 c2 x y lo1 lo2 : Nat) (w : World) (h1 : NatS w lo1 A1 c1 x) (h2 : NatS w lo2 A2 c2 y) (hx : len x ≤ 200) (hy : len y ≤ 200) :
    Calls Tryz.prog 76 #[.agg #[.bool false, .slice A1 (len x) c1], .agg #[.bool true, .slice A2 (len y) c2]] w fun e w' => e = .returned (.int .i64 (1)) ∧ Old w w' := by
  have O : Old w ((w.alloc (.cells #[.bool false, .slice A1 (len x) c1] 24)).alloc (.cells #[.bool true, .slice A2 (len y) c2] 24)) := oldA
  have B_x : Bx ((w.alloc (.cells #[.bool false, .slice A1 (len x) c1] 24)).alloc (.cells #[.bool true, .slice A2 (len y) c2] 24)) (w.heap.size) #[.bool false, .slice A1 (len x) c1] := by have h := (Bx.alloc (Bx.new w #[.bool false, .slice A1 (len x) c1] 24) (.cells #[.bool true, .slice A2 (len y) c2] 24)); simpa using h
  have B_y : Bx ((w.alloc (.cells #[.bool false, .slice A1 (len x) c1] 24)).alloc (.cells #[.bool true, .slice A2 (len y) c2] 24)) (w.heap.size + 1) #[.bool true, .slice A2 (len y) c2] := by have h := (Bx.new (w.alloc (.cells #[.bool false, .slice A1 (len x) c1] 24)) #[.bool true, .slice A2 (len y) c2] 24); simpa using h
  have ne_0_1 : ¬ (w.heap.size = w.heap.size + 1) := by omega
  have ne_1_0 : ¬ (w.heap.size + 1 = w.heap.size) := by omega
  replace h1 := Row.below h1 O (Nat.le_refl _)
  replace h2 := Row.below h2 O (Nat.le_refl _)
  go_enter Tryz.func76, Tryz.ntmps76
  go_wp2
  go_ret
  exact ⟨rfl, oldA⟩
set_option maxRecDepth 100000 in
set_option maxHeartbeats 1000000 in
theorem bigCmp_ff (A1 A2 : Option Addr) (c1 c2 x y lo1 lo2 : Nat) (w : World) (h1 : NatS w lo1 A1 c1 x) (h2 : NatS w lo2 A2 c2 y) (hx : len x ≤ 200) (hy : len y ≤ 200) :
    Calls Tryz.prog 76 #[.agg #[.bool false, .slice A1 (len x) c1], .agg #[.bool false, .slice A2 (len y) c2]] w fun e w' => e = .returned (.int .i64 (cmpN x y)) ∧ Old w w' := by
  have O : Old w ((w.alloc (.cells #[.bool false, .slice A1 (len x) c1] 24)).alloc (.cells #[.bool false, .slice A2 (len y) c2] 24)) := oldA
  have B_x : Bx ((w.alloc (.cells #[.bool false, .slice A1 (len x) c1] 24)).alloc (.cells #[.bool false, .slice A2 (len y) c2] 24)) (w.heap.size) #[.bool false, .slice A1 (len x) c1] := by have h := (Bx.alloc (Bx.new w #[.bool false, .slice A1 (len x) c1] 24) (.cells #[.bool false, .slice A2 (len y) c2] 24)); simpa using h
  have B_y : Bx ((w.alloc (.cells #[.bool false, .slice A1 (len x) c1] 24)).alloc (.cells #[.bool false, .slice A2 (len y) c2] 24)) (w.heap.size + 1) #[.bool false, .slice A2 (len y) c2] := by have h := (Bx.new (w.alloc (.cells #[.bool false, .slice A1 (len x) c1] 24)) #[.bool false, .slice A2 (len y) c2] 24); simpa using h
  have ne_0_1 : ¬ (w.heap.size = w.heap.size + 1) := by omega
  have ne_1_0 : ¬ (w.heap.size + 1 = w.heap.size) := by omega
  replace h1 := Row.below h1 O (Nat.le_refl _)
  replace h2 := Row.below h2 O (Nat.le_refl _)
  go_enter Tryz.func76, Tryz.ntmps76
  go_wp2_with fail
  refine (natCmp_any A1 A2 c1 c2 x y lo1 lo2 _ (Row.below (B := ((w.alloc (.cells #[.bool false, .slice A1 (len x) c1] 24)).alloc (.cells #[.bool false, .slice A2 (len y) c2] 24)).heap.size) h1 oldA (Nat.le_refl _)) (Row.below (B := ((w.alloc (.cells #[.bool false, .slice A1 (len x) c1] 24)).alloc (.cells #[.bool false, .slice A2 (len y) c2] 24)).heap.size) h2 oldA (Nat.le_refl _)) (by omega) (by omega)).mono ?_
  rintro e w1 ⟨rfl, o1⟩
  replace o1 : Old ((w.alloc (.cells #[.bool false, .slice A1 (len x) c1] 24)).alloc (.cells #[.bool false, .slice A2 (len y) c2] 24)) w1 := Below.trans (b := _) oldA (Below.mono o1 leA)
  replace B_x := Bx.old B_x o1
  replace B_y := Bx.old B_y o1
  replace h1 := Row.below h1 o1 (Nat.le_refl _)
  replace h2 := Row.below h2 o1 (Nat.le_refl _)
  replace O := Old.trans O o1
  have z1 : w.heap.size + 2 ≤ w1.heap.size := (by have h := o1.size; simp at h; omega)
  have q_x_0 := B_x.cell 0 rfl
  have q_x_1 := B_x.cell 1 rfl
  have f_x_0 := B_x.frozen 0
  have f_x_1 := B_x.frozen 1
  have q_x := B_x.lt
  have q_y_0 := B_y.cell 0 rfl
  have q_y_1 := B_y.cell 1 rfl
  have f_y_0 := B_y.frozen 0
  have f_y_1 := B_y.frozen 1
  have q_y := B_y.lt
  go_wp2
  go_ret
  exact ⟨rfl, oldA⟩
theorem bigCmp_any (b1 b2 : Bool) (A1 A2 : Option Addr) (c1 c2 x y lo1 lo2 : Nat) (w : World) (h1 : NatS w lo1 A1 c1 x) (h2 : NatS w lo2 A2 c2 y) (hx : len x ≤ 200) (hy : len y ≤ 200) (hb1 : b1 = true → 0 < x) (hb2 : b2 = true → 0 < y) :
    Calls Tryz.prog 76 #[.agg #[.bool b1, .slice A1 (len x) c1], .agg #[.bool b2, .slice A2 (len y) c2]] w fun e w' => e = .returned (.int .i64 (cmpZ (signed b1 x) (signed b2 y))) ∧ Old w w' := by
  cases b1 with
  | true => cases b2 with
    | true => rw [cmpZ_tt]; exact bigCmp_tt A1 A2 c1 c2 x y lo1 lo2 w h1 h2 hx hy
    | false => rw [cmpZ_tf (hb1 rfl)]; exact bigCmp_tf A1 A2 c1 c2 x y lo1 lo2 w h1 h2 hx hy
  | false => cases b2 with
    | true => rw [cmpZ_ft (hb2 rfl)]; exact bigCmp_ft A1 A2 c1 c2 x y lo1 lo2 w h1 h2 hx hy
    | false => rw [cmpZ_ff]; exact bigCmp_ff A1 A2 c1 c2 x y lo1 lo2 w h1 h2 hx hy
theorem spec_BigIntOk_yes (b : Bool) (A : Option Addr) (c x lo : Nat) (w : World) (h : NatS w lo A c x) (hx : len x ≤ 60) (hb : b = true → 0 < x) :
    Calls Tryz.prog 79 #[.agg #[.bool b, .slice A (len x) c]] w fun e w' => e = .returned (.bool true) ∧ Old w w' :=
  (spec_BigIntOk b A (len x) c lo (digI x) w h (by omega)).mono fun e w' he => ⟨by rw [he.1, rBigIntOk_yes (okB_of hx hb)], he.2⟩
theorem spec_BigIntOk_no (b : Bool) (A : Option Addr) (n c lo : Nat) (f : Nat → Int) (w : World) (h : Row w lo A n c f) (hn : n ≤ 1048576) (k : ¬ okB b n f) :
    Calls Tryz.prog 79 #[.agg #[.bool b, .slice A n c]] w fun e w' => e = .returned (.bool false) ∧ Old w w' :=
  (spec_BigIntOk b A n c lo f w h hn).mono fun e w' he => ⟨by rw [he.1, rBigIntOk_no k], he.2⟩
theorem impl_BigIntOk_yes (b : Bool) (A : Option Addr) (c x lo : Nat) (w : World) (h : NatS w lo A c x) (hx : len x ≤ 60) (hb : b = true → 0 < x) :
    Calls Tryz.prog 57 #[.agg #[.bool b, .slice A (len x) c]] w fun e w' => e = .returned (.bool true) ∧ Old w w' :=
  (impl_BigIntOk b A (len x) c lo (digI x) w h (by omega)).mono fun e w' he => ⟨by rw [he.1, rBigIntOk_yes (okB_of hx hb)], he.2⟩
theorem impl_BigIntOk_no (b : Bool) (A : Option Addr) (n c lo : Nat) (f : Nat → Int) (w : World) (h : Row w lo A n c f) (hn : n ≤ 1048576) (k : ¬ okB b n f) :
    Calls Tryz.prog 57 #[.agg #[.bool b, .slice A n c]] w fun e w' => e = .returned (.bool false) ∧ Old w w' :=
  (impl_BigIntOk b A n c lo f w h hn).mono fun e w' he => ⟨by rw [he.1, rBigIntOk_no k], he.2⟩
end Go.Proofs.YtgchbbjhdeobpaaGreatDoor
