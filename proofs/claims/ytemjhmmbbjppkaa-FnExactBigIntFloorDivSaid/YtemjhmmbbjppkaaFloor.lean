/-
  The quotient of a big integer by a natural number, rounded down, and the remainder: both BigIntFloorDiv's.
-/
import Derived.Test.YtemjhmmbbjppkaaBigMake
import Derived.Test.YtemjhmmbbjppkaaNatDiv3
namespace Go.Proofs.Ytemjhmmbbjppkaa
set_option linter.unusedVariables false
open Go.RowKit Num
attribute [local go_sem ↓] Go.wp_at_zero Go.wp_at_succ
/-- The quotient of b's number x by y, rounded down. -/
def zFlo (b : Bool) (x y : Nat) : Int := if b && decide (0 < x % y) then -((x / y + 1 : Nat) : Int) else signed b (x / y)
def rFlo (b : Bool) (x y : Nat) : Nat := if b && decide (0 < x % y) then y - x % y else x % y
theorem flo_p {x y : Nat} (h : 0 < x % y) : zFlo true x y = signed true (x / y + 1) ∧ rFlo true x y = y - x % y := by simp [zFlo, rFlo, h, signed]
theorem flo_q {b : Bool} {x y : Nat} (h : ¬ (b = true ∧ 0 < x % y)) : zFlo b x y = signed b (x / y) ∧ rFlo b x y = x % y := by
  have e : (b && decide (0 < x % y)) = false := by cases b <;> simp at * <;> omega
  unfold zFlo rFlo
  rw [e]
  exact ⟨rfl, rfl⟩
theorem succ_quo_len {x y : Nat} (hx : len x ≤ 60) (hy : 0 < y) (h : 0 < x % y) : len (x / y + 1) ≤ 60 := by
  apply len_le_iff.2
  have h1 := len_le_iff.1 hx
  have h2 := Nat.div_add_mod x y
  have h3 := Nat.mod_lt x hy
  have h4 : 2 * (x / y) ≤ y * (x / y) := Nat.mul_le_mul_right _ (by omega)
  omega
def RetBN (e : Ending) (w : World) (lo : Nat) (z : Int) (r : Nat) : Prop := ∃ A1 c1 A2 c2, e = .returned (.tuple #[.agg #[.bool (sgnZ z), .slice A1 (len (magZ z)) c1], .slice A2 (len r) c2]) ∧ NatS w lo A1 c1 (magZ z) ∧ NatS w lo A2 c2 r
def RetBNA (e : Ending) (w : World) (lo : Nat) (z : Int) (r : Nat) : Prop := ∃ A1 c1 A2 c2, e = .returned (.tuple #[.agg #[.bool (sgnZ z), .slice A1 (len (magZ z)) c1], .slice A2 (len r) c2]) ∧ NatS w lo A1 c1 (magZ z) ∧ NatS w lo A2 c2 r ∧ Apart A1 (len (magZ z)) A2 (len r)
theorem nil_apart : Apart none (len (magZ 0)) none (len 0) := fun a a' h => by rw [show magZ 0 = 0 from rfl, len_zero] at h; omega
theorem len_1 : len 1 = 1 := len_eq (by rw [Nat.pow_one, B_eq]; omega) (fun _ => by rw [Nat.sub_self, Nat.pow_zero]; omega)
theorem one_row' (w : World) : Row (w.alloc (.cells #[.int .i64 1] 3)) 0 (some ⟨w.heap.size, 0, none⟩) 1 1 (digI 1) := by
  refine ⟨by omega, fun _ => ⟨w.heap.size, 0, rfl, Nat.zero_le _, by simp, fun j => World.frozen?_alloc_at _ _ _ _ rfl, fun j hj => ?_⟩⟩
  rw [World.cell?_alloc_at _ _ _ _ rfl]
  obtain rfl : j = 0 := by omega
  have e : dig 1 0 = 1 := by unfold dig; rw [Nat.pow_zero, Nat.div_one, Nat.mod_eq_of_lt B_gt]
  unfold digI
  rw [e]
  rfl
theorem l02Add_one (A1 : Option Addr) (c1 x lo1 : Nat) (w : World) (h1 : NatS w lo1 A1 c1 x) (hx : len x ≤ 400) :
    Calls Try.prog 93 #[.slice A1 (len x) c1, .slice (some ⟨w.heap.size, 0, none⟩) 1 1] (w.alloc (.cells #[.int .i64 1] 3)) fun e w' => ∃ A c, e = .returned (.slice A (len (x + 1)) c) ∧ NatS w' w.heap.size A c (x + 1) ∧ Old w w' := by
  have o : Old w (w.alloc (.cells #[.int .i64 1] 3)) := (Old.refl w).alloc (Nat.le_refl _) _
  have h2 : NatS (w.alloc (.cells #[.int .i64 1] 3)) 0 (some ⟨w.heap.size, 0, none⟩) 1 1 := by have h := one_row' w; unfold NatS; rw [len_1]; exact h
  have h := l02Add_any A1 (some ⟨w.heap.size, 0, none⟩) c1 1 x 1 lo1 0 _ (NatS.below h1 o) h2 (by omega) (by rw [len_1]; omega)
  rw [len_1] at h
  refine h.mono ?_
  rintro e w' ⟨A, c, he, r, o'⟩
  exact ⟨A, c, he, Row.more r o.size, Old.trans o o'⟩

open Classical in
def floP (b : Bool) (n : Nat) (f : Nat → Int) (m : Nat) (g : Nat → Int) : Prop := okB b n f ∧ okP m g ∧ 0 < m
open Classical in
noncomputable def zBigIntFloorDiv0 (b : Bool) (n : Nat) (f : Nat → Int) (m : Nat) (g : Nat → Int) : Int := if floP b n f m g then zFlo b (natX n f) (natX m g) else 0
open Classical in
noncomputable def rBigIntFloorDiv1 (b : Bool) (n : Nat) (f : Nat → Int) (m : Nat) (g : Nat → Int) : Nat := if floP b n f m g then rFlo b (natX n f) (natX m g) else 0
theorem flo_yes {b : Bool} {n m : Nat} {f g : Nat → Int} (k : floP b n f m g) : zBigIntFloorDiv0 b n f m g = zFlo b (natX n f) (natX m g) ∧ rBigIntFloorDiv1 b n f m g = rFlo b (natX n f) (natX m g) := ⟨if_pos k, if_pos k⟩
theorem flo_no {b : Bool} {n m : Nat} {f g : Nat → Int} (k : ¬ floP b n f m g) : zBigIntFloorDiv0 b n f m g = 0 ∧ rBigIntFloorDiv1 b n f m g = 0 := ⟨if_neg k, if_neg k⟩
theorem zBigIntFloorDiv0_len (b : Bool) (n : Nat) (f : Nat → Int) (m : Nat) (g : Nat → Int) : len (magZ (zBigIntFloorDiv0 b n f m g)) ≤ 60 := by
  by_cases k : floP b n f m g
  · rw [(flo_yes k).1]
    have hx := natX_len k.1.1
    have hy : 0 < natX m g := by have h1 := natX_spec k.2.1; have := k.2.2; exact pos_len (by omega)
    by_cases h : b = true ∧ 0 < natX n f % natX m g
    · obtain ⟨hb, h⟩ := h
      subst hb
      rw [(flo_p h).1, mag_signed]
      exact succ_quo_len hx hy h
    · rw [(flo_q h).1, mag_signed]
      have := div_len (natX n f) (natX m g)
      omega
  · rw [(flo_no k).1]
    have : len (magZ 0) = 0 := len_zero
    omega
theorem rBigIntFloorDiv1_len (b : Bool) (n : Nat) (f : Nat → Int) (m : Nat) (g : Nat → Int) : len (rBigIntFloorDiv1 b n f m g) ≤ 60 := by
  by_cases k : floP b n f m g
  · rw [(flo_yes k).2]
    have hy := natX_len k.2.1
    have hx := natX_len k.1.1
    have h1 := len_mono (Nat.sub_le (natX m g) (natX n f % natX m g))
    have h2 := len_mono (Nat.mod_le (natX n f) (natX m g))
    unfold rFlo; split <;> omega
  · rw [(flo_no k).2, len_zero]; omega
set_option maxRecDepth 100000 in
set_option maxHeartbeats 1000000 in
theorem spec_BigIntFloorDiv_p (A1 A2 : Option Addr) (c1 c2 x y lo1 lo2 : Nat) (w : World) (h1 : NatS w lo1 A1 c1 x) (h2 : NatS w lo2 A2 c2 y) (hx : len x ≤ 60) (hy : len y ≤ 60) (hb : true = true → 0 < x) (hy0 : 0 < y) (h : 0 < x % y) :
    Calls Try.prog 57 #[.agg #[.bool true, .slice A1 (len x) c1], .slice A2 (len y) c2] w fun e w' => RetBN e w' w.heap.size (zFlo true x y) (rFlo true x y) ∧ Old w w' := by
  have hF := flo_p h
  rw [hF.1, hF.2]
  clear hF
  have hyz : (((len y : Nat) : Int) == 0) = false := by have := len_pos hy0; simp; omega
  obtain ⟨q, hq⟩ : ∃ q, q = x / y := ⟨_, rfl⟩
  obtain ⟨t, ht⟩ : ∃ t, t = x % y := ⟨_, rfl⟩
  have HQ := Lib.hid hq
  have HT := Lib.hid ht
  have hql : len q ≤ 60 := by rw [hq]; have := div_len x y; omega
  have htl : len t ≤ 60 := by rw [ht]; have := len_mono (Nat.mod_le x y); omega
  have hty : t ≤ y := by rw [ht]; exact Nat.le_of_lt (Nat.mod_lt x hy0)
  have hsl : len (q + 1) ≤ 60 := by rw [hq]; exact succ_quo_len hx hy0 h
  have htp : 0 < len t := by rw [ht]; exact len_pos h
  have hi : (0 : Int) < ((len t : Nat) : Int) := by omega
  have Hc : Hid (capN (q + 1) = q + 1) := Lib.hid (capN_self hsl)
  have hdl : len (y - t) ≤ 60 := by have := len_mono (Nat.sub_le y t); omega
  rw [← hq, ← ht]
  have HB := Lib.hid hb
  have HY := Lib.hid hy0
  have KY := Lib.hid (okP_of hy)
  clear h hq ht hb hy0
  have HB1 := Lib.hid (HB.out rfl)
  clear HB
  have O : Old w ((w.alloc (.cells #[.bool true, .slice A1 (len x) c1] 37)).alloc (.cells #[.bool false, .slice none 0 0] 37)) := oldA
  have B_x : Bx ((w.alloc (.cells #[.bool true, .slice A1 (len x) c1] 37)).alloc (.cells #[.bool false, .slice none 0 0] 37)) (w.heap.size) #[.bool true, .slice A1 (len x) c1] := by have h := (Bx.alloc (Bx.new w #[.bool true, .slice A1 (len x) c1] 37) (.cells #[.bool false, .slice none 0 0] 37)); simpa using h
  have B_r : Bx ((w.alloc (.cells #[.bool true, .slice A1 (len x) c1] 37)).alloc (.cells #[.bool false, .slice none 0 0] 37)) (w.heap.size + 1) #[.bool false, .slice none 0 0] := by have h := (Bx.new (w.alloc (.cells #[.bool true, .slice A1 (len x) c1] 37)) #[.bool false, .slice none 0 0] 37); simpa using h
  have ne_0_1 : ¬ (w.heap.size = w.heap.size + 1) := by omega
  have ne_1_0 : ¬ (w.heap.size + 1 = w.heap.size) := by omega
  replace h1 := Row.below h1 O (Nat.le_refl _)
  replace h2 := Row.below h2 O (Nat.le_refl _)
  go_enter Try.func57, Try.ntmps57
  go_wp2_with fail
  refine (spec_BigIntOk_yes true A1 c1 x lo1 _ (Row.below (B := ((w.alloc (.cells #[.bool true, .slice A1 (len x) c1] 37)).alloc (.cells #[.bool false, .slice none 0 0] 37)).heap.size) h1 oldA (Nat.le_refl _)) hx (fun _ => HB1.out)).mono ?_
  rintro e w1 ⟨rfl, o1⟩
  replace o1 : Old ((w.alloc (.cells #[.bool true, .slice A1 (len x) c1] 37)).alloc (.cells #[.bool false, .slice none 0 0] 37)) w1 := Below.trans (b := _) oldA (Below.mono o1 leA)
  replace B_x := Bx.old B_x o1
  replace B_r := Bx.old B_r o1
  replace h1 := Row.below h1 o1 (Nat.le_refl _)
  replace h2 := Row.below h2 o1 (Nat.le_refl _)
  replace O := Old.trans O o1
  have z1 : w.heap.size + 2 ≤ w1.heap.size := (by have h := o1.size; simp at h; omega)
  have q_x_0 := B_x.cell 0 rfl
  have q_x_1 := B_x.cell 1 rfl
  have f_x_0 := B_x.frozen 0
  have f_x_1 := B_x.frozen 1
  have q_x := B_x.lt
  have q_r_0 := B_r.cell 0 rfl
  have q_r_1 := B_r.cell 1 rfl
  have f_r_0 := B_r.frozen 0
  have f_r_1 := B_r.frozen 1
  have q_r := B_r.lt
  go_wp2_with fail
  refine (specNatOk_yes A2 _ c2 _ lo2 _ (Row.below (B := w1.heap.size) h2 oldA (Nat.le_refl _)) KY.out).mono ?_
  rintro e w2 ⟨rfl, rfl⟩
  go_wp2_with fail
  refine (l02Div_any A1 A2 c1 c2 x y lo1 lo2 _ (Row.below (B := w1.heap.size) h1 oldA (Nat.le_refl _)) (Row.below (B := w1.heap.size) h2 oldA (Nat.le_refl _)) (by omega) (by omega) HY.out).mono ?_
  rintro e w2 ⟨⟨A3, c3, A4, c4, he, r3, r4⟩, o2⟩
  clear q_x_0 q_x_1 f_x_0 f_x_1 q_x q_r_0 q_r_1 f_r_0 f_r_1 q_r
  replace o2 : Old w1 w2 := Below.trans (b := _) oldA (Below.mono o2 leA)
  replace B_x := Bx.old B_x o2
  replace B_r := Bx.old B_r o2
  replace h1 := Row.below h1 o2 (Nat.le_refl _)
  replace h2 := Row.below h2 o2 (Nat.le_refl _)
  replace O := Old.trans O o2
  have z2 := o2.size
  replace r3 := Row.more (lo' := w1.heap.size) r3 leA
  replace r4 := Row.more (lo' := w1.heap.size) r4 leA
  rw [← HQ.out, ← HT.out] at he
  rw [← HQ.out] at r3
  rw [← HT.out] at r4
  subst he
  have q_x_0 := B_x.cell 0 rfl
  have q_x_1 := B_x.cell 1 rfl
  have f_x_0 := B_x.frozen 0
  have f_x_1 := B_x.frozen 1
  have q_x := B_x.lt
  have q_r_0 := B_r.cell 0 rfl
  have q_r_1 := B_r.cell 1 rfl
  have f_r_0 := B_r.frozen 0
  have f_r_1 := B_r.frozen 1
  have q_r := B_r.lt
  go_wp2_with fail
  refine (l02Add_one A3 c3 q _ _ (Row.below (B := w2.heap.size) r3 oldA (Nat.le_refl _)) (by omega)).mono ?_
  rintro e w3 ⟨A5, c5, rfl, r5, o3⟩
  clear q_x_0 q_x_1 f_x_0 f_x_1 q_x q_r_0 q_r_1 f_r_0 f_r_1 q_r
  replace o3 : Old w2 w3 := Below.trans (b := _) oldA (Below.mono o3 leA)
  replace B_x := Bx.old B_x o3
  replace B_r := Bx.old B_r o3
  replace h1 := Row.below h1 o3 (Nat.le_refl _)
  replace h2 := Row.below h2 o3 (Nat.le_refl _)
  replace r3 := Row.below r3 o3 (Nat.le_refl _)
  replace r4 := Row.below r4 o3 (Nat.le_refl _)
  replace O := Old.trans O o3
  have z3 := o3.size
  replace r5 := Row.more (lo' := w2.heap.size) r5 leA
  have q_x_0 := B_x.cell 0 rfl
  have q_x_1 := B_x.cell 1 rfl
  have f_x_0 := B_x.frozen 0
  have f_x_1 := B_x.frozen 1
  have q_x := B_x.lt
  have q_r_0 := B_r.cell 0 rfl
  have q_r_1 := B_r.cell 1 rfl
  have f_r_0 := B_r.frozen 0
  have f_r_1 := B_r.frozen 1
  have q_r := B_r.lt
  go_wp2_with fail
  refine (l03Make_any true A5 _ c5 (q + 1) _ _ (Row.below (B := w3.heap.size) r5 oldA (Nat.le_refl _)) (Nat.le_refl _) (by omega)).mono ?_
  rintro e w4 ⟨⟨A6, c6, he, r6⟩, o4⟩
  clear q_x_0 q_x_1 f_x_0 f_x_1 q_x q_r_0 q_r_1 f_r_0 f_r_1 q_r
  replace o4 : Old w3 w4 := Below.trans (b := _) oldA (Below.mono o4 leA)
  replace B_x := Bx.old B_x o4
  replace B_r := Bx.old B_r o4
  replace h1 := Row.below h1 o4 (Nat.le_refl _)
  replace h2 := Row.below h2 o4 (Nat.le_refl _)
  replace r3 := Row.below r3 o4 (Nat.le_refl _)
  replace r4 := Row.below r4 o4 (Nat.le_refl _)
  replace r5 := Row.below r5 o4 (Nat.le_refl _)
  replace O := Old.trans O o4
  have z4 := o4.size
  replace r6 := Row.more (lo' := w3.heap.size) r6 leA
  rw [Hc.out] at he r6
  subst he
  have q_x_0 := B_x.cell 0 rfl
  have q_x_1 := B_x.cell 1 rfl
  have f_x_0 := B_x.frozen 0
  have f_x_1 := B_x.frozen 1
  have q_x := B_x.lt
  have q_r_0 := B_r.cell 0 rfl
  have q_r_1 := B_r.cell 1 rfl
  have f_r_0 := B_r.frozen 0
  have f_r_1 := B_r.frozen 1
  have q_r := B_r.lt
  go_wp2_with fail
  refine (l02Sub_any A2 A4 c2 c4 y t lo2 _ _ (Row.below (B := w4.heap.size) h2 oldA (Nat.le_refl _)) (Row.below (B := w4.heap.size) r4 oldA (Nat.le_refl _)) (by omega) (by omega) hty).mono ?_
  rintro e w5 ⟨A7, c7, rfl, r7, o5⟩
  clear q_x_0 q_x_1 f_x_0 f_x_1 q_x q_r_0 q_r_1 f_r_0 f_r_1 q_r
  replace o5 : Old w4 w5 := Below.trans (b := _) oldA (Below.mono o5 leA)
  replace B_x := Bx.old B_x o5
  replace B_r := Bx.old B_r o5
  replace h1 := Row.below h1 o5 (Nat.le_refl _)
  replace h2 := Row.below h2 o5 (Nat.le_refl _)
  replace r3 := Row.below r3 o5 (Nat.le_refl _)
  replace r4 := Row.below r4 o5 (Nat.le_refl _)
  replace r5 := Row.below r5 o5 (Nat.le_refl _)
  replace r6 := Row.below r6 o5 (Nat.le_refl _)
  replace O := Old.trans O o5
  have z5 := o5.size
  replace r7 := Row.more (lo' := w4.heap.size) r7 leA
  have q_x_0 := B_x.cell 0 rfl
  have q_x_1 := B_x.cell 1 rfl
  have f_x_0 := B_x.frozen 0
  have f_x_1 := B_x.frozen 1
  have q_x := B_x.lt
  have q_r_0 := B_r.cell 0 rfl
  have q_r_1 := B_r.cell 1 rfl
  have f_r_0 := B_r.frozen 0
  have f_r_1 := B_r.frozen 1
  have q_r := B_r.lt
  go_wp2
  refine bodyPost_ret (v := .tuple #[.agg #[.bool (sgnZ (signed true (q + 1))), .slice A6 (len (magZ (signed true (q + 1)))) c6], .slice A7 (len (y - t)) c7]) (by simp [results, Try.results57, go_sem, q_r_0, q_r_1]) rfl ⟨⟨A6, c6, A7, c7, rfl, ?_, ?_⟩, ?_⟩
  · refine Row.more (lo := w3.heap.size) ?_ leA
    repeat' (first | exact r6 | refine Row.far_set ?_ (by first | (simp <;> done) | (simp; omega) | omega) _)
  · refine Row.more (lo := w4.heap.size) ?_ leA
    repeat' (first | exact r7 | refine Row.far_set ?_ (by first | (simp <;> done) | (simp; omega) | omega) _)
  · exact oldA
set_option maxRecDepth 100000 in
set_option maxHeartbeats 1000000 in
theorem spec_BigIntFloorDiv_q (b : Bool) (A1 A2 : Option Addr) (c1 c2 x y lo1 lo2 : Nat) (w : World) (h1 : NatS w lo1 A1 c1 x) (h2 : NatS w lo2 A2 c2 y) (hx : len x ≤ 60) (hy : len y ≤ 60) (hb : b = true → 0 < x) (hy0 : 0 < y) (h : ¬ (b = true ∧ 0 < x % y)) :
    Calls Try.prog 57 #[.agg #[.bool b, .slice A1 (len x) c1], .slice A2 (len y) c2] w fun e w' => RetBN e w' w.heap.size (zFlo b x y) (rFlo b x y) ∧ Old w w' := by
  have hF := flo_q h
  rw [hF.1, hF.2]
  clear hF
  have hyz : (((len y : Nat) : Int) == 0) = false := by have := len_pos hy0; simp; omega
  obtain ⟨q, hq⟩ : ∃ q, q = x / y := ⟨_, rfl⟩
  obtain ⟨t, ht⟩ : ∃ t, t = x % y := ⟨_, rfl⟩
  have HQ := Lib.hid hq
  have HT := Lib.hid ht
  have hql : len q ≤ 60 := by rw [hq]; have := div_len x y; omega
  have htl : len t ≤ 60 := by rw [ht]; have := len_mono (Nat.mod_le x y); omega
  have hty : t ≤ y := by rw [ht]; exact Nat.le_of_lt (Nat.mod_lt x hy0)
  have Hc : Hid (capN q = q) := Lib.hid (capN_self hql)
  have hd : b = true → ¬ 0 < len t := fun hb1 hp => h ⟨hb1, by rw [← ht]; exact pos_len hp⟩
  rw [← hq, ← ht]
  have HB := Lib.hid hb
  have HY := Lib.hid hy0
  have KY := Lib.hid (okP_of hy)
  clear h hq ht hb hy0
  skip
  have Hd : Hid (b = true → ¬ 0 < len t) := Lib.hid hd
  clear hd
  obtain ⟨Z, hZ⟩ : ∃ Z, Z = signed b q := ⟨_, rfl⟩
  have HZ := Lib.hid hZ
  rw [← hZ]
  clear hZ
  cases b with
  | true =>
    have hi : ¬ (0 : Int) < ((len t : Nat) : Int) := by have := Hd.out rfl; omega
    have HB1 := Lib.hid (HB.out rfl)
    clear HB
    have O : Old w ((w.alloc (.cells #[.bool true, .slice A1 (len x) c1] 37)).alloc (.cells #[.bool false, .slice none 0 0] 37)) := oldA
    have B_x : Bx ((w.alloc (.cells #[.bool true, .slice A1 (len x) c1] 37)).alloc (.cells #[.bool false, .slice none 0 0] 37)) (w.heap.size) #[.bool true, .slice A1 (len x) c1] := by have h := (Bx.alloc (Bx.new w #[.bool true, .slice A1 (len x) c1] 37) (.cells #[.bool false, .slice none 0 0] 37)); simpa using h
    have B_r : Bx ((w.alloc (.cells #[.bool true, .slice A1 (len x) c1] 37)).alloc (.cells #[.bool false, .slice none 0 0] 37)) (w.heap.size + 1) #[.bool false, .slice none 0 0] := by have h := (Bx.new (w.alloc (.cells #[.bool true, .slice A1 (len x) c1] 37)) #[.bool false, .slice none 0 0] 37); simpa using h
    have ne_0_1 : ¬ (w.heap.size = w.heap.size + 1) := by omega
    have ne_1_0 : ¬ (w.heap.size + 1 = w.heap.size) := by omega
    replace h1 := Row.below h1 O (Nat.le_refl _)
    replace h2 := Row.below h2 O (Nat.le_refl _)
    go_enter Try.func57, Try.ntmps57
    go_wp2_with fail
    refine (spec_BigIntOk_yes true A1 c1 x lo1 _ (Row.below (B := ((w.alloc (.cells #[.bool true, .slice A1 (len x) c1] 37)).alloc (.cells #[.bool false, .slice none 0 0] 37)).heap.size) h1 oldA (Nat.le_refl _)) hx (fun _ => HB1.out)).mono ?_
    rintro e w1 ⟨rfl, o1⟩
    replace o1 : Old ((w.alloc (.cells #[.bool true, .slice A1 (len x) c1] 37)).alloc (.cells #[.bool false, .slice none 0 0] 37)) w1 := Below.trans (b := _) oldA (Below.mono o1 leA)
    replace B_x := Bx.old B_x o1
    replace B_r := Bx.old B_r o1
    replace h1 := Row.below h1 o1 (Nat.le_refl _)
    replace h2 := Row.below h2 o1 (Nat.le_refl _)
    replace O := Old.trans O o1
    have z1 : w.heap.size + 2 ≤ w1.heap.size := (by have h := o1.size; simp at h; omega)
    have q_x_0 := B_x.cell 0 rfl
    have q_x_1 := B_x.cell 1 rfl
    have f_x_0 := B_x.frozen 0
    have f_x_1 := B_x.frozen 1
    have q_x := B_x.lt
    have q_r_0 := B_r.cell 0 rfl
    have q_r_1 := B_r.cell 1 rfl
    have f_r_0 := B_r.frozen 0
    have f_r_1 := B_r.frozen 1
    have q_r := B_r.lt
    go_wp2_with fail
    refine (specNatOk_yes A2 _ c2 _ lo2 _ (Row.below (B := w1.heap.size) h2 oldA (Nat.le_refl _)) KY.out).mono ?_
    rintro e w2 ⟨rfl, rfl⟩
    go_wp2_with fail
    refine (l02Div_any A1 A2 c1 c2 x y lo1 lo2 _ (Row.below (B := w1.heap.size) h1 oldA (Nat.le_refl _)) (Row.below (B := w1.heap.size) h2 oldA (Nat.le_refl _)) (by omega) (by omega) HY.out).mono ?_
    rintro e w2 ⟨⟨A3, c3, A4, c4, he, r3, r4⟩, o2⟩
    clear q_x_0 q_x_1 f_x_0 f_x_1 q_x q_r_0 q_r_1 f_r_0 f_r_1 q_r
    replace o2 : Old w1 w2 := Below.trans (b := _) oldA (Below.mono o2 leA)
    replace B_x := Bx.old B_x o2
    replace B_r := Bx.old B_r o2
    replace h1 := Row.below h1 o2 (Nat.le_refl _)
    replace h2 := Row.below h2 o2 (Nat.le_refl _)
    replace O := Old.trans O o2
    have z2 := o2.size
    replace r3 := Row.more (lo' := w1.heap.size) r3 leA
    replace r4 := Row.more (lo' := w1.heap.size) r4 leA
    rw [← HQ.out, ← HT.out] at he
    rw [← HQ.out] at r3
    rw [← HT.out] at r4
    subst he
    have q_x_0 := B_x.cell 0 rfl
    have q_x_1 := B_x.cell 1 rfl
    have f_x_0 := B_x.frozen 0
    have f_x_1 := B_x.frozen 1
    have q_x := B_x.lt
    have q_r_0 := B_r.cell 0 rfl
    have q_r_1 := B_r.cell 1 rfl
    have f_r_0 := B_r.frozen 0
    have f_r_1 := B_r.frozen 1
    have q_r := B_r.lt
    go_wp2_with fail
    refine (l03Make_any true A3 _ c3 q _ _ (Row.below (B := w2.heap.size) r3 oldA (Nat.le_refl _)) (Nat.le_refl _) (by omega)).mono ?_
    rintro e w3 ⟨⟨A6, c6, he, r6⟩, o3⟩
    clear q_x_0 q_x_1 f_x_0 f_x_1 q_x q_r_0 q_r_1 f_r_0 f_r_1 q_r
    replace o3 : Old w2 w3 := Below.trans (b := _) oldA (Below.mono o3 leA)
    replace B_x := Bx.old B_x o3
    replace B_r := Bx.old B_r o3
    replace h1 := Row.below h1 o3 (Nat.le_refl _)
    replace h2 := Row.below h2 o3 (Nat.le_refl _)
    replace r3 := Row.below r3 o3 (Nat.le_refl _)
    replace r4 := Row.below r4 o3 (Nat.le_refl _)
    replace O := Old.trans O o3
    have z3 := o3.size
    replace r6 := Row.more (lo' := w2.heap.size) r6 leA
    rw [Hc.out, ← HZ.out] at he r6
    subst he
    have q_x_0 := B_x.cell 0 rfl
    have q_x_1 := B_x.cell 1 rfl
    have f_x_0 := B_x.frozen 0
    have f_x_1 := B_x.frozen 1
    have q_x := B_x.lt
    have q_r_0 := B_r.cell 0 rfl
    have q_r_1 := B_r.cell 1 rfl
    have f_r_0 := B_r.frozen 0
    have f_r_1 := B_r.frozen 1
    have q_r := B_r.lt
    go_wp2
    refine bodyPost_ret (v := .tuple #[.agg #[.bool (sgnZ Z), .slice A6 (len (magZ Z)) c6], .slice A4 (len t) c4]) (by simp [results, Try.results57, go_sem, q_r_0, q_r_1]) rfl ⟨⟨A6, c6, A4, c4, rfl, ?_, ?_⟩, ?_⟩
    · refine Row.more (lo := w2.heap.size) ?_ leA
      repeat' (first | exact r6 | refine Row.far_set ?_ (by first | (simp <;> done) | (simp; omega) | omega) _)
    · refine Row.more (lo := w1.heap.size) ?_ leA
      repeat' (first | exact r4 | refine Row.far_set ?_ (by first | (simp <;> done) | (simp; omega) | omega) _)
    · exact oldA
  | false =>
    clear HB
    have O : Old w ((w.alloc (.cells #[.bool false, .slice A1 (len x) c1] 37)).alloc (.cells #[.bool false, .slice none 0 0] 37)) := oldA
    have B_x : Bx ((w.alloc (.cells #[.bool false, .slice A1 (len x) c1] 37)).alloc (.cells #[.bool false, .slice none 0 0] 37)) (w.heap.size) #[.bool false, .slice A1 (len x) c1] := by have h := (Bx.alloc (Bx.new w #[.bool false, .slice A1 (len x) c1] 37) (.cells #[.bool false, .slice none 0 0] 37)); simpa using h
    have B_r : Bx ((w.alloc (.cells #[.bool false, .slice A1 (len x) c1] 37)).alloc (.cells #[.bool false, .slice none 0 0] 37)) (w.heap.size + 1) #[.bool false, .slice none 0 0] := by have h := (Bx.new (w.alloc (.cells #[.bool false, .slice A1 (len x) c1] 37)) #[.bool false, .slice none 0 0] 37); simpa using h
    have ne_0_1 : ¬ (w.heap.size = w.heap.size + 1) := by omega
    have ne_1_0 : ¬ (w.heap.size + 1 = w.heap.size) := by omega
    replace h1 := Row.below h1 O (Nat.le_refl _)
    replace h2 := Row.below h2 O (Nat.le_refl _)
    go_enter Try.func57, Try.ntmps57
    go_wp2_with fail
    refine (spec_BigIntOk_yes false A1 c1 x lo1 _ (Row.below (B := ((w.alloc (.cells #[.bool false, .slice A1 (len x) c1] 37)).alloc (.cells #[.bool false, .slice none 0 0] 37)).heap.size) h1 oldA (Nat.le_refl _)) hx (fun h => absurd h Bool.false_ne_true)).mono ?_
    rintro e w1 ⟨rfl, o1⟩
    replace o1 : Old ((w.alloc (.cells #[.bool false, .slice A1 (len x) c1] 37)).alloc (.cells #[.bool false, .slice none 0 0] 37)) w1 := Below.trans (b := _) oldA (Below.mono o1 leA)
    replace B_x := Bx.old B_x o1
    replace B_r := Bx.old B_r o1
    replace h1 := Row.below h1 o1 (Nat.le_refl _)
    replace h2 := Row.below h2 o1 (Nat.le_refl _)
    replace O := Old.trans O o1
    have z1 : w.heap.size + 2 ≤ w1.heap.size := (by have h := o1.size; simp at h; omega)
    have q_x_0 := B_x.cell 0 rfl
    have q_x_1 := B_x.cell 1 rfl
    have f_x_0 := B_x.frozen 0
    have f_x_1 := B_x.frozen 1
    have q_x := B_x.lt
    have q_r_0 := B_r.cell 0 rfl
    have q_r_1 := B_r.cell 1 rfl
    have f_r_0 := B_r.frozen 0
    have f_r_1 := B_r.frozen 1
    have q_r := B_r.lt
    go_wp2_with fail
    refine (specNatOk_yes A2 _ c2 _ lo2 _ (Row.below (B := w1.heap.size) h2 oldA (Nat.le_refl _)) KY.out).mono ?_
    rintro e w2 ⟨rfl, rfl⟩
    go_wp2_with fail
    refine (l02Div_any A1 A2 c1 c2 x y lo1 lo2 _ (Row.below (B := w1.heap.size) h1 oldA (Nat.le_refl _)) (Row.below (B := w1.heap.size) h2 oldA (Nat.le_refl _)) (by omega) (by omega) HY.out).mono ?_
    rintro e w2 ⟨⟨A3, c3, A4, c4, he, r3, r4⟩, o2⟩
    clear q_x_0 q_x_1 f_x_0 f_x_1 q_x q_r_0 q_r_1 f_r_0 f_r_1 q_r
    replace o2 : Old w1 w2 := Below.trans (b := _) oldA (Below.mono o2 leA)
    replace B_x := Bx.old B_x o2
    replace B_r := Bx.old B_r o2
    replace h1 := Row.below h1 o2 (Nat.le_refl _)
    replace h2 := Row.below h2 o2 (Nat.le_refl _)
    replace O := Old.trans O o2
    have z2 := o2.size
    replace r3 := Row.more (lo' := w1.heap.size) r3 leA
    replace r4 := Row.more (lo' := w1.heap.size) r4 leA
    rw [← HQ.out, ← HT.out] at he
    rw [← HQ.out] at r3
    rw [← HT.out] at r4
    subst he
    have q_x_0 := B_x.cell 0 rfl
    have q_x_1 := B_x.cell 1 rfl
    have f_x_0 := B_x.frozen 0
    have f_x_1 := B_x.frozen 1
    have q_x := B_x.lt
    have q_r_0 := B_r.cell 0 rfl
    have q_r_1 := B_r.cell 1 rfl
    have f_r_0 := B_r.frozen 0
    have f_r_1 := B_r.frozen 1
    have q_r := B_r.lt
    go_wp2_with fail
    refine (l03Make_any false A3 _ c3 q _ _ (Row.below (B := w2.heap.size) r3 oldA (Nat.le_refl _)) (Nat.le_refl _) (by omega)).mono ?_
    rintro e w3 ⟨⟨A6, c6, he, r6⟩, o3⟩
    clear q_x_0 q_x_1 f_x_0 f_x_1 q_x q_r_0 q_r_1 f_r_0 f_r_1 q_r
    replace o3 : Old w2 w3 := Below.trans (b := _) oldA (Below.mono o3 leA)
    replace B_x := Bx.old B_x o3
    replace B_r := Bx.old B_r o3
    replace h1 := Row.below h1 o3 (Nat.le_refl _)
    replace h2 := Row.below h2 o3 (Nat.le_refl _)
    replace r3 := Row.below r3 o3 (Nat.le_refl _)
    replace r4 := Row.below r4 o3 (Nat.le_refl _)
    replace O := Old.trans O o3
    have z3 := o3.size
    replace r6 := Row.more (lo' := w2.heap.size) r6 leA
    rw [Hc.out, ← HZ.out] at he r6
    subst he
    have q_x_0 := B_x.cell 0 rfl
    have q_x_1 := B_x.cell 1 rfl
    have f_x_0 := B_x.frozen 0
    have f_x_1 := B_x.frozen 1
    have q_x := B_x.lt
    have q_r_0 := B_r.cell 0 rfl
    have q_r_1 := B_r.cell 1 rfl
    have f_r_0 := B_r.frozen 0
    have f_r_1 := B_r.frozen 1
    have q_r := B_r.lt
    go_wp2
    refine bodyPost_ret (v := .tuple #[.agg #[.bool (sgnZ Z), .slice A6 (len (magZ Z)) c6], .slice A4 (len t) c4]) (by simp [results, Try.results57, go_sem, q_r_0, q_r_1]) rfl ⟨⟨A6, c6, A4, c4, rfl, ?_, ?_⟩, ?_⟩
    · refine Row.more (lo := w2.heap.size) ?_ leA
      repeat' (first | exact r6 | refine Row.far_set ?_ (by first | (simp <;> done) | (simp; omega) | omega) _)
    · refine Row.more (lo := w1.heap.size) ?_ leA
      repeat' (first | exact r4 | refine Row.far_set ?_ (by first | (simp <;> done) | (simp; omega) | omega) _)
    · exact oldA
set_option maxRecDepth 100000 in
set_option maxHeartbeats 1000000 in
theorem spec_BigIntFloorDiv_no1 (b : Bool) (A1 A2 : Option Addr) (n m c1 c2 lo1 : Nat) (f : Nat → Int) (w : World) (h1 : Row w lo1 A1 n c1 f) (hn : n ≤ 1048576) (k1 : ¬ okB b n f) :
    Calls Try.prog 57 #[.agg #[.bool b, .slice A1 n c1], .slice A2 m c2] w fun e w' => e = .returned (.tuple #[.agg #[.bool false, .slice none 0 0], .slice none 0 0]) ∧ Old w w' := by
  have K := Lib.hid k1
  clear k1
  have O : Old w ((w.alloc (.cells #[.bool b, .slice A1 n c1] 37)).alloc (.cells #[.bool false, .slice none 0 0] 37)) := oldA
  have B_x : Bx ((w.alloc (.cells #[.bool b, .slice A1 n c1] 37)).alloc (.cells #[.bool false, .slice none 0 0] 37)) (w.heap.size) #[.bool b, .slice A1 n c1] := by have h := (Bx.alloc (Bx.new w #[.bool b, .slice A1 n c1] 37) (.cells #[.bool false, .slice none 0 0] 37)); simpa using h
  have B_r : Bx ((w.alloc (.cells #[.bool b, .slice A1 n c1] 37)).alloc (.cells #[.bool false, .slice none 0 0] 37)) (w.heap.size + 1) #[.bool false, .slice none 0 0] := by have h := (Bx.new (w.alloc (.cells #[.bool b, .slice A1 n c1] 37)) #[.bool false, .slice none 0 0] 37); simpa using h
  have ne_0_1 : ¬ (w.heap.size = w.heap.size + 1) := by omega
  have ne_1_0 : ¬ (w.heap.size + 1 = w.heap.size) := by omega
  replace h1 := Row.below h1 O (Nat.le_refl _)
  go_enter Try.func57, Try.ntmps57
  go_wp2_with fail
  refine (spec_BigIntOk_no b A1 n c1 lo1 f _ (Row.below (B := ((w.alloc (.cells #[.bool b, .slice A1 n c1] 37)).alloc (.cells #[.bool false, .slice none 0 0] 37)).heap.size) h1 oldA (Nat.le_refl _)) hn K.out).mono ?_
  rintro e w1 ⟨rfl, o1⟩
  replace o1 : Old ((w.alloc (.cells #[.bool b, .slice A1 n c1] 37)).alloc (.cells #[.bool false, .slice none 0 0] 37)) w1 := Below.trans (b := _) oldA (Below.mono o1 leA)
  replace B_x := Bx.old B_x o1
  replace B_r := Bx.old B_r o1
  replace h1 := Row.below h1 o1 (Nat.le_refl _)
  replace O := Old.trans O o1
  have z1 : w.heap.size + 2 ≤ w1.heap.size := (by have h := o1.size; simp at h; omega)
  have q_x_0 := B_x.cell 0 rfl
  have q_x_1 := B_x.cell 1 rfl
  have f_x_0 := B_x.frozen 0
  have f_x_1 := B_x.frozen 1
  have q_x := B_x.lt
  have q_r_0 := B_r.cell 0 rfl
  have q_r_1 := B_r.cell 1 rfl
  have f_r_0 := B_r.frozen 0
  have f_r_1 := B_r.frozen 1
  have q_r := B_r.lt
  go_wp2
  refine bodyPost_ret (v := .tuple #[.agg #[.bool false, .slice none 0 0], .slice none 0 0]) (by simp [results, Try.results57, go_sem, q_r_0, q_r_1]) rfl ⟨rfl, oldA⟩
set_option maxRecDepth 100000 in
set_option maxHeartbeats 1000000 in
theorem spec_BigIntFloorDiv_no2 (b : Bool) (A1 A2 : Option Addr) (x m c1 c2 lo1 lo2 : Nat) (g : Nat → Int) (w : World) (h1 : NatS w lo1 A1 c1 x) (h2 : Row w lo2 A2 m c2 g) (hx : len x ≤ 60) (hb : b = true → 0 < x) (hm : m ≤ 1048576) (k1 : ¬ okP m g) :
    Calls Try.prog 57 #[.agg #[.bool b, .slice A1 (len x) c1], .slice A2 m c2] w fun e w' => e = .returned (.tuple #[.agg #[.bool false, .slice none 0 0], .slice none 0 0]) ∧ Old w w' := by
  have K := Lib.hid k1
  clear k1
  have HB := Lib.hid hb
  clear hb
  have O : Old w ((w.alloc (.cells #[.bool b, .slice A1 (len x) c1] 37)).alloc (.cells #[.bool false, .slice none 0 0] 37)) := oldA
  have B_x : Bx ((w.alloc (.cells #[.bool b, .slice A1 (len x) c1] 37)).alloc (.cells #[.bool false, .slice none 0 0] 37)) (w.heap.size) #[.bool b, .slice A1 (len x) c1] := by have h := (Bx.alloc (Bx.new w #[.bool b, .slice A1 (len x) c1] 37) (.cells #[.bool false, .slice none 0 0] 37)); simpa using h
  have B_r : Bx ((w.alloc (.cells #[.bool b, .slice A1 (len x) c1] 37)).alloc (.cells #[.bool false, .slice none 0 0] 37)) (w.heap.size + 1) #[.bool false, .slice none 0 0] := by have h := (Bx.new (w.alloc (.cells #[.bool b, .slice A1 (len x) c1] 37)) #[.bool false, .slice none 0 0] 37); simpa using h
  have ne_0_1 : ¬ (w.heap.size = w.heap.size + 1) := by omega
  have ne_1_0 : ¬ (w.heap.size + 1 = w.heap.size) := by omega
  replace h1 := Row.below h1 O (Nat.le_refl _)
  replace h2 := Row.below h2 O (Nat.le_refl _)
  go_enter Try.func57, Try.ntmps57
  go_wp2_with fail
  refine (spec_BigIntOk_yes b A1 c1 x lo1 _ (Row.below (B := ((w.alloc (.cells #[.bool b, .slice A1 (len x) c1] 37)).alloc (.cells #[.bool false, .slice none 0 0] 37)).heap.size) h1 oldA (Nat.le_refl _)) hx HB.out).mono ?_
  rintro e w1 ⟨rfl, o1⟩
  replace o1 : Old ((w.alloc (.cells #[.bool b, .slice A1 (len x) c1] 37)).alloc (.cells #[.bool false, .slice none 0 0] 37)) w1 := Below.trans (b := _) oldA (Below.mono o1 leA)
  replace B_x := Bx.old B_x o1
  replace B_r := Bx.old B_r o1
  replace h1 := Row.below h1 o1 (Nat.le_refl _)
  replace h2 := Row.below h2 o1 (Nat.le_refl _)
  replace O := Old.trans O o1
  have z1 : w.heap.size + 2 ≤ w1.heap.size := (by have h := o1.size; simp at h; omega)
  have q_x_0 := B_x.cell 0 rfl
  have q_x_1 := B_x.cell 1 rfl
  have f_x_0 := B_x.frozen 0
  have f_x_1 := B_x.frozen 1
  have q_x := B_x.lt
  have q_r_0 := B_r.cell 0 rfl
  have q_r_1 := B_r.cell 1 rfl
  have f_r_0 := B_r.frozen 0
  have f_r_1 := B_r.frozen 1
  have q_r := B_r.lt
  go_wp2_with fail
  refine (specNatOk_no A2 m c2 g lo2 _ (Row.below (B := w1.heap.size) h2 oldA (Nat.le_refl _)) K.out hm).mono ?_
  rintro e w2 ⟨rfl, rfl⟩
  go_wp2
  refine bodyPost_ret (v := .tuple #[.agg #[.bool false, .slice none 0 0], .slice none 0 0]) (by simp [results, Try.results57, go_sem, q_r_0, q_r_1]) rfl ⟨rfl, oldA⟩
set_option maxRecDepth 100000 in
set_option maxHeartbeats 1000000 in
theorem spec_BigIntFloorDiv_no3 (b : Bool) (A1 A2 : Option Addr) (x c1 c2 lo1 lo2 : Nat) (g : Nat → Int) (w : World) (h1 : NatS w lo1 A1 c1 x) (h2 : Row w lo2 A2 0 c2 g) (hx : len x ≤ 60) (hb : b = true → 0 < x) (k1 : okP 0 g) :
    Calls Try.prog 57 #[.agg #[.bool b, .slice A1 (len x) c1], .slice A2 0 c2] w fun e w' => e = .returned (.tuple #[.agg #[.bool false, .slice none 0 0], .slice none 0 0]) ∧ Old w w' := by
  have K := Lib.hid k1
  clear k1
  have HB := Lib.hid hb
  clear hb
  have O : Old w ((w.alloc (.cells #[.bool b, .slice A1 (len x) c1] 37)).alloc (.cells #[.bool false, .slice none 0 0] 37)) := oldA
  have B_x : Bx ((w.alloc (.cells #[.bool b, .slice A1 (len x) c1] 37)).alloc (.cells #[.bool false, .slice none 0 0] 37)) (w.heap.size) #[.bool b, .slice A1 (len x) c1] := by have h := (Bx.alloc (Bx.new w #[.bool b, .slice A1 (len x) c1] 37) (.cells #[.bool false, .slice none 0 0] 37)); simpa using h
  have B_r : Bx ((w.alloc (.cells #[.bool b, .slice A1 (len x) c1] 37)).alloc (.cells #[.bool false, .slice none 0 0] 37)) (w.heap.size + 1) #[.bool false, .slice none 0 0] := by have h := (Bx.new (w.alloc (.cells #[.bool b, .slice A1 (len x) c1] 37)) #[.bool false, .slice none 0 0] 37); simpa using h
  have ne_0_1 : ¬ (w.heap.size = w.heap.size + 1) := by omega
  have ne_1_0 : ¬ (w.heap.size + 1 = w.heap.size) := by omega
  replace h1 := Row.below h1 O (Nat.le_refl _)
  replace h2 := Row.below h2 O (Nat.le_refl _)
  go_enter Try.func57, Try.ntmps57
  go_wp2_with fail
  refine (spec_BigIntOk_yes b A1 c1 x lo1 _ (Row.below (B := ((w.alloc (.cells #[.bool b, .slice A1 (len x) c1] 37)).alloc (.cells #[.bool false, .slice none 0 0] 37)).heap.size) h1 oldA (Nat.le_refl _)) hx HB.out).mono ?_
  rintro e w1 ⟨rfl, o1⟩
  replace o1 : Old ((w.alloc (.cells #[.bool b, .slice A1 (len x) c1] 37)).alloc (.cells #[.bool false, .slice none 0 0] 37)) w1 := Below.trans (b := _) oldA (Below.mono o1 leA)
  replace B_x := Bx.old B_x o1
  replace B_r := Bx.old B_r o1
  replace h1 := Row.below h1 o1 (Nat.le_refl _)
  replace h2 := Row.below h2 o1 (Nat.le_refl _)
  replace O := Old.trans O o1
  have z1 : w.heap.size + 2 ≤ w1.heap.size := (by have h := o1.size; simp at h; omega)
  have q_x_0 := B_x.cell 0 rfl
  have q_x_1 := B_x.cell 1 rfl
  have f_x_0 := B_x.frozen 0
  have f_x_1 := B_x.frozen 1
  have q_x := B_x.lt
  have q_r_0 := B_r.cell 0 rfl
  have q_r_1 := B_r.cell 1 rfl
  have f_r_0 := B_r.frozen 0
  have f_r_1 := B_r.frozen 1
  have q_r := B_r.lt
  go_wp2_with fail
  refine (specNatOk_yes A2 0 c2 g lo2 _ (Row.below (B := w1.heap.size) h2 oldA (Nat.le_refl _)) K.out).mono ?_
  rintro e w2 ⟨rfl, rfl⟩
  go_wp2
  refine bodyPost_ret (v := .tuple #[.agg #[.bool false, .slice none 0 0], .slice none 0 0]) (by simp [results, Try.results57, go_sem, q_r_0, q_r_1]) rfl ⟨rfl, oldA⟩
set_option maxRecDepth 100000 in
set_option maxHeartbeats 1000000 in
theorem impl_BigIntFloorDiv_p (A1 A2 : Option Addr) (c1 c2 x y lo1 lo2 : Nat) (w : World) (h1 : NatS w lo1 A1 c1 x) (h2 : NatS w lo2 A2 c2 y) (hx : len x ≤ 60) (hy : len y ≤ 60) (hb : true = true → 0 < x) (hy0 : 0 < y) (h : 0 < x % y) :
    Calls Try.prog 58 #[.agg #[.bool true, .slice A1 (len x) c1], .slice A2 (len y) c2] w fun e w' => RetBNA e w' w.heap.size (zFlo true x y) (rFlo true x y) ∧ Old w w' := by
  have hF := flo_p h
  rw [hF.1, hF.2]
  clear hF
  have hyz : (((len y : Nat) : Int) == 0) = false := by have := len_pos hy0; simp; omega
  obtain ⟨q, hq⟩ : ∃ q, q = x / y := ⟨_, rfl⟩
  obtain ⟨t, ht⟩ : ∃ t, t = x % y := ⟨_, rfl⟩
  have HQ := Lib.hid hq
  have HT := Lib.hid ht
  have hql : len q ≤ 60 := by rw [hq]; have := div_len x y; omega
  have htl : len t ≤ 60 := by rw [ht]; have := len_mono (Nat.mod_le x y); omega
  have hty : t ≤ y := by rw [ht]; exact Nat.le_of_lt (Nat.mod_lt x hy0)
  have hsl : len (q + 1) ≤ 60 := by rw [hq]; exact succ_quo_len hx hy0 h
  have htp : 0 < len t := by rw [ht]; exact len_pos h
  have hi : (0 : Int) < ((len t : Nat) : Int) := by omega
  have Hc : Hid (capN (q + 1) = q + 1) := Lib.hid (capN_self hsl)
  have hdl : len (y - t) ≤ 60 := by have := len_mono (Nat.sub_le y t); omega
  rw [← hq, ← ht]
  have HB := Lib.hid hb
  have HY := Lib.hid hy0
  have KY := Lib.hid (okP_of hy)
  clear h hq ht hb hy0
  have HB1 := Lib.hid (HB.out rfl)
  clear HB
  have O : Old w ((w.alloc (.cells #[.bool true, .slice A1 (len x) c1] 37)).alloc (.cells #[.bool false, .slice none 0 0] 37)) := oldA
  have B_x : Bx ((w.alloc (.cells #[.bool true, .slice A1 (len x) c1] 37)).alloc (.cells #[.bool false, .slice none 0 0] 37)) (w.heap.size) #[.bool true, .slice A1 (len x) c1] := by have h := (Bx.alloc (Bx.new w #[.bool true, .slice A1 (len x) c1] 37) (.cells #[.bool false, .slice none 0 0] 37)); simpa using h
  have B_r : Bx ((w.alloc (.cells #[.bool true, .slice A1 (len x) c1] 37)).alloc (.cells #[.bool false, .slice none 0 0] 37)) (w.heap.size + 1) #[.bool false, .slice none 0 0] := by have h := (Bx.new (w.alloc (.cells #[.bool true, .slice A1 (len x) c1] 37)) #[.bool false, .slice none 0 0] 37); simpa using h
  have ne_0_1 : ¬ (w.heap.size = w.heap.size + 1) := by omega
  have ne_1_0 : ¬ (w.heap.size + 1 = w.heap.size) := by omega
  replace h1 := Row.below h1 O (Nat.le_refl _)
  replace h2 := Row.below h2 O (Nat.le_refl _)
  go_enter Try.func58, Try.ntmps58
  go_wp2_with fail
  refine (impl_BigIntOk_yes true A1 c1 x lo1 _ (Row.below (B := ((w.alloc (.cells #[.bool true, .slice A1 (len x) c1] 37)).alloc (.cells #[.bool false, .slice none 0 0] 37)).heap.size) h1 oldA (Nat.le_refl _)) hx (fun _ => HB1.out)).mono ?_
  rintro e w1 ⟨rfl, o1⟩
  replace o1 : Old ((w.alloc (.cells #[.bool true, .slice A1 (len x) c1] 37)).alloc (.cells #[.bool false, .slice none 0 0] 37)) w1 := Below.trans (b := _) oldA (Below.mono o1 leA)
  replace B_x := Bx.old B_x o1
  replace B_r := Bx.old B_r o1
  replace h1 := Row.below h1 o1 (Nat.le_refl _)
  replace h2 := Row.below h2 o1 (Nat.le_refl _)
  replace O := Old.trans O o1
  have z1 : w.heap.size + 2 ≤ w1.heap.size := (by have h := o1.size; simp at h; omega)
  have q_x_0 := B_x.cell 0 rfl
  have q_x_1 := B_x.cell 1 rfl
  have f_x_0 := B_x.frozen 0
  have f_x_1 := B_x.frozen 1
  have q_x := B_x.lt
  have q_r_0 := B_r.cell 0 rfl
  have q_r_1 := B_r.cell 1 rfl
  have f_r_0 := B_r.frozen 0
  have f_r_1 := B_r.frozen 1
  have q_r := B_r.lt
  go_wp2_with fail
  refine (natOk_yes A2 _ c2 _ lo2 _ (Row.below (B := w1.heap.size) h2 oldA (Nat.le_refl _)) KY.out).mono ?_
  rintro e w2 ⟨rfl, rfl⟩
  go_wp2_with fail
  refine (natDiv_any A1 A2 c1 c2 x y lo1 lo2 _ (Row.below (B := w1.heap.size) h1 oldA (Nat.le_refl _)) (Row.below (B := w1.heap.size) h2 oldA (Nat.le_refl _)) (by omega) (by omega) HY.out).mono ?_
  rintro e w2 ⟨⟨A3, c3, A4, c4, he, r3, r4⟩, o2⟩
  clear q_x_0 q_x_1 f_x_0 f_x_1 q_x q_r_0 q_r_1 f_r_0 f_r_1 q_r
  replace o2 : Old w1 w2 := Below.trans (b := _) oldA (Below.mono o2 leA)
  replace B_x := Bx.old B_x o2
  replace B_r := Bx.old B_r o2
  replace h1 := Row.below h1 o2 (Nat.le_refl _)
  replace h2 := Row.below h2 o2 (Nat.le_refl _)
  replace O := Old.trans O o2
  have z2 := o2.size
  rw [← HQ.out, ← HT.out] at he
  rw [← HQ.out] at r3
  rw [← HT.out] at r4
  subst he
  have q_x_0 := B_x.cell 0 rfl
  have q_x_1 := B_x.cell 1 rfl
  have f_x_0 := B_x.frozen 0
  have f_x_1 := B_x.frozen 1
  have q_x := B_x.lt
  have q_r_0 := B_r.cell 0 rfl
  have q_r_1 := B_r.cell 1 rfl
  have f_r_0 := B_r.frozen 0
  have f_r_1 := B_r.frozen 1
  have q_r := B_r.lt
  go_wp2_with fail
  refine (natOf_to' 1 _ rfl (by omega) _).mono ?_
  rintro e w3 ⟨⟨A5, c5, rfl, r5⟩, o3⟩
  clear q_x_0 q_x_1 f_x_0 f_x_1 q_x q_r_0 q_r_1 f_r_0 f_r_1 q_r
  replace o3 : Old w2 w3 := Below.trans (b := _) oldA (Below.mono o3 leA)
  replace B_x := Bx.old B_x o3
  replace B_r := Bx.old B_r o3
  replace h1 := Row.below h1 o3 (Nat.le_refl _)
  replace h2 := Row.below h2 o3 (Nat.le_refl _)
  replace r3 := Row.below r3 o3 (Nat.le_refl _)
  replace r4 := Row.below r4 o3 (Nat.le_refl _)
  replace O := Old.trans O o3
  have z3 := o3.size
  replace r5 := Row.more (lo' := w2.heap.size) r5 leA
  have q_x_0 := B_x.cell 0 rfl
  have q_x_1 := B_x.cell 1 rfl
  have f_x_0 := B_x.frozen 0
  have f_x_1 := B_x.frozen 1
  have q_x := B_x.lt
  have q_r_0 := B_r.cell 0 rfl
  have q_r_1 := B_r.cell 1 rfl
  have f_r_0 := B_r.frozen 0
  have f_r_1 := B_r.frozen 1
  have q_r := B_r.lt
  go_wp2_with fail
  refine (natAdd_any A3 A5 c3 c5 q 1 _ _ _ (Row.below (B := w3.heap.size) r3 oldA (Nat.le_refl _)) (Row.below (B := w3.heap.size) r5 oldA (Nat.le_refl _)) (by omega) (by rw [len_1]; omega)).mono ?_
  rintro e w4 ⟨A6, c6, rfl, r6, o4⟩
  clear q_x_0 q_x_1 f_x_0 f_x_1 q_x q_r_0 q_r_1 f_r_0 f_r_1 q_r
  replace o4 : Old w3 w4 := Below.trans (b := _) oldA (Below.mono o4 leA)
  replace B_x := Bx.old B_x o4
  replace B_r := Bx.old B_r o4
  replace h1 := Row.below h1 o4 (Nat.le_refl _)
  replace h2 := Row.below h2 o4 (Nat.le_refl _)
  replace r3 := Row.below r3 o4 (Nat.le_refl _)
  replace r4 := Row.below r4 o4 (Nat.le_refl _)
  replace r5 := Row.below r5 o4 (Nat.le_refl _)
  replace O := Old.trans O o4
  have z4 := o4.size
  replace r6 := Row.more (lo' := w3.heap.size) r6 leA
  have q_x_0 := B_x.cell 0 rfl
  have q_x_1 := B_x.cell 1 rfl
  have f_x_0 := B_x.frozen 0
  have f_x_1 := B_x.frozen 1
  have q_x := B_x.lt
  have q_r_0 := B_r.cell 0 rfl
  have q_r_1 := B_r.cell 1 rfl
  have f_r_0 := B_r.frozen 0
  have f_r_1 := B_r.frozen 1
  have q_r := B_r.lt
  go_wp2_with fail
  refine (natSub_any A2 A4 c2 c4 y t lo2 _ _ (Row.below (B := w4.heap.size) h2 oldA (Nat.le_refl _)) (Row.below (B := w4.heap.size) r4 oldA (Nat.le_refl _)) (by omega) (by omega) hty).mono ?_
  rintro e w5 ⟨A7, c7, rfl, r7, o5⟩
  clear q_x_0 q_x_1 f_x_0 f_x_1 q_x q_r_0 q_r_1 f_r_0 f_r_1 q_r
  replace o5 : Old w4 w5 := Below.trans (b := _) oldA (Below.mono o5 leA)
  replace B_x := Bx.old B_x o5
  replace B_r := Bx.old B_r o5
  replace h1 := Row.below h1 o5 (Nat.le_refl _)
  replace h2 := Row.below h2 o5 (Nat.le_refl _)
  replace r3 := Row.below r3 o5 (Nat.le_refl _)
  replace r4 := Row.below r4 o5 (Nat.le_refl _)
  replace r5 := Row.below r5 o5 (Nat.le_refl _)
  replace r6 := Row.below r6 o5 (Nat.le_refl _)
  replace O := Old.trans O o5
  have z5 := o5.size
  replace r7 := Row.more (lo' := w4.heap.size) r7 leA
  have q_x_0 := B_x.cell 0 rfl
  have q_x_1 := B_x.cell 1 rfl
  have f_x_0 := B_x.frozen 0
  have f_x_1 := B_x.frozen 1
  have q_x := B_x.lt
  have q_r_0 := B_r.cell 0 rfl
  have q_r_1 := B_r.cell 1 rfl
  have f_r_0 := B_r.frozen 0
  have f_r_1 := B_r.frozen 1
  have q_r := B_r.lt
  go_wp2_with fail
  refine (bigMake_any true A6 (len (q + 1)) c6 _).mono ?_
  rintro e w6 ⟨he, o6⟩
  clear q_x_0 q_x_1 f_x_0 f_x_1 q_x q_r_0 q_r_1 f_r_0 f_r_1 q_r
  replace o6 : Old w5 w6 := Below.trans (b := _) oldA (Below.mono o6 leA)
  replace B_x := Bx.old B_x o6
  replace B_r := Bx.old B_r o6
  replace h1 := Row.below h1 o6 (Nat.le_refl _)
  replace h2 := Row.below h2 o6 (Nat.le_refl _)
  replace r3 := Row.below r3 o6 (Nat.le_refl _)
  replace r4 := Row.below r4 o6 (Nat.le_refl _)
  replace r5 := Row.below r5 o6 (Nat.le_refl _)
  replace r6 := Row.below r6 o6 (Nat.le_refl _)
  replace r7 := Row.below r7 o6 (Nat.le_refl _)
  replace O := Old.trans O o6
  have z6 := o6.size
  rw [Bool.true_and, decide_eq_true (len_pos (Nat.succ_pos q))] at he
  subst he
  have q_x_0 := B_x.cell 0 rfl
  have q_x_1 := B_x.cell 1 rfl
  have f_x_0 := B_x.frozen 0
  have f_x_1 := B_x.frozen 1
  have q_x := B_x.lt
  have q_r_0 := B_r.cell 0 rfl
  have q_r_1 := B_r.cell 1 rfl
  have f_r_0 := B_r.frozen 0
  have f_r_1 := B_r.frozen 1
  have q_r := B_r.lt
  go_wp2_with fail
  refine (ownBig_any true A6 c6 (q + 1) _ _ (Row.below (B := w6.heap.size) r6 oldA (Nat.le_refl _)) (fun _ => Nat.succ_pos q) (by omega)).mono ?_
  rintro e w7 ⟨⟨A8, c8, he, r8⟩, o7⟩
  clear q_x_0 q_x_1 f_x_0 f_x_1 q_x q_r_0 q_r_1 f_r_0 f_r_1 q_r
  replace o7 : Old w6 w7 := Below.trans (b := _) oldA (Below.mono o7 leA)
  replace B_x := Bx.old B_x o7
  replace B_r := Bx.old B_r o7
  replace h1 := Row.below h1 o7 (Nat.le_refl _)
  replace h2 := Row.below h2 o7 (Nat.le_refl _)
  replace r3 := Row.below r3 o7 (Nat.le_refl _)
  replace r4 := Row.below r4 o7 (Nat.le_refl _)
  replace r5 := Row.below r5 o7 (Nat.le_refl _)
  replace r6 := Row.below r6 o7 (Nat.le_refl _)
  replace r7 := Row.below r7 o7 (Nat.le_refl _)
  replace O := Old.trans O o7
  have z7 := o7.size
  replace r8 := Row.more (lo' := w6.heap.size) r8 leA
  rw [capZ_signed, Hc.out] at he r8
  subst he
  have q_x_0 := B_x.cell 0 rfl
  have q_x_1 := B_x.cell 1 rfl
  have f_x_0 := B_x.frozen 0
  have f_x_1 := B_x.frozen 1
  have q_x := B_x.lt
  have q_r_0 := B_r.cell 0 rfl
  have q_r_1 := B_r.cell 1 rfl
  have f_r_0 := B_r.frozen 0
  have f_r_1 := B_r.frozen 1
  have q_r := B_r.lt
  have l8 := r8.lim
  go_wp2_with fail
  refine (clone_any A7 (len (y - t)) c7 _ _ _ (Row.below (B := w7.heap.size) r7 oldA (Nat.le_refl _)) (by omega)).mono ?_
  rintro e w8 ⟨A9, c9, rfl, r9, o8⟩
  clear q_x_0 q_x_1 f_x_0 f_x_1 q_x q_r_0 q_r_1 f_r_0 f_r_1 q_r
  replace o8 : Old w7 w8 := Below.trans (b := _) oldA (Below.mono o8 leA)
  replace B_x := Bx.old B_x o8
  replace B_r := Bx.old B_r o8
  replace h1 := Row.below h1 o8 (Nat.le_refl _)
  replace h2 := Row.below h2 o8 (Nat.le_refl _)
  replace r3 := Row.below r3 o8 (Nat.le_refl _)
  replace r4 := Row.below r4 o8 (Nat.le_refl _)
  replace r5 := Row.below r5 o8 (Nat.le_refl _)
  replace r6 := Row.below r6 o8 (Nat.le_refl _)
  replace r7 := Row.below r7 o8 (Nat.le_refl _)
  replace r8 := Row.below r8 o8 (Nat.le_refl _)
  replace O := Old.trans O o8
  have z8 := o8.size
  replace r9 := Row.more (lo' := w7.heap.size) r9 leA
  have q_x_0 := B_x.cell 0 rfl
  have q_x_1 := B_x.cell 1 rfl
  have f_x_0 := B_x.frozen 0
  have f_x_1 := B_x.frozen 1
  have q_x := B_x.lt
  have q_r_0 := B_r.cell 0 rfl
  have q_r_1 := B_r.cell 1 rfl
  have f_r_0 := B_r.frozen 0
  have f_r_1 := B_r.frozen 1
  have q_r := B_r.lt
  have hap : Apart A8 (len (magZ (signed true (q + 1)))) A9 (len (y - t)) := Apart.of (w := w8) (hi := w7.heap.size) l8 r9 (Nat.le_refl _)
  have Hap := Lib.hid hap
  clear hap
  go_wp2
  refine bodyPost_ret (v := .tuple #[.agg #[.bool (sgnZ (signed true (q + 1))), .slice A8 (len (magZ (signed true (q + 1)))) c8], .slice A9 (len (y - t)) c9]) (by simp [results, Try.results58, go_sem, q_r_0, q_r_1]) rfl ⟨⟨A8, c8, A9, c9, rfl, ?_, ?_, Hap.out⟩, ?_⟩
  · refine Row.more (lo := w6.heap.size) ?_ leA
    repeat' (first | exact r8 | refine Row.far_set ?_ (by first | (simp <;> done) | (simp; omega) | omega) _)
  · refine Row.more (lo := w7.heap.size) ?_ leA
    repeat' (first | exact r9 | refine Row.far_set ?_ (by first | (simp <;> done) | (simp; omega) | omega) _)
  · exact oldA
set_option maxRecDepth 100000 in
set_option maxHeartbeats 1000000 in
theorem impl_BigIntFloorDiv_q (b : Bool) (A1 A2 : Option Addr) (c1 c2 x y lo1 lo2 : Nat) (w : World) (h1 : NatS w lo1 A1 c1 x) (h2 : NatS w lo2 A2 c2 y) (hx : len x ≤ 60) (hy : len y ≤ 60) (hb : b = true → 0 < x) (hy0 : 0 < y) (h : ¬ (b = true ∧ 0 < x % y)) :
    Calls Try.prog 58 #[.agg #[.bool b, .slice A1 (len x) c1], .slice A2 (len y) c2] w fun e w' => RetBNA e w' w.heap.size (zFlo b x y) (rFlo b x y) ∧ Old w w' := by
  have hF := flo_q h
  rw [hF.1, hF.2]
  clear hF
  have hyz : (((len y : Nat) : Int) == 0) = false := by have := len_pos hy0; simp; omega
  obtain ⟨q, hq⟩ : ∃ q, q = x / y := ⟨_, rfl⟩
  obtain ⟨t, ht⟩ : ∃ t, t = x % y := ⟨_, rfl⟩
  have HQ := Lib.hid hq
  have HT := Lib.hid ht
  have hql : len q ≤ 60 := by rw [hq]; have := div_len x y; omega
  have htl : len t ≤ 60 := by rw [ht]; have := len_mono (Nat.mod_le x y); omega
  have hty : t ≤ y := by rw [ht]; exact Nat.le_of_lt (Nat.mod_lt x hy0)
  have Hc : Hid (capN q = q) := Lib.hid (capN_self hql)
  have hd : b = true → ¬ 0 < len t := fun hb1 hp => h ⟨hb1, by rw [← ht]; exact pos_len hp⟩
  rw [← hq, ← ht]
  have HB := Lib.hid hb
  have HY := Lib.hid hy0
  have KY := Lib.hid (okP_of hy)
  clear h hq ht hb hy0
  obtain ⟨u, hu⟩ : ∃ u, u = (b && decide (0 < len q)) := ⟨_, rfl⟩
  have HU := Lib.hid hu
  have hsu : signed b q = signed u q := by rw [hu]; exact signed_pos b len_pos_iff'
  have hu0 : u = true → 0 < q := fun h => by rw [hu] at h; simp at h; exact pos_len h.2
  have HU0 := Lib.hid hu0
  have HSU := Lib.hid hsu
  clear hu hsu hu0
  have Hd : Hid (b = true → ¬ 0 < len t) := Lib.hid hd
  clear hd
  obtain ⟨Z, hZ⟩ : ∃ Z, Z = signed b q := ⟨_, rfl⟩
  have HZ := Lib.hid hZ
  rw [← hZ]
  clear hZ
  cases b with
  | true =>
    have hi : ¬ (0 : Int) < ((len t : Nat) : Int) := by have := Hd.out rfl; omega
    have HB1 := Lib.hid (HB.out rfl)
    clear HB
    have O : Old w ((w.alloc (.cells #[.bool true, .slice A1 (len x) c1] 37)).alloc (.cells #[.bool false, .slice none 0 0] 37)) := oldA
    have B_x : Bx ((w.alloc (.cells #[.bool true, .slice A1 (len x) c1] 37)).alloc (.cells #[.bool false, .slice none 0 0] 37)) (w.heap.size) #[.bool true, .slice A1 (len x) c1] := by have h := (Bx.alloc (Bx.new w #[.bool true, .slice A1 (len x) c1] 37) (.cells #[.bool false, .slice none 0 0] 37)); simpa using h
    have B_r : Bx ((w.alloc (.cells #[.bool true, .slice A1 (len x) c1] 37)).alloc (.cells #[.bool false, .slice none 0 0] 37)) (w.heap.size + 1) #[.bool false, .slice none 0 0] := by have h := (Bx.new (w.alloc (.cells #[.bool true, .slice A1 (len x) c1] 37)) #[.bool false, .slice none 0 0] 37); simpa using h
    have ne_0_1 : ¬ (w.heap.size = w.heap.size + 1) := by omega
    have ne_1_0 : ¬ (w.heap.size + 1 = w.heap.size) := by omega
    replace h1 := Row.below h1 O (Nat.le_refl _)
    replace h2 := Row.below h2 O (Nat.le_refl _)
    go_enter Try.func58, Try.ntmps58
    go_wp2_with fail
    refine (impl_BigIntOk_yes true A1 c1 x lo1 _ (Row.below (B := ((w.alloc (.cells #[.bool true, .slice A1 (len x) c1] 37)).alloc (.cells #[.bool false, .slice none 0 0] 37)).heap.size) h1 oldA (Nat.le_refl _)) hx (fun _ => HB1.out)).mono ?_
    rintro e w1 ⟨rfl, o1⟩
    replace o1 : Old ((w.alloc (.cells #[.bool true, .slice A1 (len x) c1] 37)).alloc (.cells #[.bool false, .slice none 0 0] 37)) w1 := Below.trans (b := _) oldA (Below.mono o1 leA)
    replace B_x := Bx.old B_x o1
    replace B_r := Bx.old B_r o1
    replace h1 := Row.below h1 o1 (Nat.le_refl _)
    replace h2 := Row.below h2 o1 (Nat.le_refl _)
    replace O := Old.trans O o1
    have z1 : w.heap.size + 2 ≤ w1.heap.size := (by have h := o1.size; simp at h; omega)
    have q_x_0 := B_x.cell 0 rfl
    have q_x_1 := B_x.cell 1 rfl
    have f_x_0 := B_x.frozen 0
    have f_x_1 := B_x.frozen 1
    have q_x := B_x.lt
    have q_r_0 := B_r.cell 0 rfl
    have q_r_1 := B_r.cell 1 rfl
    have f_r_0 := B_r.frozen 0
    have f_r_1 := B_r.frozen 1
    have q_r := B_r.lt
    go_wp2_with fail
    refine (natOk_yes A2 _ c2 _ lo2 _ (Row.below (B := w1.heap.size) h2 oldA (Nat.le_refl _)) KY.out).mono ?_
    rintro e w2 ⟨rfl, rfl⟩
    go_wp2_with fail
    refine (natDiv_any A1 A2 c1 c2 x y lo1 lo2 _ (Row.below (B := w1.heap.size) h1 oldA (Nat.le_refl _)) (Row.below (B := w1.heap.size) h2 oldA (Nat.le_refl _)) (by omega) (by omega) HY.out).mono ?_
    rintro e w2 ⟨⟨A3, c3, A4, c4, he, r3, r4⟩, o2⟩
    clear q_x_0 q_x_1 f_x_0 f_x_1 q_x q_r_0 q_r_1 f_r_0 f_r_1 q_r
    replace o2 : Old w1 w2 := Below.trans (b := _) oldA (Below.mono o2 leA)
    replace B_x := Bx.old B_x o2
    replace B_r := Bx.old B_r o2
    replace h1 := Row.below h1 o2 (Nat.le_refl _)
    replace h2 := Row.below h2 o2 (Nat.le_refl _)
    replace O := Old.trans O o2
    have z2 := o2.size
    rw [← HQ.out, ← HT.out] at he
    rw [← HQ.out] at r3
    rw [← HT.out] at r4
    subst he
    have q_x_0 := B_x.cell 0 rfl
    have q_x_1 := B_x.cell 1 rfl
    have f_x_0 := B_x.frozen 0
    have f_x_1 := B_x.frozen 1
    have q_x := B_x.lt
    have q_r_0 := B_r.cell 0 rfl
    have q_r_1 := B_r.cell 1 rfl
    have f_r_0 := B_r.frozen 0
    have f_r_1 := B_r.frozen 1
    have q_r := B_r.lt
    go_wp2_with fail
    refine (bigMake_any true A3 (len q) c3 _).mono ?_
    rintro e w3 ⟨he, o3⟩
    clear q_x_0 q_x_1 f_x_0 f_x_1 q_x q_r_0 q_r_1 f_r_0 f_r_1 q_r
    replace o3 : Old w2 w3 := Below.trans (b := _) oldA (Below.mono o3 leA)
    replace B_x := Bx.old B_x o3
    replace B_r := Bx.old B_r o3
    replace h1 := Row.below h1 o3 (Nat.le_refl _)
    replace h2 := Row.below h2 o3 (Nat.le_refl _)
    replace r3 := Row.below r3 o3 (Nat.le_refl _)
    replace r4 := Row.below r4 o3 (Nat.le_refl _)
    replace O := Old.trans O o3
    have z3 := o3.size
    rw [← HU.out] at he
    subst he
    have q_x_0 := B_x.cell 0 rfl
    have q_x_1 := B_x.cell 1 rfl
    have f_x_0 := B_x.frozen 0
    have f_x_1 := B_x.frozen 1
    have q_x := B_x.lt
    have q_r_0 := B_r.cell 0 rfl
    have q_r_1 := B_r.cell 1 rfl
    have f_r_0 := B_r.frozen 0
    have f_r_1 := B_r.frozen 1
    have q_r := B_r.lt
    go_wp2_with fail
    refine (ownBig_any u A3 c3 q _ _ (Row.below (B := w3.heap.size) r3 oldA (Nat.le_refl _)) HU0.out (by omega)).mono ?_
    rintro e w4 ⟨⟨A8, c8, he, r8⟩, o4⟩
    clear q_x_0 q_x_1 f_x_0 f_x_1 q_x q_r_0 q_r_1 f_r_0 f_r_1 q_r
    replace o4 : Old w3 w4 := Below.trans (b := _) oldA (Below.mono o4 leA)
    replace B_x := Bx.old B_x o4
    replace B_r := Bx.old B_r o4
    replace h1 := Row.below h1 o4 (Nat.le_refl _)
    replace h2 := Row.below h2 o4 (Nat.le_refl _)
    replace r3 := Row.below r3 o4 (Nat.le_refl _)
    replace r4 := Row.below r4 o4 (Nat.le_refl _)
    replace O := Old.trans O o4
    have z4 := o4.size
    replace r8 := Row.more (lo' := w3.heap.size) r8 leA
    rw [capZ_signed, Hc.out, ← HSU.out, ← HZ.out] at he r8
    subst he
    have q_x_0 := B_x.cell 0 rfl
    have q_x_1 := B_x.cell 1 rfl
    have f_x_0 := B_x.frozen 0
    have f_x_1 := B_x.frozen 1
    have q_x := B_x.lt
    have q_r_0 := B_r.cell 0 rfl
    have q_r_1 := B_r.cell 1 rfl
    have f_r_0 := B_r.frozen 0
    have f_r_1 := B_r.frozen 1
    have q_r := B_r.lt
    have l8 := r8.lim
    go_wp2_with fail
    refine (clone_any A4 (len t) c4 _ _ _ (Row.below (B := w4.heap.size) r4 oldA (Nat.le_refl _)) (by omega)).mono ?_
    rintro e w5 ⟨A9, c9, rfl, r9, o5⟩
    clear q_x_0 q_x_1 f_x_0 f_x_1 q_x q_r_0 q_r_1 f_r_0 f_r_1 q_r
    replace o5 : Old w4 w5 := Below.trans (b := _) oldA (Below.mono o5 leA)
    replace B_x := Bx.old B_x o5
    replace B_r := Bx.old B_r o5
    replace h1 := Row.below h1 o5 (Nat.le_refl _)
    replace h2 := Row.below h2 o5 (Nat.le_refl _)
    replace r3 := Row.below r3 o5 (Nat.le_refl _)
    replace r4 := Row.below r4 o5 (Nat.le_refl _)
    replace r8 := Row.below r8 o5 (Nat.le_refl _)
    replace O := Old.trans O o5
    have z5 := o5.size
    replace r9 := Row.more (lo' := w4.heap.size) r9 leA
    have q_x_0 := B_x.cell 0 rfl
    have q_x_1 := B_x.cell 1 rfl
    have f_x_0 := B_x.frozen 0
    have f_x_1 := B_x.frozen 1
    have q_x := B_x.lt
    have q_r_0 := B_r.cell 0 rfl
    have q_r_1 := B_r.cell 1 rfl
    have f_r_0 := B_r.frozen 0
    have f_r_1 := B_r.frozen 1
    have q_r := B_r.lt
    have hap : Apart A8 (len (magZ Z)) A9 (len t) := Apart.of (w := w5) (hi := w4.heap.size) l8 r9 (Nat.le_refl _)
    have Hap := Lib.hid hap
    clear hap
    go_wp2
    refine bodyPost_ret (v := .tuple #[.agg #[.bool (sgnZ Z), .slice A8 (len (magZ Z)) c8], .slice A9 (len t) c9]) (by simp [results, Try.results58, go_sem, q_r_0, q_r_1]) rfl ⟨⟨A8, c8, A9, c9, rfl, ?_, ?_, Hap.out⟩, ?_⟩
    · refine Row.more (lo := w3.heap.size) ?_ leA
      repeat' (first | exact r8 | refine Row.far_set ?_ (by first | (simp <;> done) | (simp; omega) | omega) _)
    · refine Row.more (lo := w4.heap.size) ?_ leA
      repeat' (first | exact r9 | refine Row.far_set ?_ (by first | (simp <;> done) | (simp; omega) | omega) _)
    · exact oldA
  | false =>
    clear HB
    have O : Old w ((w.alloc (.cells #[.bool false, .slice A1 (len x) c1] 37)).alloc (.cells #[.bool false, .slice none 0 0] 37)) := oldA
    have B_x : Bx ((w.alloc (.cells #[.bool false, .slice A1 (len x) c1] 37)).alloc (.cells #[.bool false, .slice none 0 0] 37)) (w.heap.size) #[.bool false, .slice A1 (len x) c1] := by have h := (Bx.alloc (Bx.new w #[.bool false, .slice A1 (len x) c1] 37) (.cells #[.bool false, .slice none 0 0] 37)); simpa using h
    have B_r : Bx ((w.alloc (.cells #[.bool false, .slice A1 (len x) c1] 37)).alloc (.cells #[.bool false, .slice none 0 0] 37)) (w.heap.size + 1) #[.bool false, .slice none 0 0] := by have h := (Bx.new (w.alloc (.cells #[.bool false, .slice A1 (len x) c1] 37)) #[.bool false, .slice none 0 0] 37); simpa using h
    have ne_0_1 : ¬ (w.heap.size = w.heap.size + 1) := by omega
    have ne_1_0 : ¬ (w.heap.size + 1 = w.heap.size) := by omega
    replace h1 := Row.below h1 O (Nat.le_refl _)
    replace h2 := Row.below h2 O (Nat.le_refl _)
    go_enter Try.func58, Try.ntmps58
    go_wp2_with fail
    refine (impl_BigIntOk_yes false A1 c1 x lo1 _ (Row.below (B := ((w.alloc (.cells #[.bool false, .slice A1 (len x) c1] 37)).alloc (.cells #[.bool false, .slice none 0 0] 37)).heap.size) h1 oldA (Nat.le_refl _)) hx (fun h => absurd h Bool.false_ne_true)).mono ?_
    rintro e w1 ⟨rfl, o1⟩
    replace o1 : Old ((w.alloc (.cells #[.bool false, .slice A1 (len x) c1] 37)).alloc (.cells #[.bool false, .slice none 0 0] 37)) w1 := Below.trans (b := _) oldA (Below.mono o1 leA)
    replace B_x := Bx.old B_x o1
    replace B_r := Bx.old B_r o1
    replace h1 := Row.below h1 o1 (Nat.le_refl _)
    replace h2 := Row.below h2 o1 (Nat.le_refl _)
    replace O := Old.trans O o1
    have z1 : w.heap.size + 2 ≤ w1.heap.size := (by have h := o1.size; simp at h; omega)
    have q_x_0 := B_x.cell 0 rfl
    have q_x_1 := B_x.cell 1 rfl
    have f_x_0 := B_x.frozen 0
    have f_x_1 := B_x.frozen 1
    have q_x := B_x.lt
    have q_r_0 := B_r.cell 0 rfl
    have q_r_1 := B_r.cell 1 rfl
    have f_r_0 := B_r.frozen 0
    have f_r_1 := B_r.frozen 1
    have q_r := B_r.lt
    go_wp2_with fail
    refine (natOk_yes A2 _ c2 _ lo2 _ (Row.below (B := w1.heap.size) h2 oldA (Nat.le_refl _)) KY.out).mono ?_
    rintro e w2 ⟨rfl, rfl⟩
    go_wp2_with fail
    refine (natDiv_any A1 A2 c1 c2 x y lo1 lo2 _ (Row.below (B := w1.heap.size) h1 oldA (Nat.le_refl _)) (Row.below (B := w1.heap.size) h2 oldA (Nat.le_refl _)) (by omega) (by omega) HY.out).mono ?_
    rintro e w2 ⟨⟨A3, c3, A4, c4, he, r3, r4⟩, o2⟩
    clear q_x_0 q_x_1 f_x_0 f_x_1 q_x q_r_0 q_r_1 f_r_0 f_r_1 q_r
    replace o2 : Old w1 w2 := Below.trans (b := _) oldA (Below.mono o2 leA)
    replace B_x := Bx.old B_x o2
    replace B_r := Bx.old B_r o2
    replace h1 := Row.below h1 o2 (Nat.le_refl _)
    replace h2 := Row.below h2 o2 (Nat.le_refl _)
    replace O := Old.trans O o2
    have z2 := o2.size
    rw [← HQ.out, ← HT.out] at he
    rw [← HQ.out] at r3
    rw [← HT.out] at r4
    subst he
    have q_x_0 := B_x.cell 0 rfl
    have q_x_1 := B_x.cell 1 rfl
    have f_x_0 := B_x.frozen 0
    have f_x_1 := B_x.frozen 1
    have q_x := B_x.lt
    have q_r_0 := B_r.cell 0 rfl
    have q_r_1 := B_r.cell 1 rfl
    have f_r_0 := B_r.frozen 0
    have f_r_1 := B_r.frozen 1
    have q_r := B_r.lt
    go_wp2_with fail
    refine (bigMake_any false A3 (len q) c3 _).mono ?_
    rintro e w3 ⟨he, o3⟩
    clear q_x_0 q_x_1 f_x_0 f_x_1 q_x q_r_0 q_r_1 f_r_0 f_r_1 q_r
    replace o3 : Old w2 w3 := Below.trans (b := _) oldA (Below.mono o3 leA)
    replace B_x := Bx.old B_x o3
    replace B_r := Bx.old B_r o3
    replace h1 := Row.below h1 o3 (Nat.le_refl _)
    replace h2 := Row.below h2 o3 (Nat.le_refl _)
    replace r3 := Row.below r3 o3 (Nat.le_refl _)
    replace r4 := Row.below r4 o3 (Nat.le_refl _)
    replace O := Old.trans O o3
    have z3 := o3.size
    rw [← HU.out] at he
    subst he
    have q_x_0 := B_x.cell 0 rfl
    have q_x_1 := B_x.cell 1 rfl
    have f_x_0 := B_x.frozen 0
    have f_x_1 := B_x.frozen 1
    have q_x := B_x.lt
    have q_r_0 := B_r.cell 0 rfl
    have q_r_1 := B_r.cell 1 rfl
    have f_r_0 := B_r.frozen 0
    have f_r_1 := B_r.frozen 1
    have q_r := B_r.lt
    go_wp2_with fail
    refine (ownBig_any u A3 c3 q _ _ (Row.below (B := w3.heap.size) r3 oldA (Nat.le_refl _)) HU0.out (by omega)).mono ?_
    rintro e w4 ⟨⟨A8, c8, he, r8⟩, o4⟩
    clear q_x_0 q_x_1 f_x_0 f_x_1 q_x q_r_0 q_r_1 f_r_0 f_r_1 q_r
    replace o4 : Old w3 w4 := Below.trans (b := _) oldA (Below.mono o4 leA)
    replace B_x := Bx.old B_x o4
    replace B_r := Bx.old B_r o4
    replace h1 := Row.below h1 o4 (Nat.le_refl _)
    replace h2 := Row.below h2 o4 (Nat.le_refl _)
    replace r3 := Row.below r3 o4 (Nat.le_refl _)
    replace r4 := Row.below r4 o4 (Nat.le_refl _)
    replace O := Old.trans O o4
    have z4 := o4.size
    replace r8 := Row.more (lo' := w3.heap.size) r8 leA
    rw [capZ_signed, Hc.out, ← HSU.out, ← HZ.out] at he r8
    subst he
    have q_x_0 := B_x.cell 0 rfl
    have q_x_1 := B_x.cell 1 rfl
    have f_x_0 := B_x.frozen 0
    have f_x_1 := B_x.frozen 1
    have q_x := B_x.lt
    have q_r_0 := B_r.cell 0 rfl
    have q_r_1 := B_r.cell 1 rfl
    have f_r_0 := B_r.frozen 0
    have f_r_1 := B_r.frozen 1
    have q_r := B_r.lt
    have l8 := r8.lim
    go_wp2_with fail
    refine (clone_any A4 (len t) c4 _ _ _ (Row.below (B := w4.heap.size) r4 oldA (Nat.le_refl _)) (by omega)).mono ?_
    rintro e w5 ⟨A9, c9, rfl, r9, o5⟩
    clear q_x_0 q_x_1 f_x_0 f_x_1 q_x q_r_0 q_r_1 f_r_0 f_r_1 q_r
    replace o5 : Old w4 w5 := Below.trans (b := _) oldA (Below.mono o5 leA)
    replace B_x := Bx.old B_x o5
    replace B_r := Bx.old B_r o5
    replace h1 := Row.below h1 o5 (Nat.le_refl _)
    replace h2 := Row.below h2 o5 (Nat.le_refl _)
    replace r3 := Row.below r3 o5 (Nat.le_refl _)
    replace r4 := Row.below r4 o5 (Nat.le_refl _)
    replace r8 := Row.below r8 o5 (Nat.le_refl _)
    replace O := Old.trans O o5
    have z5 := o5.size
    replace r9 := Row.more (lo' := w4.heap.size) r9 leA
    have q_x_0 := B_x.cell 0 rfl
    have q_x_1 := B_x.cell 1 rfl
    have f_x_0 := B_x.frozen 0
    have f_x_1 := B_x.frozen 1
    have q_x := B_x.lt
    have q_r_0 := B_r.cell 0 rfl
    have q_r_1 := B_r.cell 1 rfl
    have f_r_0 := B_r.frozen 0
    have f_r_1 := B_r.frozen 1
    have q_r := B_r.lt
    have hap : Apart A8 (len (magZ Z)) A9 (len t) := Apart.of (w := w5) (hi := w4.heap.size) l8 r9 (Nat.le_refl _)
    have Hap := Lib.hid hap
    clear hap
    go_wp2
    refine bodyPost_ret (v := .tuple #[.agg #[.bool (sgnZ Z), .slice A8 (len (magZ Z)) c8], .slice A9 (len t) c9]) (by simp [results, Try.results58, go_sem, q_r_0, q_r_1]) rfl ⟨⟨A8, c8, A9, c9, rfl, ?_, ?_, Hap.out⟩, ?_⟩
    · refine Row.more (lo := w3.heap.size) ?_ leA
      repeat' (first | exact r8 | refine Row.far_set ?_ (by first | (simp <;> done) | (simp; omega) | omega) _)
    · refine Row.more (lo := w4.heap.size) ?_ leA
      repeat' (first | exact r9 | refine Row.far_set ?_ (by first | (simp <;> done) | (simp; omega) | omega) _)
    · exact oldA
set_option maxRecDepth 100000 in
set_option maxHeartbeats 1000000 in
theorem impl_BigIntFloorDiv_no1 (b : Bool) (A1 A2 : Option Addr) (n m c1 c2 lo1 : Nat) (f : Nat → Int) (w : World) (h1 : Row w lo1 A1 n c1 f) (hn : n ≤ 1048576) (k1 : ¬ okB b n f) :
    Calls Try.prog 58 #[.agg #[.bool b, .slice A1 n c1], .slice A2 m c2] w fun e w' => e = .returned (.tuple #[.agg #[.bool false, .slice none 0 0], .slice none 0 0]) ∧ Old w w' := by
  have K := Lib.hid k1
  clear k1
  have O : Old w ((w.alloc (.cells #[.bool b, .slice A1 n c1] 37)).alloc (.cells #[.bool false, .slice none 0 0] 37)) := oldA
  have B_x : Bx ((w.alloc (.cells #[.bool b, .slice A1 n c1] 37)).alloc (.cells #[.bool false, .slice none 0 0] 37)) (w.heap.size) #[.bool b, .slice A1 n c1] := by have h := (Bx.alloc (Bx.new w #[.bool b, .slice A1 n c1] 37) (.cells #[.bool false, .slice none 0 0] 37)); simpa using h
  have B_r : Bx ((w.alloc (.cells #[.bool b, .slice A1 n c1] 37)).alloc (.cells #[.bool false, .slice none 0 0] 37)) (w.heap.size + 1) #[.bool false, .slice none 0 0] := by have h := (Bx.new (w.alloc (.cells #[.bool b, .slice A1 n c1] 37)) #[.bool false, .slice none 0 0] 37); simpa using h
  have ne_0_1 : ¬ (w.heap.size = w.heap.size + 1) := by omega
  have ne_1_0 : ¬ (w.heap.size + 1 = w.heap.size) := by omega
  replace h1 := Row.below h1 O (Nat.le_refl _)
  go_enter Try.func58, Try.ntmps58
  go_wp2_with fail
  refine (impl_BigIntOk_no b A1 n c1 lo1 f _ (Row.below (B := ((w.alloc (.cells #[.bool b, .slice A1 n c1] 37)).alloc (.cells #[.bool false, .slice none 0 0] 37)).heap.size) h1 oldA (Nat.le_refl _)) hn K.out).mono ?_
  rintro e w1 ⟨rfl, o1⟩
  replace o1 : Old ((w.alloc (.cells #[.bool b, .slice A1 n c1] 37)).alloc (.cells #[.bool false, .slice none 0 0] 37)) w1 := Below.trans (b := _) oldA (Below.mono o1 leA)
  replace B_x := Bx.old B_x o1
  replace B_r := Bx.old B_r o1
  replace h1 := Row.below h1 o1 (Nat.le_refl _)
  replace O := Old.trans O o1
  have z1 : w.heap.size + 2 ≤ w1.heap.size := (by have h := o1.size; simp at h; omega)
  have q_x_0 := B_x.cell 0 rfl
  have q_x_1 := B_x.cell 1 rfl
  have f_x_0 := B_x.frozen 0
  have f_x_1 := B_x.frozen 1
  have q_x := B_x.lt
  have q_r_0 := B_r.cell 0 rfl
  have q_r_1 := B_r.cell 1 rfl
  have f_r_0 := B_r.frozen 0
  have f_r_1 := B_r.frozen 1
  have q_r := B_r.lt
  go_wp2
  refine bodyPost_ret (v := .tuple #[.agg #[.bool false, .slice none 0 0], .slice none 0 0]) (by simp [results, Try.results58, go_sem, q_r_0, q_r_1]) rfl ⟨rfl, oldA⟩
set_option maxRecDepth 100000 in
set_option maxHeartbeats 1000000 in
theorem impl_BigIntFloorDiv_no2 (b : Bool) (A1 A2 : Option Addr) (x m c1 c2 lo1 lo2 : Nat) (g : Nat → Int) (w : World) (h1 : NatS w lo1 A1 c1 x) (h2 : Row w lo2 A2 m c2 g) (hx : len x ≤ 60) (hb : b = true → 0 < x) (hm : m ≤ 1048576) (k1 : ¬ okP m g) :
    Calls Try.prog 58 #[.agg #[.bool b, .slice A1 (len x) c1], .slice A2 m c2] w fun e w' => e = .returned (.tuple #[.agg #[.bool false, .slice none 0 0], .slice none 0 0]) ∧ Old w w' := by
  have K := Lib.hid k1
  clear k1
  have HB := Lib.hid hb
  clear hb
  have O : Old w ((w.alloc (.cells #[.bool b, .slice A1 (len x) c1] 37)).alloc (.cells #[.bool false, .slice none 0 0] 37)) := oldA
  have B_x : Bx ((w.alloc (.cells #[.bool b, .slice A1 (len x) c1] 37)).alloc (.cells #[.bool false, .slice none 0 0] 37)) (w.heap.size) #[.bool b, .slice A1 (len x) c1] := by have h := (Bx.alloc (Bx.new w #[.bool b, .slice A1 (len x) c1] 37) (.cells #[.bool false, .slice none 0 0] 37)); simpa using h
  have B_r : Bx ((w.alloc (.cells #[.bool b, .slice A1 (len x) c1] 37)).alloc (.cells #[.bool false, .slice none 0 0] 37)) (w.heap.size + 1) #[.bool false, .slice none 0 0] := by have h := (Bx.new (w.alloc (.cells #[.bool b, .slice A1 (len x) c1] 37)) #[.bool false, .slice none 0 0] 37); simpa using h
  have ne_0_1 : ¬ (w.heap.size = w.heap.size + 1) := by omega
  have ne_1_0 : ¬ (w.heap.size + 1 = w.heap.size) := by omega
  replace h1 := Row.below h1 O (Nat.le_refl _)
  replace h2 := Row.below h2 O (Nat.le_refl _)
  go_enter Try.func58, Try.ntmps58
  go_wp2_with fail
  refine (impl_BigIntOk_yes b A1 c1 x lo1 _ (Row.below (B := ((w.alloc (.cells #[.bool b, .slice A1 (len x) c1] 37)).alloc (.cells #[.bool false, .slice none 0 0] 37)).heap.size) h1 oldA (Nat.le_refl _)) hx HB.out).mono ?_
  rintro e w1 ⟨rfl, o1⟩
  replace o1 : Old ((w.alloc (.cells #[.bool b, .slice A1 (len x) c1] 37)).alloc (.cells #[.bool false, .slice none 0 0] 37)) w1 := Below.trans (b := _) oldA (Below.mono o1 leA)
  replace B_x := Bx.old B_x o1
  replace B_r := Bx.old B_r o1
  replace h1 := Row.below h1 o1 (Nat.le_refl _)
  replace h2 := Row.below h2 o1 (Nat.le_refl _)
  replace O := Old.trans O o1
  have z1 : w.heap.size + 2 ≤ w1.heap.size := (by have h := o1.size; simp at h; omega)
  have q_x_0 := B_x.cell 0 rfl
  have q_x_1 := B_x.cell 1 rfl
  have f_x_0 := B_x.frozen 0
  have f_x_1 := B_x.frozen 1
  have q_x := B_x.lt
  have q_r_0 := B_r.cell 0 rfl
  have q_r_1 := B_r.cell 1 rfl
  have f_r_0 := B_r.frozen 0
  have f_r_1 := B_r.frozen 1
  have q_r := B_r.lt
  go_wp2_with fail
  refine (natOk_no A2 m c2 g lo2 _ (Row.below (B := w1.heap.size) h2 oldA (Nat.le_refl _)) K.out hm).mono ?_
  rintro e w2 ⟨rfl, rfl⟩
  go_wp2
  refine bodyPost_ret (v := .tuple #[.agg #[.bool false, .slice none 0 0], .slice none 0 0]) (by simp [results, Try.results58, go_sem, q_r_0, q_r_1]) rfl ⟨rfl, oldA⟩
set_option maxRecDepth 100000 in
set_option maxHeartbeats 1000000 in
theorem impl_BigIntFloorDiv_no3 (b : Bool) (A1 A2 : Option Addr) (x c1 c2 lo1 lo2 : Nat) (g : Nat → Int) (w : World) (h1 : NatS w lo1 A1 c1 x) (h2 : Row w lo2 A2 0 c2 g) (hx : len x ≤ 60) (hb : b = true → 0 < x) (k1 : okP 0 g) :
    Calls Try.prog 58 #[.agg #[.bool b, .slice A1 (len x) c1], .slice A2 0 c2] w fun e w' => e = .returned (.tuple #[.agg #[.bool false, .slice none 0 0], .slice none 0 0]) ∧ Old w w' := by
  have K := Lib.hid k1
  clear k1
  have HB := Lib.hid hb
  clear hb
  have O : Old w ((w.alloc (.cells #[.bool b, .slice A1 (len x) c1] 37)).alloc (.cells #[.bool false, .slice none 0 0] 37)) := oldA
  have B_x : Bx ((w.alloc (.cells #[.bool b, .slice A1 (len x) c1] 37)).alloc (.cells #[.bool false, .slice none 0 0] 37)) (w.heap.size) #[.bool b, .slice A1 (len x) c1] := by have h := (Bx.alloc (Bx.new w #[.bool b, .slice A1 (len x) c1] 37) (.cells #[.bool false, .slice none 0 0] 37)); simpa using h
  have B_r : Bx ((w.alloc (.cells #[.bool b, .slice A1 (len x) c1] 37)).alloc (.cells #[.bool false, .slice none 0 0] 37)) (w.heap.size + 1) #[.bool false, .slice none 0 0] := by have h := (Bx.new (w.alloc (.cells #[.bool b, .slice A1 (len x) c1] 37)) #[.bool false, .slice none 0 0] 37); simpa using h
  have ne_0_1 : ¬ (w.heap.size = w.heap.size + 1) := by omega
  have ne_1_0 : ¬ (w.heap.size + 1 = w.heap.size) := by omega
  replace h1 := Row.below h1 O (Nat.le_refl _)
  replace h2 := Row.below h2 O (Nat.le_refl _)
  go_enter Try.func58, Try.ntmps58
  go_wp2_with fail
  refine (impl_BigIntOk_yes b A1 c1 x lo1 _ (Row.below (B := ((w.alloc (.cells #[.bool b, .slice A1 (len x) c1] 37)).alloc (.cells #[.bool false, .slice none 0 0] 37)).heap.size) h1 oldA (Nat.le_refl _)) hx HB.out).mono ?_
  rintro e w1 ⟨rfl, o1⟩
  replace o1 : Old ((w.alloc (.cells #[.bool b, .slice A1 (len x) c1] 37)).alloc (.cells #[.bool false, .slice none 0 0] 37)) w1 := Below.trans (b := _) oldA (Below.mono o1 leA)
  replace B_x := Bx.old B_x o1
  replace B_r := Bx.old B_r o1
  replace h1 := Row.below h1 o1 (Nat.le_refl _)
  replace h2 := Row.below h2 o1 (Nat.le_refl _)
  replace O := Old.trans O o1
  have z1 : w.heap.size + 2 ≤ w1.heap.size := (by have h := o1.size; simp at h; omega)
  have q_x_0 := B_x.cell 0 rfl
  have q_x_1 := B_x.cell 1 rfl
  have f_x_0 := B_x.frozen 0
  have f_x_1 := B_x.frozen 1
  have q_x := B_x.lt
  have q_r_0 := B_r.cell 0 rfl
  have q_r_1 := B_r.cell 1 rfl
  have f_r_0 := B_r.frozen 0
  have f_r_1 := B_r.frozen 1
  have q_r := B_r.lt
  go_wp2_with fail
  refine (natOk_yes A2 0 c2 g lo2 _ (Row.below (B := w1.heap.size) h2 oldA (Nat.le_refl _)) K.out).mono ?_
  rintro e w2 ⟨rfl, rfl⟩
  go_wp2
  refine bodyPost_ret (v := .tuple #[.agg #[.bool false, .slice none 0 0], .slice none 0 0]) (by simp [results, Try.results58, go_sem, q_r_0, q_r_1]) rfl ⟨rfl, oldA⟩
theorem spec_BigIntFloorDiv (b : Bool) (A1 : Option Addr) (n c1 lo1 : Nat) (f : Nat → Int) (A2 : Option Addr) (m c2 lo2 : Nat) (g : Nat → Int) (w : World) (h1 : Row w lo1 A1 n c1 f) (h2 : Row w lo2 A2 m c2 g) (hn : n ≤ 1048576) (hm : m ≤ 1048576) :
    Calls Try.prog 57 #[.agg #[.bool b, .slice A1 n c1], .slice A2 m c2] w fun e w' => RetBN e w' w.heap.size (zBigIntFloorDiv0 b n f m g) (rBigIntFloorDiv1 b n f m g) ∧ Old w w' := by
  have nil : (¬ floP b n f m g) → ∀ e w', (e = .returned (.tuple #[.agg #[.bool false, .slice none 0 0], .slice none 0 0]) ∧ Old w w') → RetBN e w' w.heap.size (zBigIntFloorDiv0 b n f m g) (rBigIntFloorDiv1 b n f m g) ∧ Old w w' := by
    rintro k e w' ⟨rfl, o⟩
    rw [(flo_no k).1, (flo_no k).2]
    exact ⟨⟨none, 0, none, 0, by rw [len_zero]; rfl, NatS.zero _ _ _ _, NatS.zero _ _ _ _⟩, o⟩
  by_cases k1 : okB b n f
  · obtain ⟨x, e1, hx, hb, hv, s1⟩ := okB_nat k1 h1
    by_cases k2 : okP m g
    · by_cases k3 : 0 < m
      · have k : floP b n f m g := ⟨k1, k2, k3⟩
        obtain ⟨y, e2, hy, v2, s2⟩ := row_nat h2 k2
        have v1 : natX n f = x := by have h := congrArg magZ hv; rw [bigX, mag_signed, mag_signed] at h; exact h
        have hy0 : 0 < y := pos_len (by omega)
        rw [(flo_yes k).1, (flo_yes k).2, v1, v2, e1, e2]
        by_cases h : b = true ∧ 0 < x % y
        · obtain ⟨hb1, h⟩ := h
          subst hb1
          exact spec_BigIntFloorDiv_p A1 A2 c1 c2 x y lo1 lo2 w s1 s2 hx hy hb hy0 h
        · exact spec_BigIntFloorDiv_q b A1 A2 c1 c2 x y lo1 lo2 w s1 s2 hx hy hb hy0 h
      · have k : ¬ floP b n f m g := fun h => k3 h.2.2
        obtain rfl : m = 0 := by omega
        subst e1
        exact (spec_BigIntFloorDiv_no3 b A1 A2 x c1 c2 lo1 lo2 g w s1 h2 hx hb k2).mono (nil k)
    · subst e1
      exact (spec_BigIntFloorDiv_no2 b A1 A2 x m c1 c2 lo1 lo2 g w s1 h2 hx hb hm k2).mono (nil fun h => k2 h.2.1)
  · exact (spec_BigIntFloorDiv_no1 b A1 A2 n m c1 c2 lo1 f w h1 hn k1).mono (nil fun h => k1 h.1)
theorem impl_BigIntFloorDiv (b : Bool) (A1 : Option Addr) (n c1 lo1 : Nat) (f : Nat → Int) (A2 : Option Addr) (m c2 lo2 : Nat) (g : Nat → Int) (w : World) (h1 : Row w lo1 A1 n c1 f) (h2 : Row w lo2 A2 m c2 g) (hn : n ≤ 1048576) (hm : m ≤ 1048576) :
    Calls Try.prog 58 #[.agg #[.bool b, .slice A1 n c1], .slice A2 m c2] w fun e w' => RetBNA e w' w.heap.size (zBigIntFloorDiv0 b n f m g) (rBigIntFloorDiv1 b n f m g) ∧ Old w w' := by
  have nil : (¬ floP b n f m g) → ∀ e w', (e = .returned (.tuple #[.agg #[.bool false, .slice none 0 0], .slice none 0 0]) ∧ Old w w') → RetBNA e w' w.heap.size (zBigIntFloorDiv0 b n f m g) (rBigIntFloorDiv1 b n f m g) ∧ Old w w' := by
    rintro k e w' ⟨rfl, o⟩
    rw [(flo_no k).1, (flo_no k).2]
    exact ⟨⟨none, 0, none, 0, by rw [len_zero]; rfl, NatS.zero _ _ _ _, NatS.zero _ _ _ _, nil_apart⟩, o⟩
  by_cases k1 : okB b n f
  · obtain ⟨x, e1, hx, hb, hv, s1⟩ := okB_nat k1 h1
    by_cases k2 : okP m g
    · by_cases k3 : 0 < m
      · have k : floP b n f m g := ⟨k1, k2, k3⟩
        obtain ⟨y, e2, hy, v2, s2⟩ := row_nat h2 k2
        have v1 : natX n f = x := by have h := congrArg magZ hv; rw [bigX, mag_signed, mag_signed] at h; exact h
        have hy0 : 0 < y := pos_len (by omega)
        rw [(flo_yes k).1, (flo_yes k).2, v1, v2, e1, e2]
        by_cases h : b = true ∧ 0 < x % y
        · obtain ⟨hb1, h⟩ := h
          subst hb1
          exact impl_BigIntFloorDiv_p A1 A2 c1 c2 x y lo1 lo2 w s1 s2 hx hy hb hy0 h
        · exact impl_BigIntFloorDiv_q b A1 A2 c1 c2 x y lo1 lo2 w s1 s2 hx hy hb hy0 h
      · have k : ¬ floP b n f m g := fun h => k3 h.2.2
        obtain rfl : m = 0 := by omega
        subst e1
        exact (impl_BigIntFloorDiv_no3 b A1 A2 x c1 c2 lo1 lo2 g w s1 h2 hx hb k2).mono (nil k)
    · subst e1
      exact (impl_BigIntFloorDiv_no2 b A1 A2 x m c1 c2 lo1 lo2 g w s1 h2 hx hb hm k2).mono (nil fun h => k2 h.2.1)
  · exact (impl_BigIntFloorDiv_no1 b A1 A2 n m c1 c2 lo1 f w h1 hn k1).mono (nil fun h => k1 h.1)
end Go.Proofs.Ytemjhmmbbjppkaa
