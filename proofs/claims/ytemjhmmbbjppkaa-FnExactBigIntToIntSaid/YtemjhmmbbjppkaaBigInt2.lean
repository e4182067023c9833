/-
  Big integers out of ints (the program's) and into ints (both).
-/
import Derived.Test.YtemjhmmbbjppkaaBigMake
namespace Go.Proofs.Ytemjhmmbbjppkaa
set_option linter.unusedVariables false
open Go.RowKit Num
attribute [local go_sem ↓] Go.wp_at_zero Go.wp_at_succ
theorem rNatOf_one : rNatOf 1 = 1 := rfl
theorem rNatOf_max : rNatOf 9223372036854775807 = 9223372036854775807 := rfl
theorem rNatOf_pos {a : Int} (h : 0 < a ∧ a ≤ 9223372036854775807) : 0 < rNatOf a := by unfold rNatOf; rw [if_pos h.2]; omega

set_option maxRecDepth 100000 in
set_option maxHeartbeats 1000000 in
theorem bigOf_pos (a : Int) (w : World) (h0 : 0 ≤ a ∧ a ≤ 9223372036854775807) :
    Calls Try.prog 68 #[.int .i64 a] w fun e w' => RetB e w' w.heap.size (signed false (rNatOf a)) ∧ Old w w' := by
  have h1 := h0.1
  have h2 := h0.2
  clear h0
  have O : Old w (w.alloc (.cells #[.bool false, .slice none 0 0] 37)) := oldA
  have B_r : Bx (w.alloc (.cells #[.bool false, .slice none 0 0] 37)) (w.heap.size) #[.bool false, .slice none 0 0] := by have h := (Bx.new w #[.bool false, .slice none 0 0] 37); simpa using h
  go_enter Try.func68, Try.ntmps68
  go_wp2_with fail
  refine (natOf_any (a) _ (by omega)).mono ?_
  rintro e w1 ⟨⟨A1, c1, rfl, r1⟩, o1⟩
  replace o1 : Old (w.alloc (.cells #[.bool false, .slice none 0 0] 37)) w1 := Below.trans (b := _) oldA (Below.mono o1 leA)
  replace B_r := Bx.old B_r o1
  replace O := Old.trans O o1
  have z1 : w.heap.size + 1 ≤ w1.heap.size := (by have h := o1.size; simp at h; omega)
  replace r1 := Row.more (lo' := w.heap.size + 1) r1 leA
  have q_r_0 := B_r.cell 0 rfl
  have q_r_1 := B_r.cell 1 rfl
  have f_r_0 := B_r.frozen 0
  have f_r_1 := B_r.frozen 1
  have q_r := B_r.lt
  go_wp2
  refine bodyPost_ret (v := .agg #[.bool false, .slice A1 (len (rNatOf a)) c1]) (by simp [results, Try.results68, go_sem, q_r_0, q_r_1]) rfl ⟨RetB.mk' (b := false) (x := rNatOf a) (A := A1) (c := c1) (by rfl) ?_ rfl, ?_⟩
  · refine Row.more (lo := w.heap.size + 1) ?_ leA
    repeat' (first | exact r1 | refine Row.far_set ?_ (by first | (simp <;> done) | (simp; omega) | omega) _)
  · exact oldA
set_option maxRecDepth 100000 in
set_option maxHeartbeats 1000000 in
theorem bigOf_min (w : World) :
    Calls Try.prog 68 #[.int .i64 (-9223372036854775808)] w fun e w' => RetB e w' w.heap.size (signed true (rNatOf 9223372036854775807 + rNatOf 1)) ∧ Old w w' := by
  have Hl : len (rNatOf 9223372036854775807) ≤ 60 := rNatOf_len _
  have Hm : len (rNatOf 1) ≤ 60 := rNatOf_len _
  have Hp : Hid (0 < rNatOf 9223372036854775807 + rNatOf 1) := Lib.hid (by rw [rNatOf_one]; omega)
  have O : Old w (w.alloc (.cells #[.bool false, .slice none 0 0] 37)) := oldA
  have B_r : Bx (w.alloc (.cells #[.bool false, .slice none 0 0] 37)) (w.heap.size) #[.bool false, .slice none 0 0] := by have h := (Bx.new w #[.bool false, .slice none 0 0] 37); simpa using h
  go_enter Try.func68, Try.ntmps68
  go_wp2_with fail
  refine (natOf_any 9223372036854775807 _ (by omega)).mono ?_
  rintro e w1 ⟨⟨A2, c2, rfl, r2⟩, o1⟩
  replace o1 : Old (w.alloc (.cells #[.bool false, .slice none 0 0] 37)) w1 := Below.trans (b := _) oldA (Below.mono o1 leA)
  replace B_r := Bx.old B_r o1
  replace O := Old.trans O o1
  have z1 : w.heap.size + 1 ≤ w1.heap.size := (by have h := o1.size; simp at h; omega)
  replace r2 := Row.more (lo' := w.heap.size + 1) r2 leA
  have q_r_0 := B_r.cell 0 rfl
  have q_r_1 := B_r.cell 1 rfl
  have f_r_0 := B_r.frozen 0
  have f_r_1 := B_r.frozen 1
  have q_r := B_r.lt
  go_wp2_with fail
  refine (natOf_any 1 _ (by omega)).mono ?_
  rintro e w2 ⟨⟨A3, c3, rfl, r3⟩, o2⟩
  clear q_r_0 q_r_1 f_r_0 f_r_1 q_r
  replace o2 : Old w1 w2 := Below.trans (b := _) oldA (Below.mono o2 leA)
  replace B_r := Bx.old B_r o2
  replace r2 := Row.below r2 o2 (Nat.le_refl _)
  replace O := Old.trans O o2
  have z2 := o2.size
  replace r3 := Row.more (lo' := w1.heap.size) r3 leA
  have q_r_0 := B_r.cell 0 rfl
  have q_r_1 := B_r.cell 1 rfl
  have f_r_0 := B_r.frozen 0
  have f_r_1 := B_r.frozen 1
  have q_r := B_r.lt
  go_wp2_with fail
  refine (natAdd_any A2 A3 c2 c3 (rNatOf 9223372036854775807) (rNatOf 1) _ _ _ (Row.below (B := w2.heap.size) r2 oldA (Nat.le_refl _)) (Row.below (B := w2.heap.size) r3 oldA (Nat.le_refl _)) (by omega) (by omega)).mono ?_
  rintro e w3 ⟨A1, c1, rfl, r1, o3⟩
  clear q_r_0 q_r_1 f_r_0 f_r_1 q_r
  replace o3 : Old w2 w3 := Below.trans (b := _) oldA (Below.mono o3 leA)
  replace B_r := Bx.old B_r o3
  replace r2 := Row.below r2 o3 (Nat.le_refl _)
  replace r3 := Row.below r3 o3 (Nat.le_refl _)
  replace O := Old.trans O o3
  have z3 := o3.size
  replace r1 := Row.more (lo' := w2.heap.size) r1 leA
  have q_r_0 := B_r.cell 0 rfl
  have q_r_1 := B_r.cell 1 rfl
  have f_r_0 := B_r.frozen 0
  have f_r_1 := B_r.frozen 1
  have q_r := B_r.lt
  go_wp2
  refine bodyPost_ret (v := .agg #[.bool true, .slice A1 (len (rNatOf 9223372036854775807 + rNatOf 1)) c1]) (by simp [results, Try.results68, go_sem, q_r_0, q_r_1]) rfl ⟨RetB.mk' (b := true) (x := rNatOf 9223372036854775807 + rNatOf 1) (A := A1) (c := c1) (by rw [decide_eq_true Hp.out]; rfl) ?_ rfl, ?_⟩
  · refine Row.more (lo := w2.heap.size) ?_ leA
    repeat' (first | exact r1 | refine Row.far_set ?_ (by first | (simp <;> done) | (simp; omega) | omega) _)
  · exact oldA
set_option maxRecDepth 100000 in
set_option maxHeartbeats 1000000 in
theorem bigOf_neg (a : Int) (w : World) (h0 : -9223372036854775807 ≤ a ∧ a < 0) :
    Calls Try.prog 68 #[.int .i64 a] w fun e w' => RetB e w' w.heap.size (signed true (rNatOf (-a))) ∧ Old w w' := by
  have h1 : ¬ 0 ≤ a := by omega
  have h2 : (a == -9223372036854775808) = false := by simp; omega
  have Hp := Lib.hid (rNatOf_pos (a := -a) (by omega))
  have h3 := h0.1
  have h4 := h0.2
  clear h0
  have O : Old w (w.alloc (.cells #[.bool false, .slice none 0 0] 37)) := oldA
  have B_r : Bx (w.alloc (.cells #[.bool false, .slice none 0 0] 37)) (w.heap.size) #[.bool false, .slice none 0 0] := by have h := (Bx.new w #[.bool false, .slice none 0 0] 37); simpa using h
  go_enter Try.func68, Try.ntmps68
  go_wp2_with fail
  refine (natOf_any (-a) _ (by omega)).mono ?_
  rintro e w1 ⟨⟨A1, c1, rfl, r1⟩, o1⟩
  replace o1 : Old (w.alloc (.cells #[.bool false, .slice none 0 0] 37)) w1 := Below.trans (b := _) oldA (Below.mono o1 leA)
  replace B_r := Bx.old B_r o1
  replace O := Old.trans O o1
  have z1 : w.heap.size + 1 ≤ w1.heap.size := (by have h := o1.size; simp at h; omega)
  replace r1 := Row.more (lo' := w.heap.size + 1) r1 leA
  have q_r_0 := B_r.cell 0 rfl
  have q_r_1 := B_r.cell 1 rfl
  have f_r_0 := B_r.frozen 0
  have f_r_1 := B_r.frozen 1
  have q_r := B_r.lt
  go_wp2
  refine bodyPost_ret (v := .agg #[.bool true, .slice A1 (len (rNatOf (-a))) c1]) (by simp [results, Try.results68, go_sem, q_r_0, q_r_1]) rfl ⟨RetB.mk' (b := true) (x := rNatOf (-a)) (A := A1) (c := c1) (by rw [decide_eq_true Hp.out]; rfl) ?_ rfl, ?_⟩
  · refine Row.more (lo := w.heap.size + 1) ?_ leA
    repeat' (first | exact r1 | refine Row.far_set ?_ (by first | (simp <;> done) | (simp; omega) | omega) _)
  · exact oldA
theorem bigOf_any (a : Int) (w : World) (b : -9223372036854775808 ≤ a ∧ a ≤ 9223372036854775807) :
    Calls Try.prog 68 #[.int .i64 a] w fun e w' => RetB e w' w.heap.size (zBigIntOf a) ∧ Old w w' := by
  rw [zBigIntOf_yes b]
  by_cases h0 : 0 ≤ a
  · have e : a = signed false (rNatOf a) := by rw [signed, if_neg (by decide), natOf_abs ⟨h0, b.2⟩]
    have h := bigOf_pos a w ⟨h0, b.2⟩
    rw [← e] at h
    exact h
  · by_cases h1 : a = -9223372036854775808
    · subst h1
      have h := bigOf_min w
      have e : signed true (rNatOf 9223372036854775807 + rNatOf 1) = -9223372036854775808 := by rw [rNatOf_one, rNatOf_max, signed, if_pos rfl]; rfl
      rw [e] at h
      exact h
    · have e : a = signed true (rNatOf (-a)) := by rw [signed, if_pos rfl, natOf_abs (by omega)]; omega
      have h := bigOf_neg a w (by omega)
      rw [← e] at h
      exact h
set_option maxRecDepth 100000 in
set_option maxHeartbeats 1000000 in
theorem impl_BigIntOf (a : Int) (w : World) (b : -9223372036854775808 ≤ a ∧ a ≤ 9223372036854775807) :
    Calls Try.prog 32 #[.int .i64 a] w fun e w' => RetB e w' w.heap.size (zBigIntOf a) ∧ Old w w' := by
  have HB := Lib.hid b
  clear b
  obtain ⟨z, hz⟩ : ∃ z, z = zBigIntOf a := ⟨_, rfl⟩
  have HZ := Lib.hid hz
  rw [← hz]
  clear hz
  have O : Old w (w.alloc (.cells #[.bool false, .slice none 0 0] 37)) := oldA
  have B_r : Bx (w.alloc (.cells #[.bool false, .slice none 0 0] 37)) (w.heap.size) #[.bool false, .slice none 0 0] := by have h := (Bx.new w #[.bool false, .slice none 0 0] 37); simpa using h
  go_enter Try.func32, Try.ntmps32
  go_wp2_with fail
  refine (retB_to HZ.out.symm (bigOf_any a _ HB.out)).mono ?_
  rintro e w1 ⟨⟨A1, c1, rfl, r1⟩, o1⟩
  replace o1 : Old (w.alloc (.cells #[.bool false, .slice none 0 0] 37)) w1 := Below.trans (b := _) oldA (Below.mono o1 leA)
  replace B_r := Bx.old B_r o1
  replace O := Old.trans O o1
  have z1 : w.heap.size + 1 ≤ w1.heap.size := (by have h := o1.size; simp at h; omega)
  replace r1 := Row.more (lo' := w.heap.size + 1) r1 leA
  have q_r_0 := B_r.cell 0 rfl
  have q_r_1 := B_r.cell 1 rfl
  have f_r_0 := B_r.frozen 0
  have f_r_1 := B_r.frozen 1
  have q_r := B_r.lt
  go_wp2
  refine bodyPost_ret (v := .agg #[.bool (sgnZ z), .slice A1 (len (magZ z)) c1]) (by simp [results, Try.results32, go_sem, q_r_0, q_r_1]) rfl ⟨⟨A1, c1, rfl, ?_⟩, ?_⟩
  · refine Row.more (lo := w.heap.size + 1) ?_ leA
    repeat' (first | exact r1 | refine Row.far_set ?_ (by first | (simp <;> done) | (simp; omega) | omega) _)
  · exact oldA
open Classical in
noncomputable def rBigIntToInt0 (b : Bool) (n : Nat) (f : Nat → Int) : Int := if okB b n f ∧ natX n f ≤ 9223372036854775807 then bigX b n f else 0
open Classical in
noncomputable def rBigIntToInt1 (b : Bool) (n : Nat) (f : Nat → Int) : Bool := decide (okB b n f ∧ natX n f ≤ 9223372036854775807)
open Classical in
theorem rToInt_yes {b : Bool} {n : Nat} {f : Nat → Int} (k : okB b n f) (h : natX n f ≤ 9223372036854775807) : rBigIntToInt0 b n f = bigX b n f ∧ rBigIntToInt1 b n f = true := ⟨if_pos ⟨k, h⟩, decide_eq_true ⟨k, h⟩⟩
open Classical in
theorem rToInt_no {b : Bool} {n : Nat} {f : Nat → Int} (k : ¬ (okB b n f ∧ natX n f ≤ 9223372036854775807)) : rBigIntToInt0 b n f = 0 ∧ rBigIntToInt1 b n f = false := ⟨if_neg k, decide_eq_false k⟩
theorem rNatToInt_yes {n : Nat} {f : Nat → Int} (k : okP n f) (h : natX n f ≤ 9223372036854775807) : rNatToInt0 n f = natX n f ∧ rNatToInt1 n f = true := by
  unfold rNatToInt0 rNatToInt1; rw [rNatOk_yes k, (toInt_yes h).1, (toInt_yes h).2]; exact ⟨rfl, rfl⟩
theorem rNatToInt_no {n : Nat} {f : Nat → Int} (k : ¬ (okP n f ∧ natX n f ≤ 9223372036854775807)) : rNatToInt0 n f = 0 ∧ rNatToInt1 n f = false := by
  unfold rNatToInt0 rNatToInt1
  by_cases k1 : okP n f
  · have h : ¬ natX n f ≤ 9223372036854775807 := fun h => k ⟨k1, h⟩
    rw [rNatOk_yes k1, (toInt_no h).1, (toInt_no h).2]; exact ⟨rfl, rfl⟩
  · rw [rNatOk_no k1]; exact ⟨rfl, rfl⟩

set_option maxRecDepth 100000 in
set_option maxHeartbeats 1000000 in
theorem spec_BigIntToInt_true (A1 : Option Addr) (n c1 lo1 : Nat) (f : Nat → Int) (w : World) (h1 : Row w lo1 A1 n c1 f) (hn : n ≤ 1048576) (x : Nat) (hx : natX n f = x) (k : okB true n f) (h : x ≤ 9223372036854775807) :
    Calls Try.prog 37 #[.agg #[.bool true, .slice A1 n c1]] w fun e w' => e = .returned (.tuple #[.int .i64 (-(x : Int)), .bool true]) ∧ Old w w' := by
  have HV : Hid (rNatToInt0 n f = x ∧ rNatToInt1 n f = true) := Lib.hid (by have h' := rNatToInt_yes k.1 (by rw [hx]; exact h); rw [hx] at h'; exact h')
  have HO := Lib.hid (rBigIntOk_yes k)
  clear hx k
  have O : Old w (w.alloc (.cells #[.bool true, .slice A1 n c1] 37)) := oldA
  have B_x : Bx (w.alloc (.cells #[.bool true, .slice A1 n c1] 37)) (w.heap.size) #[.bool true, .slice A1 n c1] := by have h := (Bx.new w #[.bool true, .slice A1 n c1] 37); simpa using h
  replace h1 := Row.below h1 O (Nat.le_refl _)
  go_enter Try.func37, Try.ntmps37
  go_wp2_with fail
  refine (spec_NatToInt A1 n c1 lo1 f _ (Row.below (B := (w.alloc (.cells #[.bool true, .slice A1 n c1] 37)).heap.size) h1 oldA (Nat.le_refl _)) hn).mono ?_
  rintro e w1 ⟨he, o1⟩
  replace o1 : Old (w.alloc (.cells #[.bool true, .slice A1 n c1] 37)) w1 := Below.trans (b := _) oldA (Below.mono o1 leA)
  replace B_x := Bx.old B_x o1
  replace h1 := Row.below h1 o1 (Nat.le_refl _)
  replace O := Old.trans O o1
  have z1 : w.heap.size + 1 ≤ w1.heap.size := (by have h := o1.size; simp at h; omega)
  rw [HV.out.1, HV.out.2] at he
  subst he
  have q_x_0 := B_x.cell 0 rfl
  have q_x_1 := B_x.cell 1 rfl
  have f_x_0 := B_x.frozen 0
  have f_x_1 := B_x.frozen 1
  have q_x := B_x.lt
  go_wp2_with fail
  refine (spec_BigIntOk true A1 n c1 lo1 f _ (Row.below (B := w1.heap.size) h1 oldA (Nat.le_refl _)) hn).mono ?_
  rintro e w2 ⟨he, o2⟩
  clear q_x_0 q_x_1 f_x_0 f_x_1 q_x
  replace o2 : Old w1 w2 := Below.trans (b := _) oldA (Below.mono o2 leA)
  replace B_x := Bx.old B_x o2
  replace h1 := Row.below h1 o2 (Nat.le_refl _)
  replace O := Old.trans O o2
  have z2 := o2.size
  rw [HO.out] at he
  subst he
  have q_x_0 := B_x.cell 0 rfl
  have q_x_1 := B_x.cell 1 rfl
  have f_x_0 := B_x.frozen 0
  have f_x_1 := B_x.frozen 1
  have q_x := B_x.lt
  go_wp2
  go_ret2
  exact ⟨rfl, oldA⟩
set_option maxRecDepth 100000 in
set_option maxHeartbeats 1000000 in
theorem spec_BigIntToInt_false (A1 : Option Addr) (n c1 lo1 : Nat) (f : Nat → Int) (w : World) (h1 : Row w lo1 A1 n c1 f) (hn : n ≤ 1048576) (x : Nat) (hx : natX n f = x) (k : okB false n f) (h : x ≤ 9223372036854775807) :
    Calls Try.prog 37 #[.agg #[.bool false, .slice A1 n c1]] w fun e w' => e = .returned (.tuple #[.int .i64 ((x : Int)), .bool true]) ∧ Old w w' := by
  have HV : Hid (rNatToInt0 n f = x ∧ rNatToInt1 n f = true) := Lib.hid (by have h' := rNatToInt_yes k.1 (by rw [hx]; exact h); rw [hx] at h'; exact h')
  have HO := Lib.hid (rBigIntOk_yes k)
  clear hx k
  have O : Old w (w.alloc (.cells #[.bool false, .slice A1 n c1] 37)) := oldA
  have B_x : Bx (w.alloc (.cells #[.bool false, .slice A1 n c1] 37)) (w.heap.size) #[.bool false, .slice A1 n c1] := by have h := (Bx.new w #[.bool false, .slice A1 n c1] 37); simpa using h
  replace h1 := Row.below h1 O (Nat.le_refl _)
  go_enter Try.func37, Try.ntmps37
  go_wp2_with fail
  refine (spec_NatToInt A1 n c1 lo1 f _ (Row.below (B := (w.alloc (.cells #[.bool false, .slice A1 n c1] 37)).heap.size) h1 oldA (Nat.le_refl _)) hn).mono ?_
  rintro e w1 ⟨he, o1⟩
  replace o1 : Old (w.alloc (.cells #[.bool false, .slice A1 n c1] 37)) w1 := Below.trans (b := _) oldA (Below.mono o1 leA)
  replace B_x := Bx.old B_x o1
  replace h1 := Row.below h1 o1 (Nat.le_refl _)
  replace O := Old.trans O o1
  have z1 : w.heap.size + 1 ≤ w1.heap.size := (by have h := o1.size; simp at h; omega)
  rw [HV.out.1, HV.out.2] at he
  subst he
  have q_x_0 := B_x.cell 0 rfl
  have q_x_1 := B_x.cell 1 rfl
  have f_x_0 := B_x.frozen 0
  have f_x_1 := B_x.frozen 1
  have q_x := B_x.lt
  go_wp2_with fail
  refine (spec_BigIntOk false A1 n c1 lo1 f _ (Row.below (B := w1.heap.size) h1 oldA (Nat.le_refl _)) hn).mono ?_
  rintro e w2 ⟨he, o2⟩
  clear q_x_0 q_x_1 f_x_0 f_x_1 q_x
  replace o2 : Old w1 w2 := Below.trans (b := _) oldA (Below.mono o2 leA)
  replace B_x := Bx.old B_x o2
  replace h1 := Row.below h1 o2 (Nat.le_refl _)
  replace O := Old.trans O o2
  have z2 := o2.size
  rw [HO.out] at he
  subst he
  have q_x_0 := B_x.cell 0 rfl
  have q_x_1 := B_x.cell 1 rfl
  have f_x_0 := B_x.frozen 0
  have f_x_1 := B_x.frozen 1
  have q_x := B_x.lt
  go_wp2
  go_ret2
  exact ⟨rfl, oldA⟩
set_option maxRecDepth 100000 in
set_option maxHeartbeats 1000000 in
theorem spec_BigIntToInt_big (b : Bool) (A1 : Option Addr) (n c1 lo1 : Nat) (f : Nat → Int) (w : World) (h1 : Row w lo1 A1 n c1 f) (hn : n ≤ 1048576) (k : ¬ (okP n f ∧ natX n f ≤ 9223372036854775807)) :
    Calls Try.prog 37 #[.agg #[.bool b, .slice A1 n c1]] w fun e w' => e = .returned (.tuple #[.int .i64 (0), .bool false]) ∧ Old w w' := by
  have HV := Lib.hid (rNatToInt_no k)
  clear k
  have O : Old w (w.alloc (.cells #[.bool b, .slice A1 n c1] 37)) := oldA
  have B_x : Bx (w.alloc (.cells #[.bool b, .slice A1 n c1] 37)) (w.heap.size) #[.bool b, .slice A1 n c1] := by have h := (Bx.new w #[.bool b, .slice A1 n c1] 37); simpa using h
  replace h1 := Row.below h1 O (Nat.le_refl _)
  go_enter Try.func37, Try.ntmps37
  go_wp2_with fail
  refine (spec_NatToInt A1 n c1 lo1 f _ (Row.below (B := (w.alloc (.cells #[.bool b, .slice A1 n c1] 37)).heap.size) h1 oldA (Nat.le_refl _)) hn).mono ?_
  rintro e w1 ⟨he, o1⟩
  replace o1 : Old (w.alloc (.cells #[.bool b, .slice A1 n c1] 37)) w1 := Below.trans (b := _) oldA (Below.mono o1 leA)
  replace B_x := Bx.old B_x o1
  replace h1 := Row.below h1 o1 (Nat.le_refl _)
  replace O := Old.trans O o1
  have z1 : w.heap.size + 1 ≤ w1.heap.size := (by have h := o1.size; simp at h; omega)
  rw [HV.out.1, HV.out.2] at he
  subst he
  have q_x_0 := B_x.cell 0 rfl
  have q_x_1 := B_x.cell 1 rfl
  have f_x_0 := B_x.frozen 0
  have f_x_1 := B_x.frozen 1
  have q_x := B_x.lt
  go_wp2
  go_ret2
  exact ⟨rfl, oldA⟩
set_option maxRecDepth 100000 in
set_option maxHeartbeats 1000000 in
theorem spec_BigIntToInt_bad (b : Bool) (A1 : Option Addr) (n c1 lo1 : Nat) (f : Nat → Int) (w : World) (h1 : Row w lo1 A1 n c1 f) (hn : n ≤ 1048576) (x : Nat) (hx : natX n f = x) (h : x ≤ 9223372036854775807) (k1 : okP n f) (k : ¬ okB b n f) :
    Calls Try.prog 37 #[.agg #[.bool b, .slice A1 n c1]] w fun e w' => e = .returned (.tuple #[.int .i64 (0), .bool false]) ∧ Old w w' := by
  have HV : Hid (rNatToInt0 n f = x ∧ rNatToInt1 n f = true) := Lib.hid (by have h' := rNatToInt_yes k1 (by rw [hx]; exact h); rw [hx] at h'; exact h')
  have HO := Lib.hid (rBigIntOk_no k)
  clear hx k k1
  have O : Old w (w.alloc (.cells #[.bool b, .slice A1 n c1] 37)) := oldA
  have B_x : Bx (w.alloc (.cells #[.bool b, .slice A1 n c1] 37)) (w.heap.size) #[.bool b, .slice A1 n c1] := by have h := (Bx.new w #[.bool b, .slice A1 n c1] 37); simpa using h
  replace h1 := Row.below h1 O (Nat.le_refl _)
  go_enter Try.func37, Try.ntmps37
  go_wp2_with fail
  refine (spec_NatToInt A1 n c1 lo1 f _ (Row.below (B := (w.alloc (.cells #[.bool b, .slice A1 n c1] 37)).heap.size) h1 oldA (Nat.le_refl _)) hn).mono ?_
  rintro e w1 ⟨he, o1⟩
  replace o1 : Old (w.alloc (.cells #[.bool b, .slice A1 n c1] 37)) w1 := Below.trans (b := _) oldA (Below.mono o1 leA)
  replace B_x := Bx.old B_x o1
  replace h1 := Row.below h1 o1 (Nat.le_refl _)
  replace O := Old.trans O o1
  have z1 : w.heap.size + 1 ≤ w1.heap.size := (by have h := o1.size; simp at h; omega)
  rw [HV.out.1, HV.out.2] at he
  subst he
  have q_x_0 := B_x.cell 0 rfl
  have q_x_1 := B_x.cell 1 rfl
  have f_x_0 := B_x.frozen 0
  have f_x_1 := B_x.frozen 1
  have q_x := B_x.lt
  go_wp2_with fail
  refine (spec_BigIntOk b A1 n c1 lo1 f _ (Row.below (B := w1.heap.size) h1 oldA (Nat.le_refl _)) hn).mono ?_
  rintro e w2 ⟨he, o2⟩
  clear q_x_0 q_x_1 f_x_0 f_x_1 q_x
  replace o2 : Old w1 w2 := Below.trans (b := _) oldA (Below.mono o2 leA)
  replace B_x := Bx.old B_x o2
  replace h1 := Row.below h1 o2 (Nat.le_refl _)
  replace O := Old.trans O o2
  have z2 := o2.size
  rw [HO.out] at he
  subst he
  have q_x_0 := B_x.cell 0 rfl
  have q_x_1 := B_x.cell 1 rfl
  have f_x_0 := B_x.frozen 0
  have f_x_1 := B_x.frozen 1
  have q_x := B_x.lt
  go_wp2
  go_ret2
  exact ⟨rfl, oldA⟩
theorem spec_BigIntToInt (b : Bool) (A1 : Option Addr) (n c1 lo1 : Nat) (f : Nat → Int) (w : World) (h1 : Row w lo1 A1 n c1 f) (hn : n ≤ 1048576) :
    Calls Try.prog 37 #[.agg #[.bool b, .slice A1 n c1]] w fun e w' => e = .returned (.tuple #[.int .i64 (rBigIntToInt0 b n f), .bool (rBigIntToInt1 b n f)]) ∧ Old w w' := by
  by_cases k : okB b n f ∧ natX n f ≤ 9223372036854775807
  · rw [(rToInt_yes k.1 k.2).1, (rToInt_yes k.1 k.2).2]
    cases b with
    | true => exact spec_BigIntToInt_true A1 n c1 lo1 f w h1 hn _ rfl k.1 k.2
    | false => exact spec_BigIntToInt_false A1 n c1 lo1 f w h1 hn _ rfl k.1 k.2
  · rw [(rToInt_no k).1, (rToInt_no k).2]
    by_cases k2 : okP n f ∧ natX n f ≤ 9223372036854775807
    · exact spec_BigIntToInt_bad b A1 n c1 lo1 f w h1 hn _ rfl k2.2 k2.1 fun h => k ⟨h, k2.2⟩
    · exact spec_BigIntToInt_big b A1 n c1 lo1 f w h1 hn k2
set_option maxRecDepth 100000 in
set_option maxHeartbeats 1000000 in
theorem impl_BigIntToInt_true (A1 : Option Addr) (c1 x lo1 : Nat) (w : World) (h1 : NatS w lo1 A1 c1 x) (hx : len x ≤ 60) (h : x ≤ 9223372036854775807) (hp : 0 < x) :
    Calls Try.prog 39 #[.agg #[.bool true, .slice A1 (len x) c1]] w fun e w' => e = .returned (.tuple #[.int .i64 (-(x : Int)), .bool true]) ∧ Old w w' := by
  have HV := Lib.hid (toInt_yes h)
  have HP := Lib.hid hp; clear hp
  have O : Old w (w.alloc (.cells #[.bool true, .slice A1 (len x) c1] 37)) := oldA
  have B_x : Bx (w.alloc (.cells #[.bool true, .slice A1 (len x) c1] 37)) (w.heap.size) #[.bool true, .slice A1 (len x) c1] := by have h := (Bx.new w #[.bool true, .slice A1 (len x) c1] 37); simpa using h
  replace h1 := Row.below h1 O (Nat.le_refl _)
  go_enter Try.func39, Try.ntmps39
  go_wp2_with fail
  refine (impl_BigIntOk_yes true A1 c1 x lo1 _ (Row.below (B := (w.alloc (.cells #[.bool true, .slice A1 (len x) c1] 37)).heap.size) h1 oldA (Nat.le_refl _)) hx (fun h => HP.out)).mono ?_
  rintro e w1 ⟨rfl, o1⟩
  replace o1 : Old (w.alloc (.cells #[.bool true, .slice A1 (len x) c1] 37)) w1 := Below.trans (b := _) oldA (Below.mono o1 leA)
  replace B_x := Bx.old B_x o1
  replace h1 := Row.below h1 o1 (Nat.le_refl _)
  replace O := Old.trans O o1
  have z1 : w.heap.size + 1 ≤ w1.heap.size := (by have h := o1.size; simp at h; omega)
  have q_x_0 := B_x.cell 0 rfl
  have q_x_1 := B_x.cell 1 rfl
  have f_x_0 := B_x.frozen 0
  have f_x_1 := B_x.frozen 1
  have q_x := B_x.lt
  go_wp2_with fail
  refine (natTo_any A1 c1 x lo1 _ (Row.below (B := w1.heap.size) h1 oldA (Nat.le_refl _)) (by omega)).mono ?_
  rintro e w2 ⟨he, o2⟩
  clear q_x_0 q_x_1 f_x_0 f_x_1 q_x
  replace o2 : Old w1 w2 := Below.trans (b := _) oldA (Below.mono o2 leA)
  replace B_x := Bx.old B_x o2
  replace h1 := Row.below h1 o2 (Nat.le_refl _)
  replace O := Old.trans O o2
  have z2 := o2.size
  rw [HV.out.1, HV.out.2] at he
  subst he
  have q_x_0 := B_x.cell 0 rfl
  have q_x_1 := B_x.cell 1 rfl
  have f_x_0 := B_x.frozen 0
  have f_x_1 := B_x.frozen 1
  have q_x := B_x.lt
  go_wp2
  go_ret2
  exact ⟨rfl, oldA⟩
set_option maxRecDepth 100000 in
set_option maxHeartbeats 1000000 in
theorem impl_BigIntToInt_true_big (A1 : Option Addr) (c1 x lo1 : Nat) (w : World) (h1 : NatS w lo1 A1 c1 x) (hx : len x ≤ 60) (h : ¬ x ≤ 9223372036854775807) (hp : 0 < x) :
    Calls Try.prog 39 #[.agg #[.bool true, .slice A1 (len x) c1]] w fun e w' => e = .returned (.tuple #[.int .i64 (0), .bool false]) ∧ Old w w' := by
  have HV := Lib.hid (toInt_no h)
  have HP := Lib.hid hp; clear hp
  clear h
  have O : Old w (w.alloc (.cells #[.bool true, .slice A1 (len x) c1] 37)) := oldA
  have B_x : Bx (w.alloc (.cells #[.bool true, .slice A1 (len x) c1] 37)) (w.heap.size) #[.bool true, .slice A1 (len x) c1] := by have h := (Bx.new w #[.bool true, .slice A1 (len x) c1] 37); simpa using h
  replace h1 := Row.below h1 O (Nat.le_refl _)
  go_enter Try.func39, Try.ntmps39
  go_wp2_with fail
  refine (impl_BigIntOk_yes true A1 c1 x lo1 _ (Row.below (B := (w.alloc (.cells #[.bool true, .slice A1 (len x) c1] 37)).heap.size) h1 oldA (Nat.le_refl _)) hx (fun h => HP.out)).mono ?_
  rintro e w1 ⟨rfl, o1⟩
  replace o1 : Old (w.alloc (.cells #[.bool true, .slice A1 (len x) c1] 37)) w1 := Below.trans (b := _) oldA (Below.mono o1 leA)
  replace B_x := Bx.old B_x o1
  replace h1 := Row.below h1 o1 (Nat.le_refl _)
  replace O := Old.trans O o1
  have z1 : w.heap.size + 1 ≤ w1.heap.size := (by have h := o1.size; simp at h; omega)
  have q_x_0 := B_x.cell 0 rfl
  have q_x_1 := B_x.cell 1 rfl
  have f_x_0 := B_x.frozen 0
  have f_x_1 := B_x.frozen 1
  have q_x := B_x.lt
  go_wp2_with fail
  refine (natTo_any A1 c1 x lo1 _ (Row.below (B := w1.heap.size) h1 oldA (Nat.le_refl _)) (by omega)).mono ?_
  rintro e w2 ⟨he, o2⟩
  clear q_x_0 q_x_1 f_x_0 f_x_1 q_x
  replace o2 : Old w1 w2 := Below.trans (b := _) oldA (Below.mono o2 leA)
  replace B_x := Bx.old B_x o2
  replace h1 := Row.below h1 o2 (Nat.le_refl _)
  replace O := Old.trans O o2
  have z2 := o2.size
  rw [HV.out.1, HV.out.2] at he
  subst he
  have q_x_0 := B_x.cell 0 rfl
  have q_x_1 := B_x.cell 1 rfl
  have f_x_0 := B_x.frozen 0
  have f_x_1 := B_x.frozen 1
  have q_x := B_x.lt
  go_wp2
  go_ret2
  exact ⟨rfl, oldA⟩
set_option maxRecDepth 100000 in
set_option maxHeartbeats 1000000 in
theorem impl_BigIntToInt_false (A1 : Option Addr) (c1 x lo1 : Nat) (w : World) (h1 : NatS w lo1 A1 c1 x) (hx : len x ≤ 60) (h : x ≤ 9223372036854775807) :
    Calls Try.prog 39 #[.agg #[.bool false, .slice A1 (len x) c1]] w fun e w' => e = .returned (.tuple #[.int .i64 ((x : Int)), .bool true]) ∧ Old w w' := by
  have HV := Lib.hid (toInt_yes h)
  skip
  have O : Old w (w.alloc (.cells #[.bool false, .slice A1 (len x) c1] 37)) := oldA
  have B_x : Bx (w.alloc (.cells #[.bool false, .slice A1 (len x) c1] 37)) (w.heap.size) #[.bool false, .slice A1 (len x) c1] := by have h := (Bx.new w #[.bool false, .slice A1 (len x) c1] 37); simpa using h
  replace h1 := Row.below h1 O (Nat.le_refl _)
  go_enter Try.func39, Try.ntmps39
  go_wp2_with fail
  refine (impl_BigIntOk_yes false A1 c1 x lo1 _ (Row.below (B := (w.alloc (.cells #[.bool false, .slice A1 (len x) c1] 37)).heap.size) h1 oldA (Nat.le_refl _)) hx (fun h => absurd h Bool.false_ne_true)).mono ?_
  rintro e w1 ⟨rfl, o1⟩
  replace o1 : Old (w.alloc (.cells #[.bool false, .slice A1 (len x) c1] 37)) w1 := Below.trans (b := _) oldA (Below.mono o1 leA)
  replace B_x := Bx.old B_x o1
  replace h1 := Row.below h1 o1 (Nat.le_refl _)
  replace O := Old.trans O o1
  have z1 : w.heap.size + 1 ≤ w1.heap.size := (by have h := o1.size; simp at h; omega)
  have q_x_0 := B_x.cell 0 rfl
  have q_x_1 := B_x.cell 1 rfl
  have f_x_0 := B_x.frozen 0
  have f_x_1 := B_x.frozen 1
  have q_x := B_x.lt
  go_wp2_with fail
  refine (natTo_any A1 c1 x lo1 _ (Row.below (B := w1.heap.size) h1 oldA (Nat.le_refl _)) (by omega)).mono ?_
  rintro e w2 ⟨he, o2⟩
  clear q_x_0 q_x_1 f_x_0 f_x_1 q_x
  replace o2 : Old w1 w2 := Below.trans (b := _) oldA (Below.mono o2 leA)
  replace B_x := Bx.old B_x o2
  replace h1 := Row.below h1 o2 (Nat.le_refl _)
  replace O := Old.trans O o2
  have z2 := o2.size
  rw [HV.out.1, HV.out.2] at he
  subst he
  have q_x_0 := B_x.cell 0 rfl
  have q_x_1 := B_x.cell 1 rfl
  have f_x_0 := B_x.frozen 0
  have f_x_1 := B_x.frozen 1
  have q_x := B_x.lt
  go_wp2
  go_ret2
  exact ⟨rfl, oldA⟩
set_option maxRecDepth 100000 in
set_option maxHeartbeats 1000000 in
theorem impl_BigIntToInt_false_big (A1 : Option Addr) (c1 x lo1 : Nat) (w : World) (h1 : NatS w lo1 A1 c1 x) (hx : len x ≤ 60) (h : ¬ x ≤ 9223372036854775807) :
    Calls Try.prog 39 #[.agg #[.bool false, .slice A1 (len x) c1]] w fun e w' => e = .returned (.tuple #[.int .i64 (0), .bool false]) ∧ Old w w' := by
  have HV := Lib.hid (toInt_no h)
  skip
  clear h
  have O : Old w (w.alloc (.cells #[.bool false, .slice A1 (len x) c1] 37)) := oldA
  have B_x : Bx (w.alloc (.cells #[.bool false, .slice A1 (len x) c1] 37)) (w.heap.size) #[.bool false, .slice A1 (len x) c1] := by have h := (Bx.new w #[.bool false, .slice A1 (len x) c1] 37); simpa using h
  replace h1 := Row.below h1 O (Nat.le_refl _)
  go_enter Try.func39, Try.ntmps39
  go_wp2_with fail
  refine (impl_BigIntOk_yes false A1 c1 x lo1 _ (Row.below (B := (w.alloc (.cells #[.bool false, .slice A1 (len x) c1] 37)).heap.size) h1 oldA (Nat.le_refl _)) hx (fun h => absurd h Bool.false_ne_true)).mono ?_
  rintro e w1 ⟨rfl, o1⟩
  replace o1 : Old (w.alloc (.cells #[.bool false, .slice A1 (len x) c1] 37)) w1 := Below.trans (b := _) oldA (Below.mono o1 leA)
  replace B_x := Bx.old B_x o1
  replace h1 := Row.below h1 o1 (Nat.le_refl _)
  replace O := Old.trans O o1
  have z1 : w.heap.size + 1 ≤ w1.heap.size := (by have h := o1.size; simp at h; omega)
  have q_x_0 := B_x.cell 0 rfl
  have q_x_1 := B_x.cell 1 rfl
  have f_x_0 := B_x.frozen 0
  have f_x_1 := B_x.frozen 1
  have q_x := B_x.lt
  go_wp2_with fail
  refine (natTo_any A1 c1 x lo1 _ (Row.below (B := w1.heap.size) h1 oldA (Nat.le_refl _)) (by omega)).mono ?_
  rintro e w2 ⟨he, o2⟩
  clear q_x_0 q_x_1 f_x_0 f_x_1 q_x
  replace o2 : Old w1 w2 := Below.trans (b := _) oldA (Below.mono o2 leA)
  replace B_x := Bx.old B_x o2
  replace h1 := Row.below h1 o2 (Nat.le_refl _)
  replace O := Old.trans O o2
  have z2 := o2.size
  rw [HV.out.1, HV.out.2] at he
  subst he
  have q_x_0 := B_x.cell 0 rfl
  have q_x_1 := B_x.cell 1 rfl
  have f_x_0 := B_x.frozen 0
  have f_x_1 := B_x.frozen 1
  have q_x := B_x.lt
  go_wp2
  go_ret2
  exact ⟨rfl, oldA⟩
set_option maxRecDepth 100000 in
set_option maxHeartbeats 1000000 in
theorem impl_BigIntToInt_bad (b : Bool) (A1 : Option Addr) (n c1 lo1 : Nat) (f : Nat → Int) (w : World) (h1 : Row w lo1 A1 n c1 f) (hn : n ≤ 1048576) (k : ¬ okB b n f) :
    Calls Try.prog 39 #[.agg #[.bool b, .slice A1 n c1]] w fun e w' => e = .returned (.tuple #[.int .i64 (0), .bool false]) ∧ Old w w' := by
  have K := Lib.hid k
  clear k
  have O : Old w (w.alloc (.cells #[.bool b, .slice A1 n c1] 37)) := oldA
  have B_x : Bx (w.alloc (.cells #[.bool b, .slice A1 n c1] 37)) (w.heap.size) #[.bool b, .slice A1 n c1] := by have h := (Bx.new w #[.bool b, .slice A1 n c1] 37); simpa using h
  replace h1 := Row.below h1 O (Nat.le_refl _)
  go_enter Try.func39, Try.ntmps39
  go_wp2_with fail
  refine (impl_BigIntOk_no b A1 n c1 lo1 f _ (Row.below (B := (w.alloc (.cells #[.bool b, .slice A1 n c1] 37)).heap.size) h1 oldA (Nat.le_refl _)) hn K.out).mono ?_
  rintro e w1 ⟨rfl, o1⟩
  replace o1 : Old (w.alloc (.cells #[.bool b, .slice A1 n c1] 37)) w1 := Below.trans (b := _) oldA (Below.mono o1 leA)
  replace B_x := Bx.old B_x o1
  replace h1 := Row.below h1 o1 (Nat.le_refl _)
  replace O := Old.trans O o1
  have z1 : w.heap.size + 1 ≤ w1.heap.size := (by have h := o1.size; simp at h; omega)
  have q_x_0 := B_x.cell 0 rfl
  have q_x_1 := B_x.cell 1 rfl
  have f_x_0 := B_x.frozen 0
  have f_x_1 := B_x.frozen 1
  have q_x := B_x.lt
  go_wp2
  go_ret2
  exact ⟨rfl, oldA⟩
theorem impl_BigIntToInt (b : Bool) (A1 : Option Addr) (n c1 lo1 : Nat) (f : Nat → Int) (w : World) (h1 : Row w lo1 A1 n c1 f) (hn : n ≤ 1048576) :
    Calls Try.prog 39 #[.agg #[.bool b, .slice A1 n c1]] w fun e w' => e = .returned (.tuple #[.int .i64 (rBigIntToInt0 b n f), .bool (rBigIntToInt1 b n f)]) ∧ Old w w' := by
  by_cases k : okB b n f
  · obtain ⟨x, e1, hx, hb, v, s1⟩ := okB_nat k h1
    have hN : natX n f = x := by have := congrArg magZ v; rw [bigX, mag_signed, mag_signed] at this; exact this
    by_cases h : x ≤ 9223372036854775807
    · have hr := rToInt_yes k (by rw [hN]; exact h)
      rw [hr.1, hr.2, v, e1]
      cases b with
      | true => exact impl_BigIntToInt_true A1 c1 x lo1 w s1 hx h (hb rfl)
      | false => exact impl_BigIntToInt_false A1 c1 x lo1 w s1 hx h
    · have hr := rToInt_no (b := b) (n := n) (f := f) (fun h' => h (by rw [← hN]; exact h'.2))
      rw [hr.1, hr.2, e1]
      cases b with
      | true => exact impl_BigIntToInt_true_big A1 c1 x lo1 w s1 hx h (hb rfl)
      | false => exact impl_BigIntToInt_false_big A1 c1 x lo1 w s1 hx h
  · have hr := rToInt_no (b := b) (n := n) (f := f) (fun h' => k h'.1)
    rw [hr.1, hr.2]
    exact impl_BigIntToInt_bad b A1 n c1 lo1 f w h1 hn k
end Go.Proofs.Ytemjhmmbbjppkaa
