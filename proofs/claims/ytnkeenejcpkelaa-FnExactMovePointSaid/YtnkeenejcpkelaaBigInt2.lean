import Derived.Test.YtnkeenejcpkelaaBigMake
/-
  Big integers out of ints (the program's) and into ints (both).
-/
namespace Go.Proofs.Ytnkeenejcpkelaa
set_option linter.unusedVariables false
open Go.RowKit Num
attribute [local go_sem ↓] Go.wp_at_zero Go.wp_at_succ
theorem rNatOf_one : rNatOf 1 = 1 := rfl
theorem rNatOf_max : rNatOf 9223372036854775807 = 9223372036854775807 := rfl
theorem rNatOf_pos {a : Int} (h : 0 < a ∧ a ≤ 9223372036854775807) : 0 < rNatOf a := by unfold rNatOf; rw [if_pos h.2]; omega

set_option maxRecDepth 100000 in
set_option maxHeartbeats 1000000 in
theorem bigOf_pos (a : Int) (w : World) (h0 : 0 ≤ a ∧ a ≤ 9223372036854775807) :
    Calls Try.prog 110 #[.int .i64 a] w fun e w' => RetB e w' w.heap.size (signed false (rNatOf a)) ∧ Old w w' := by
  have h1 := h0.1
  have h2 := h0.2
  clear h0
  have O : Old w (w.alloc (.cells #[.bool false, .slice none 0 0] 29)) := oldA
  have B_r : Bx (w.alloc (.cells #[.bool false, .slice none 0 0] 29)) (w.heap.size) #[.bool false, .slice none 0 0] := by have h := (Bx.new w #[.bool false, .slice none 0 0] 29); simpa using h
  go_enter Try.func110, Try.ntmps110
  go_wp2_with fail
  refine (natOf_any (a) _ (by omega)).mono ?_
  rintro e w1 ⟨⟨A1, c1, rfl, r1⟩, o1⟩
  replace o1 : Old (w.alloc (.cells #[.bool false, .slice none 0 0] 29)) w1 := Below.trans (b := _) oldA (Below.mono o1 leA)
  replace B_r := Bx.old B_r o1
  replace O := Old.trans O o1
  have z1 : w.heap.size + 1 ≤ w1.heap.size := (by have h := o1.size; simp at h; omega)
  replace r1 := Row.more (lo' := w.heap.size + 1) r1 leA
  have q_r_0 := B_r.cell 0 rfl
  have q_r_1 := B_r.cell 1 rfl
  have f_r_0 := B_r.frozen 0
  have f_r_1 := B_r.frozen 1
  have q_r := B_r.lt
  go_wp2
  refine bodyPost_ret (v := .agg #[.bool false, .slice A1 (len (rNatOf a)) c1]) (by simp [results, Try.results110, go_sem, q_r_0, q_r_1]) rfl ⟨RetB.mk' (b := false) (x := rNatOf a) (A := A1) (c := c1) (by rfl) ?_ rfl, ?_⟩
  · refine Row.more (lo := w.heap.size + 1) ?_ leA
    repeat' (first | exact r1 | refine Row.far_set ?_ (by first | (simp <;> done) | (simp; omega) | omega) _)
  · exact oldA
set_option maxRecDepth 100000 in
set_option maxHeartbeats 1000000 in
theorem bigOf_min (w : World) :
    Calls Try.prog 110 #[.int .i64 (-9223372036854775808)] w fun e w' => RetB e w' w.heap.size (signed true (rNatOf 9223372036854775807 + rNatOf 1)) ∧ Old w w' := by
  have Hl : len (rNatOf 9223372036854775807) ≤ 60 := rNatOf_len _
  have Hm : len (rNatOf 1) ≤ 60 := rNatOf_len _
  have Hp : Hid (0 < rNatOf 9223372036854775807 + rNatOf 1) := Lib.hid (by rw [rNatOf_one]; omega)
  have O : Old w (w.alloc (.cells #[.bool false, .slice none 0 0] 29)) := oldA
  have B_r : Bx (w.alloc (.cells #[.bool false, .slice none 0 0] 29)) (w.heap.size) #[.bool false, .slice none 0 0] := by have h := (Bx.new w #[.bool false, .slice none 0 0] 29); simpa using h
  go_enter Try.func110, Try.ntmps110
  go_wp2_with fail
  refine (natOf_any 9223372036854775807 _ (by omega)).mono ?_
  rintro e w1 ⟨⟨A2, c2, rfl, r2⟩, o1⟩
  replace o1 : Old (w.alloc (.cells #[.bool false, .slice none 0 0] 29)) w1 := Below.trans (b := _) oldA (Below.mono o1 leA)
  replace B_r := Bx.old B_r o1
  replace O := Old.trans O o1
  have z1 : w.heap.size + 1 ≤ w1.heap.size := (by have h := o1.size; simp at h; omega)
  replace r2 := Row.more (lo' := w.heap.size + 1) r2 leA
  have q_r_0 := B_r.cell 0 rfl
  have q_r_1 := B_r.cell 1 rfl
  have f_r_0 := B_r.frozen 0
  have f_r_1 := B_r.frozen 1
  have q_r := B_r.lt
  go_wp2_with fail
  refine (natOf_any 1 _ (by omega)).mono ?_
  rintro e w2 ⟨⟨A3, c3, rfl, r3⟩, o2⟩
  clear q_r_0 q_r_1 f_r_0 f_r_1 q_r
  replace o2 : Old w1 w2 := Below.trans (b := _) oldA (Below.mono o2 leA)
  replace B_r := Bx.old B_r o2
  replace r2 := Row.below r2 o2 (Nat.le_refl _)
  replace O := Old.trans O o2
  have z2 := o2.size
  replace r3 := Row.more (lo' := w1.heap.size) r3 leA
  have q_r_0 := B_r.cell 0 rfl
  have q_r_1 := B_r.cell 1 rfl
  have f_r_0 := B_r.frozen 0
  have f_r_1 := B_r.frozen 1
  have q_r := B_r.lt
  go_wp2_with fail
  refine (natAdd_any A2 A3 c2 c3 (rNatOf 9223372036854775807) (rNatOf 1) _ _ _ (Row.below (B := w2.heap.size) r2 oldA (Nat.le_refl _)) (Row.below (B := w2.heap.size) r3 oldA (Nat.le_refl _)) (by omega) (by omega)).mono ?_
  rintro e w3 ⟨A1, c1, rfl, r1, o3⟩
  clear q_r_0 q_r_1 f_r_0 f_r_1 q_r
  replace o3 : Old w2 w3 := Below.trans (b := _) oldA (Below.mono o3 leA)
  replace B_r := Bx.old B_r o3
  replace r2 := Row.below r2 o3 (Nat.le_refl _)
  replace r3 := Row.below r3 o3 (Nat.le_refl _)
  replace O := Old.trans O o3
  have z3 := o3.size
  replace r1 := Row.more (lo' := w2.heap.size) r1 leA
  have q_r_0 := B_r.cell 0 rfl
  have q_r_1 := B_r.cell 1 rfl
  have f_r_0 := B_r.frozen 0
  have f_r_1 := B_r.frozen 1
  have q_r := B_r.lt
  go_wp2
  refine bodyPost_ret (v := .agg #[.bool true, .slice A1 (len (rNatOf 9223372036854775807 + rNatOf 1)) c1]) (by simp [results, Try.results110, go_sem, q_r_0, q_r_1]) rfl ⟨RetB.mk' (b := true) (x := rNatOf 9223372036854775807 + rNatOf 1) (A := A1) (c := c1) (by rw [decide_eq_true Hp.out]; rfl) ?_ rfl, ?_⟩
  · refine Row.more (lo := w2.heap.size) ?_ leA
    repeat' (first | exact r1 | refine Row.far_set ?_ (by first | (simp <;> done) | (simp; omega) | omega) _)
  · exact oldA
set_option maxRecDepth 100000 in
set_option maxHeartbeats 1000000 in
theorem bigOf_neg (a : Int) (w : World) (h0 : -9223372036854775807 ≤ a ∧ a < 0) :
    Calls Try.prog 110 #[.int .i64 a] w fun e w' => RetB e w' w.heap.size (signed true (rNatOf (-a))) ∧ Old w w' := by
  have h1 : ¬ 0 ≤ a := by omega
  have h2 : (a == -9223372036854775808) = false := by simp; omega
  have Hp := Lib.hid (rNatOf_pos (a := -a) (by omega))
  have h3 := h0.1
  have h4 := h0.2
  clear h0
  have O : Old w (w.alloc (.cells #[.bool false, .slice none 0 0] 29)) := oldA
  have B_r : Bx (w.alloc (.cells #[.bool false, .slice none 0 0] 29)) (w.heap.size) #[.bool false, .slice none 0 0] := by have h := (Bx.new w #[.bool false, .slice none 0 0] 29); simpa using h
  go_enter Try.func110, Try.ntmps110
  go_wp2_with fail
  refine (natOf_any (-a) _ (by omega)).mono ?_
  rintro e w1 ⟨⟨A1, c1, rfl, r1⟩, o1⟩
  replace o1 : Old (w.alloc (.cells #[.bool false, .slice none 0 0] 29)) w1 := Below.trans (b := _) oldA (Below.mono o1 leA)
  replace B_r := Bx.old B_r o1
  replace O := Old.trans O o1
  have z1 : w.heap.size + 1 ≤ w1.heap.size := (by have h := o1.size; simp at h; omega)
  replace r1 := Row.more (lo' := w.heap.size + 1) r1 leA
  have q_r_0 := B_r.cell 0 rfl
  have q_r_1 := B_r.cell 1 rfl
  have f_r_0 := B_r.frozen 0
  have f_r_1 := B_r.frozen 1
  have q_r := B_r.lt
  go_wp2
  refine bodyPost_ret (v := .agg #[.bool true, .slice A1 (len (rNatOf (-a))) c1]) (by simp [results, Try.results110, go_sem, q_r_0, q_r_1]) rfl ⟨RetB.mk' (b := true) (x := rNatOf (-a)) (A := A1) (c := c1) (by rw [decide_eq_true Hp.out]; rfl) ?_ rfl, ?_⟩
  · refine Row.more (lo := w.heap.size + 1) ?_ leA
    repeat' (first | exact r1 | refine Row.far_set ?_ (by first | (simp <;> done) | (simp; omega) | omega) _)
  · exact oldA
theorem bigOf_any (a : Int) (w : World) (b : -9223372036854775808 ≤ a ∧ a ≤ 9223372036854775807) :
    Calls Try.prog 110 #[.int .i64 a] w fun e w' => RetB e w' w.heap.size (zBigIntOf a) ∧ Old w w' := by
  rw [zBigIntOf_yes b]
  by_cases h0 : 0 ≤ a
  · have e : a = signed false (rNatOf a) := by rw [signed, if_neg (by decide), natOf_abs ⟨h0, b.2⟩]
    have h := bigOf_pos a w ⟨h0, b.2⟩
    rw [← e] at h
    exact h
  · by_cases h1 : a = -9223372036854775808
    · subst h1
      have h := bigOf_min w
      have e : signed true (rNatOf 9223372036854775807 + rNatOf 1) = -9223372036854775808 := by rw [rNatOf_one, rNatOf_max, signed, if_pos rfl]; rfl
      rw [e] at h
      exact h
    · have e : a = signed true (rNatOf (-a)) := by rw [signed, if_pos rfl, natOf_abs (by omega)]; omega
      have h := bigOf_neg a w (by omega)
      rw [← e] at h
      exact h
open Classical in
noncomputable def rBigIntToInt0 (b : Bool) (n : Nat) (f : Nat → Int) : Int := if okB b n f ∧ natX n f ≤ 9223372036854775807 then bigX b n f else 0
open Classical in
noncomputable def rBigIntToInt1 (b : Bool) (n : Nat) (f : Nat → Int) : Bool := decide (okB b n f ∧ natX n f ≤ 9223372036854775807)
open Classical in
theorem rToInt_yes {b : Bool} {n : Nat} {f : Nat → Int} (k : okB b n f) (h : natX n f ≤ 9223372036854775807) : rBigIntToInt0 b n f = bigX b n f ∧ rBigIntToInt1 b n f = true := ⟨if_pos ⟨k, h⟩, decide_eq_true ⟨k, h⟩⟩
open Classical in
theorem rToInt_no {b : Bool} {n : Nat} {f : Nat → Int} (k : ¬ (okB b n f ∧ natX n f ≤ 9223372036854775807)) : rBigIntToInt0 b n f = 0 ∧ rBigIntToInt1 b n f = false := ⟨if_neg k, decide_eq_false k⟩
theorem rNatToInt_yes {n : Nat} {f : Nat → Int} (k : okP n f) (h : natX n f ≤ 9223372036854775807) : rNatToInt0 n f = natX n f ∧ rNatToInt1 n f = true := by
  unfold rNatToInt0 rNatToInt1; rw [rNatOk_yes k, (toInt_yes h).1, (toInt_yes h).2]; exact ⟨rfl, rfl⟩
theorem rNatToInt_no {n : Nat} {f : Nat → Int} (k : ¬ (okP n f ∧ natX n f ≤ 9223372036854775807)) : rNatToInt0 n f = 0 ∧ rNatToInt1 n f = false := by
  unfold rNatToInt0 rNatToInt1
  by_cases k1 : okP n f
  · have h : ¬ natX n f ≤ 9223372036854775807 := fun h => k ⟨k1, h⟩
    rw [rNatOk_yes k1, (toInt_no h).1, (toInt_no h).2]; exact ⟨rfl, rfl⟩
  · rw [rNatOk_no k1]; exact ⟨rfl, rfl⟩

end Go.Proofs.Ytnkeenejcpkelaa
