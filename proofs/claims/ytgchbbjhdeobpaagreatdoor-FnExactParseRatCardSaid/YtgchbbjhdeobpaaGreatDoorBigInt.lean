import Derived.Test.YtgchbbjhdeobpaaGreatDoorBigNeg
import Derived.Test.YtgchbbjhdeobpaaGreatDoorNatA
/-
  Big integers out of ints and into ints: both BigIntOf's, both BigIntToInt's.
-/
namespace Go.Proofs.YtgchbbjhdeobpaaGreatDoor
set_option linter.unusedVariables false
open Go.RowKit Num

def zBigIntOf (a : Int) : Int := if -9223372036854775808 ≤ a ∧ a ≤ 9223372036854775807 then a else 0
theorem zBigIntOf_yes {a : Int} (b : -9223372036854775808 ≤ a ∧ a ≤ 9223372036854775807) : zBigIntOf a = a := if_pos b
theorem len_min : len 9223372036854775808 = 3 := len_eq (by rw [B_eq]; omega) (fun _ => by rw [B_eq]; omega)
theorem zBigIntOf_len (a : Int) : len (magZ (zBigIntOf a)) ≤ 60 := by
  have h1 : magZ (zBigIntOf a) ≤ 9223372036854775808 := by unfold magZ zBigIntOf; split <;> omega
  have h2 := len_mono h1
  rw [len_min] at h2
  omega
theorem natOf_abs {a : Int} (h : 0 ≤ a ∧ a ≤ 9223372036854775807) : ((rNatOf a : Nat) : Int) = a := by
  unfold rNatOf
  rw [if_pos h.2]
  omega
theorem capN_natOf (a : Int) : capN (rNatOf a) = rNatOf a := capN_self (rNatOf_len a)
theorem min_row (w : World) (lo : Nat) (hl : lo ≤ w.heap.size) : Row (w.alloc (.cells #[.int .i64 854775808, .int .i64 223372036, .int .i64 9] 3)) lo (some ⟨w.heap.size, 0, none⟩) 3 3 (digI 9223372036854775808) := by
  refine ⟨by omega, fun _ => ⟨w.heap.size, 0, rfl, hl, by simp, fun j => World.frozen?_alloc_at _ _ _ _ rfl, fun j hj => ?_⟩⟩
  rw [World.cell?_alloc_at _ _ _ _ rfl]
  have e0 : dig 9223372036854775808 0 = 854775808 := by unfold dig; rw [B_eq]
  have e1 : dig 9223372036854775808 1 = 223372036 := by unfold dig; rw [B_eq]
  have e2 : dig 9223372036854775808 2 = 9 := by unfold dig; rw [B_eq]
  match j, hj with
  | 0, _ => show some _ = some (Value.int .i64 ((dig 9223372036854775808 0 : Nat) : Int)); rw [e0]; rfl
  | 1, _ => show some _ = some (Value.int .i64 ((dig 9223372036854775808 1 : Nat) : Int)); rw [e1]; rfl
  | 2, _ => show some _ = some (Value.int .i64 ((dig 9223372036854775808 2 : Nat) : Int)); rw [e2]; rfl
theorem min_nat : ∃ m : Nat, len m = 3 ∧ (-9223372036854775808 : Int) = signed true m ∧
    ∀ (w : World) (lo : Nat), lo ≤ w.heap.size → Row (w.alloc (.cells #[.int .i64 854775808, .int .i64 223372036, .int .i64 9] 3)) lo (some ⟨w.heap.size, 0, none⟩) 3 3 (digI m) :=
  ⟨9223372036854775808, len_min, by rw [signed, if_pos rfl]; omega, min_row⟩
set_option maxRecDepth 100000 in
set_option maxHeartbeats 1000000 in
theorem spec_BigIntOf (a : Int) (w : World) (b : -9223372036854775808 ≤ a ∧ a ≤ 9223372036854775807) :
    Calls Tryz.prog 97 #[.int .i64 a] w fun e w' => RetB e w' w.heap.size (zBigIntOf a) ∧ Old w w' := by
  by_cases h0 : 0 ≤ a
  · have Hz : Hid (zBigIntOf a = signed false (capN (rNatOf a))) := Lib.hid (by rw [zBigIntOf_yes b, capN_natOf, signed, if_neg (by decide), natOf_abs ⟨h0, b.2⟩])
    have Hl := Lib.hid (rNatOf_len a)
    have hm : (a == -9223372036854775808) = false := by simp; omega
    refine (?_ : Calls Tryz.prog 97 #[.int .i64 a] w fun e w' => RetB e w' w.heap.size (signed false (capN (rNatOf a))) ∧ Old w w').mono fun e w' h => ⟨by rw [Hz.out]; exact h.1, h.2⟩
    go_enter Tryz.func97, Tryz.ntmps97
    go_wp2_with fail
    refine (spec_NatOf (a) _ (by omega)).mono ?_
    rintro e w1 ⟨⟨A1, c1, rfl, r1⟩, o1⟩
    have B2 : Bx w1 w.heap.size #[.bool false, .slice none 0 0] := Bx.old (Bx.new _ _ _) o1
    have o1' : Old w w1 := Below.trans (b := _) oldA (Below.mono o1 (by simp <;> omega))
    have z1 := o1'.size
    clear o1
    have q10 := B2.lt
    go_wp2_with fail
    refine (l03Make_any false A1 _ c1 (rNatOf (a)) _ _ r1 (Nat.le_refl _) (by have := Hl.out; omega)).mono ?_
    rintro e w2 ⟨⟨A2, c2, rfl, r2⟩, o2⟩
    have q1b := B2.lt
    replace B2 := B2.old o2
    have o2' : Old w w2 := Below.trans (b := w1) oldA (Below.mono o2 (by first | omega | (simp <;> omega)))
    have q20 := B2.cell 0 rfl
    have q21 := B2.cell 1 rfl
    have f20 := B2.frozen 0
    have f21 := B2.frozen 1
    have q2 := B2.lt
    have z2 := o2.size
    go_wp2
    refine bodyPost_ret (v := .agg #[.bool (sgnZ (signed false (capN (rNatOf a)))), .slice A2 (len (magZ (signed false (capN (rNatOf a))))) c2]) (by simp [results, Tryz.results97, go_sem, q20, q21]) rfl ⟨⟨A2, c2, rfl, ?_⟩, ?_⟩
    · refine Row.more (lo := w1.heap.size) ?_ (by first | omega | (simp <;> omega))
      repeat' (first | exact r2 | refine Row.far_set ?_ (by first | (simp <;> done) | (simp; omega) | omega) _)
    · exact oldA
  · by_cases h1 : a = -9223372036854775808
    · obtain ⟨m, hl, hz, hrow⟩ := min_nat
      have Hz : Hid (zBigIntOf a = signed true (capN m)) := Lib.hid (by rw [zBigIntOf_yes b, h1, capN_self (by omega)]; exact hz)
      have Hrow := Lib.hid hrow
      clear hrow hz
      subst h1
      refine (?_ : Calls Tryz.prog 97 #[.int .i64 (-9223372036854775808)] w fun e w' => RetB e w' w.heap.size (signed true (capN m)) ∧ Old w w').mono fun e w' h => ⟨by rw [Hz.out]; exact h.1, h.2⟩
      go_enter Tryz.func97, Tryz.ntmps97
      have R0 : Row ((w.alloc (.cells #[.bool false, .slice none 0 0] 24)).alloc (.cells #[.int .i64 854775808, .int .i64 223372036, .int .i64 9] 3)) w.heap.size (some ⟨w.heap.size + 1, 0, none⟩) 3 3 (digI m) := by have h := Hrow.out (w.alloc (.cells #[.bool false, .slice none 0 0] 24)) w.heap.size (by simp); simpa using h
      have hl3 : len m ≤ 3 := by omega
      go_wp2_with fail
      refine (l03Make_any true (some ⟨w.heap.size + 1, 0, none⟩) 3 3 m w.heap.size _ R0 hl3 (by omega)).mono ?_
      rintro e w2 ⟨⟨A2, c2, rfl, r2⟩, o2⟩
      have B2 : Bx w2 w.heap.size #[.bool false, .slice none 0 0] := Bx.old (Bx.alloc (Bx.new _ _ _) _) o2
      have o2' : Old w w2 := Below.trans (b := _) oldA (Below.mono o2 (by first | omega | (simp <;> omega)))
      have r2' : NatS w2 (w.heap.size + 1 + 1) A2 c2 (magZ (signed true (capN m))) := by simpa using r2
      have q20 := B2.cell 0 rfl
      have q21 := B2.cell 1 rfl
      have f20 := B2.frozen 0
      have f21 := B2.frozen 1
      have q2 := B2.lt
      have z2 := o2'.size
      go_wp2
      refine bodyPost_ret (v := .agg #[.bool (sgnZ (signed true (capN m))), .slice A2 (len (magZ (signed true (capN m)))) c2]) (by simp [results, Tryz.results97, go_sem, q20, q21]) rfl ⟨⟨A2, c2, rfl, ?_⟩, ?_⟩
      · refine Row.more (lo := w.heap.size + 1 + 1) ?_ (by omega)
        repeat' (first | exact r2' | refine Row.far_set ?_ (by first | (simp <;> done) | (simp; omega) | omega) _)
      · exact oldA
    · have Hz : Hid (zBigIntOf a = signed true (capN (rNatOf (-a)))) := Lib.hid (by rw [zBigIntOf_yes b, capN_natOf, signed, if_pos rfl, natOf_abs (by omega)]; omega)
      have Hl := Lib.hid (rNatOf_len (-a))
      have hm : (a == -9223372036854775808) = false := by simp; omega
      refine (?_ : Calls Tryz.prog 97 #[.int .i64 a] w fun e w' => RetB e w' w.heap.size (signed true (capN (rNatOf (-a)))) ∧ Old w w').mono fun e w' h => ⟨by rw [Hz.out]; exact h.1, h.2⟩
      go_enter Tryz.func97, Tryz.ntmps97
      go_wp2_with fail
      refine (spec_NatOf (-a) _ (by omega)).mono ?_
      rintro e w1 ⟨⟨A1, c1, rfl, r1⟩, o1⟩
      have B2 : Bx w1 w.heap.size #[.bool false, .slice none 0 0] := Bx.old (Bx.new _ _ _) o1
      have o1' : Old w w1 := Below.trans (b := _) oldA (Below.mono o1 (by simp <;> omega))
      have z1 := o1'.size
      clear o1
      have q10 := B2.lt
      go_wp2_with fail
      refine (l03Make_any true A1 _ c1 (rNatOf (-a)) _ _ r1 (Nat.le_refl _) (by have := Hl.out; omega)).mono ?_
      rintro e w2 ⟨⟨A2, c2, rfl, r2⟩, o2⟩
      have q1b := B2.lt
      replace B2 := B2.old o2
      have o2' : Old w w2 := Below.trans (b := w1) oldA (Below.mono o2 (by first | omega | (simp <;> omega)))
      have q20 := B2.cell 0 rfl
      have q21 := B2.cell 1 rfl
      have f20 := B2.frozen 0
      have f21 := B2.frozen 1
      have q2 := B2.lt
      have z2 := o2.size
      go_wp2
      refine bodyPost_ret (v := .agg #[.bool (sgnZ (signed true (capN (rNatOf (-a))))), .slice A2 (len (magZ (signed true (capN (rNatOf (-a)))))) c2]) (by simp [results, Tryz.results97, go_sem, q20, q21]) rfl ⟨⟨A2, c2, rfl, ?_⟩, ?_⟩
      · refine Row.more (lo := w1.heap.size) ?_ (by first | omega | (simp <;> omega))
        repeat' (first | exact r2 | refine Row.far_set ?_ (by first | (simp <;> done) | (simp; omega) | omega) _)
      · exact oldA
end Go.Proofs.YtgchbbjhdeobpaaGreatDoor
