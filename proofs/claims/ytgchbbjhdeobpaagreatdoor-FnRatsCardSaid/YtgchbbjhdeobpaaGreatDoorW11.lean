import Derived.BigQuiet
import Derived.ChangeOld
import Derived.Deep.DeepCutAuto
import Derived.Deep.OwnRows
import Derived.Deep.QuietTactic
import Derived.Deep.RegionWith
import Derived.Deep.Upon
import Derived.JoinedOf
import Derived.KernelRfl
import Derived.Lib.Hide
import Derived.Lib.SmallJoins
import Derived.OpenShut
import Derived.ProofKit
import Derived.ShutString
import Derived.Test.YtgchbbjhdeobpaaGreatDoorRows
import Derived.WalkKit
import Derived.WalkLawsBesides
import Derived.WalkSpells
import Ieee.Arith
import Derived.Test.YtgchbbjhdeobpaaGreatDoorW1
import Derived.Test.YtgchbbjhdeobpaaGreatDoorW2
import Derived.Test.YtgchbbjhdeobpaaGreatDoorW3
import Derived.Test.YtgchbbjhdeobpaaGreatDoorW4
import Derived.Test.YtgchbbjhdeobpaaGreatDoorW5
import Derived.Test.YtgchbbjhdeobpaaGreatDoorW9
/- What the claim's proof reaches of: BigNeg, BigInt. -/
namespace Go.Proofs.YtgchbbjhdeobpaaGreatDoor
set_option linter.unusedVariables false
open Go.RowKit Num

theorem capN_self {x : Nat} (h : len x ≤ 60) : capN x = x := if_pos h
set_option maxRecDepth 100000 in
set_option maxHeartbeats 1000000 in
theorem ownBig_any (b : Bool) (A : Option Addr) (c x lo : Nat) (w : World) (h : NatS w lo A c x) (hb : b = true → 0 < x) (hx : len x ≤ 2000) :
    Calls Tryz.prog 102 #[.agg #[.bool b, .slice A (len x) c]] w fun e w' => RetB e w' w.heap.size (capZ (signed b x)) ∧ Old w w' := by
  rw [capZ_signed]
  have hs : Row w lo A (len x) c (digI x) := h
  have Hb : Hid ((b && decide (0 < x)) = b) := Lib.hid (by cases b <;> simp_all)
  clear h hb
  by_cases h60 : len x ≤ 60
  · have e : Hid (capN x = x) := Lib.hid (by rw [capN, if_pos h60])
    rw [e.out]
    have hn : len x ≤ 1048576 := by omega
    go_enter Tryz.func102, Tryz.ntmps102
    have B1 : Bx ((w.alloc (.cells #[.bool b, .slice A (len x) c] 24)).alloc (.cells #[.bool false, .slice none 0 0] 24)) w.heap.size #[.bool b, .slice A (len x) c] := Bx.alloc (Bx.new _ _ _) _
    have B2 : Bx ((w.alloc (.cells #[.bool b, .slice A (len x) c] 24)).alloc (.cells #[.bool false, .slice none 0 0] 24)) (w.heap.size + 1) #[.bool false, .slice none 0 0] := by have h := Bx.new (w.alloc (.cells #[.bool b, .slice A (len x) c] 24)) #[.bool false, .slice none 0 0] 24; simpa using h
    go_upto_region 3 with fail
    go_region_with (go_at_call 77; refine (clone_any A (len x) c lo (digI x) _ (hs.below (B := w.heap.size) oldA (Nat.le_refl _)) hn).mono ?_; rintro e w2 ⟨A2, c2, rfl, r2, o2⟩; have o2' : Old ((w.alloc (.cells #[.bool b, .slice A (len x) c] 24)).alloc (.cells #[.bool false, .slice none 0 0] 24)) w2 := Below.trans (b := _) oldA o2; have z2 := o2'.size; simp at z2; have C1 := Bx.old B1 o2'; have C2 := Bx.old B2 o2'; have q10 := C1.cell 0 rfl; have q11 := C1.cell 1 rfl; have q1 := C1.lt; have q20 := C2.cell 0 rfl; have q21 := C2.cell 1 rfl; have f20 := C2.frozen 0; have f21 := C2.frozen 1; have q2 := C2.lt)
    all_goals
      go_wp2
      have o3 : Old w w2 := Below.trans (b := _) oldA (Below.mono o2' (by simp <;> omega))
      have r2' : Row w2 (w.heap.size + 1 + 1) A2 (len x) c2 (digI x) := by simpa using r2
      refine bodyPost_ret (v := .agg #[.bool b, .slice A2 (len x) c2]) (by simp [results, Tryz.results102, go_sem, q20, q21]) rfl ⟨RetB.mk' (A := A2) (c := c2) (x := x) (b := b) (by rw [Hb.out]) ?_ rfl, ?_⟩
      · refine Row.more (lo := w.heap.size + 1 + 1) ?_ (by omega)
        repeat' (first | exact r2' | refine Row.far_set ?_ (by simp) _)
      · exact oldA
  · have e : Hid (capN x = 0) := Lib.hid (by rw [capN, if_neg h60])
    rw [e.out]
    go_enter Tryz.func102, Tryz.ntmps102
    go_wp2
    refine bodyPost_ret (v := .agg #[.bool false, .slice none 0 0]) (by simp [results, Tryz.results102, go_sem]) rfl ⟨?_, oldA⟩
    have h0 : signed b 0 = 0 := by cases b <;> rfl
    rw [h0]
    exact RetB.zero rfl
set_option maxRecDepth 100000 in
set_option maxHeartbeats 1000000 in
theorem bigNeg_any (b : Bool) (A : Option Addr) (n c : Nat) (w : World) :
    Calls Tryz.prog 98 #[.agg #[.bool b, .slice A n c]] w fun e w' => e = .returned (.agg #[.bool (!b && decide (0 < n)), .slice A n c]) ∧ Old w w' := by
  go_enter Tryz.func98, Tryz.ntmps98
  go_wp2_with fail
  refine (bigMake_any (!b) A n c _).mono ?_
  rintro e w1 ⟨rfl, o1⟩
  have B2 : Bx w1 (w.heap.size + 1) #[.bool false, .slice none 0 0] := by have h := Bx.old (Bx.new _ _ _) o1; simpa using h
  have o1' : Old w w1 := Below.trans (b := _) oldA (Below.mono o1 (by simp <;> omega))
  clear o1
  have q20 := B2.cell 0 rfl
  have q21 := B2.cell 1 rfl
  have f20 := B2.frozen 0
  have f21 := B2.frozen 1
  have q2 := B2.lt
  go_wp2
  exact bodyPost_ret (v := .agg #[.bool (!b && decide (0 < n)), .slice A n c]) (by simp [results, Tryz.results98, go_sem, q20, q21]) rfl ⟨rfl, oldA⟩
end Go.Proofs.YtgchbbjhdeobpaaGreatDoor

namespace Go.Proofs.YtgchbbjhdeobpaaGreatDoor
set_option linter.unusedVariables false
open Go.RowKit Num

def zBigIntOf (a : Int) : Int := if -9223372036854775808 ≤ a ∧ a ≤ 9223372036854775807 then a else 0
theorem zBigIntOf_yes {a : Int} (b : -9223372036854775808 ≤ a ∧ a ≤ 9223372036854775807) : zBigIntOf a = a := if_pos b
theorem len_min : len 9223372036854775808 = 3 := len_eq (by rw [B_eq]; omega) (fun _ => by rw [B_eq]; omega)
theorem zBigIntOf_len (a : Int) : len (magZ (zBigIntOf a)) ≤ 60 := by
  have h1 : magZ (zBigIntOf a) ≤ 9223372036854775808 := by unfold magZ zBigIntOf; split <;> omega
  have h2 := len_mono h1
  rw [len_min] at h2
  omega
theorem natOf_abs {a : Int} (h : 0 ≤ a ∧ a ≤ 9223372036854775807) : ((rNatOf a : Nat) : Int) = a := by
  unfold rNatOf
  rw [if_pos h.2]
  omega
theorem capN_natOf (a : Int) : capN (rNatOf a) = rNatOf a := capN_self (rNatOf_len a)
theorem min_row (w : World) (lo : Nat) (hl : lo ≤ w.heap.size) : Row (w.alloc (.cells #[.int .i64 854775808, .int .i64 223372036, .int .i64 9] 3)) lo (some ⟨w.heap.size, 0, none⟩) 3 3 (digI 9223372036854775808) := by
  refine ⟨by omega, fun _ => ⟨w.heap.size, 0, rfl, hl, by simp, fun j => World.frozen?_alloc_at _ _ _ _ rfl, fun j hj => ?_⟩⟩
  rw [World.cell?_alloc_at _ _ _ _ rfl]
  have e0 : dig 9223372036854775808 0 = 854775808 := by unfold dig; rw [B_eq]
  have e1 : dig 9223372036854775808 1 = 223372036 := by unfold dig; rw [B_eq]
  have e2 : dig 9223372036854775808 2 = 9 := by unfold dig; rw [B_eq]
  match j, hj with
  | 0, _ => show some _ = some (Value.int .i64 ((dig 9223372036854775808 0 : Nat) : Int)); rw [e0]; rfl
  | 1, _ => show some _ = some (Value.int .i64 ((dig 9223372036854775808 1 : Nat) : Int)); rw [e1]; rfl
  | 2, _ => show some _ = some (Value.int .i64 ((dig 9223372036854775808 2 : Nat) : Int)); rw [e2]; rfl
theorem min_nat : ∃ m : Nat, len m = 3 ∧ (-9223372036854775808 : Int) = signed true m ∧
    ∀ (w : World) (lo : Nat), lo ≤ w.heap.size → Row (w.alloc (.cells #[.int .i64 854775808, .int .i64 223372036, .int .i64 9] 3)) lo (some ⟨w.heap.size, 0, none⟩) 3 3 (digI m) :=
  ⟨9223372036854775808, len_min, by rw [signed, if_pos rfl]; omega, min_row⟩
set_option maxRecDepth 100000 in
set_option maxHeartbeats 1000000 in
theorem spec_BigIntOf (a : Int) (w : World) (b : -9223372036854775808 ≤ a ∧ a ≤ 9223372036854775807) :
    Calls Tryz.prog 97 #[.int .i64 a] w fun e w' => RetB e w' w.heap.size (zBigIntOf a) ∧ Old w w' := by
  by_cases h0 : 0 ≤ a
  · have Hz : Hid (zBigIntOf a = signed false (capN (rNatOf a))) := Lib.hid (by rw [zBigIntOf_yes b, capN_natOf, signed, if_neg (by decide), natOf_abs ⟨h0, b.2⟩])
    have Hl := Lib.hid (rNatOf_len a)
    have hm : (a == -9223372036854775808) = false := by simp; omega
    refine (?_ : Calls Tryz.prog 97 #[.int .i64 a] w fun e w' => RetB e w' w.heap.size (signed false (capN (rNatOf a))) ∧ Old w w').mono fun e w' h => ⟨by rw [Hz.out]; exact h.1, h.2⟩
    go_enter Tryz.func97, Tryz.ntmps97
    go_wp2_with fail
    refine (spec_NatOf (a) _ (by omega)).mono ?_
    rintro e w1 ⟨⟨A1, c1, rfl, r1⟩, o1⟩
    have B2 : Bx w1 w.heap.size #[.bool false, .slice none 0 0] := Bx.old (Bx.new _ _ _) o1
    have o1' : Old w w1 := Below.trans (b := _) oldA (Below.mono o1 (by simp <;> omega))
    have z1 := o1'.size
    clear o1
    have q10 := B2.lt
    go_wp2_with fail
    refine (l03Make_any false A1 _ c1 (rNatOf (a)) _ _ r1 (Nat.le_refl _) (by have := Hl.out; omega)).mono ?_
    rintro e w2 ⟨⟨A2, c2, rfl, r2⟩, o2⟩
    have q1b := B2.lt
    replace B2 := B2.old o2
    have o2' : Old w w2 := Below.trans (b := w1) oldA (Below.mono o2 (by first | omega | (simp <;> omega)))
    have q20 := B2.cell 0 rfl
    have q21 := B2.cell 1 rfl
    have f20 := B2.frozen 0
    have f21 := B2.frozen 1
    have q2 := B2.lt
    have z2 := o2.size
    go_wp2
    refine bodyPost_ret (v := .agg #[.bool (sgnZ (signed false (capN (rNatOf a)))), .slice A2 (len (magZ (signed false (capN (rNatOf a))))) c2]) (by simp [results, Tryz.results97, go_sem, q20, q21]) rfl ⟨⟨A2, c2, rfl, ?_⟩, ?_⟩
    · refine Row.more (lo := w1.heap.size) ?_ (by first | omega | (simp <;> omega))
      repeat' (first | exact r2 | refine Row.far_set ?_ (by first | (simp <;> done) | (simp; omega) | omega) _)
    · exact oldA
  · by_cases h1 : a = -9223372036854775808
    · obtain ⟨m, hl, hz, hrow⟩ := min_nat
      have Hz : Hid (zBigIntOf a = signed true (capN m)) := Lib.hid (by rw [zBigIntOf_yes b, h1, capN_self (by omega)]; exact hz)
      have Hrow := Lib.hid hrow
      clear hrow hz
      subst h1
      refine (?_ : Calls Tryz.prog 97 #[.int .i64 (-9223372036854775808)] w fun e w' => RetB e w' w.heap.size (signed true (capN m)) ∧ Old w w').mono fun e w' h => ⟨by rw [Hz.out]; exact h.1, h.2⟩
      go_enter Tryz.func97, Tryz.ntmps97
      have R0 : Row ((w.alloc (.cells #[.bool false, .slice none 0 0] 24)).alloc (.cells #[.int .i64 854775808, .int .i64 223372036, .int .i64 9] 3)) w.heap.size (some ⟨w.heap.size + 1, 0, none⟩) 3 3 (digI m) := by have h := Hrow.out (w.alloc (.cells #[.bool false, .slice none 0 0] 24)) w.heap.size (by simp); simpa using h
      have hl3 : len m ≤ 3 := by omega
      go_wp2_with fail
      refine (l03Make_any true (some ⟨w.heap.size + 1, 0, none⟩) 3 3 m w.heap.size _ R0 hl3 (by omega)).mono ?_
      rintro e w2 ⟨⟨A2, c2, rfl, r2⟩, o2⟩
      have B2 : Bx w2 w.heap.size #[.bool false, .slice none 0 0] := Bx.old (Bx.alloc (Bx.new _ _ _) _) o2
      have o2' : Old w w2 := Below.trans (b := _) oldA (Below.mono o2 (by first | omega | (simp <;> omega)))
      have r2' : NatS w2 (w.heap.size + 1 + 1) A2 c2 (magZ (signed true (capN m))) := by simpa using r2
      have q20 := B2.cell 0 rfl
      have q21 := B2.cell 1 rfl
      have f20 := B2.frozen 0
      have f21 := B2.frozen 1
      have q2 := B2.lt
      have z2 := o2'.size
      go_wp2
      refine bodyPost_ret (v := .agg #[.bool (sgnZ (signed true (capN m))), .slice A2 (len (magZ (signed true (capN m)))) c2]) (by simp [results, Tryz.results97, go_sem, q20, q21]) rfl ⟨⟨A2, c2, rfl, ?_⟩, ?_⟩
      · refine Row.more (lo := w.heap.size + 1 + 1) ?_ (by omega)
        repeat' (first | exact r2' | refine Row.far_set ?_ (by first | (simp <;> done) | (simp; omega) | omega) _)
      · exact oldA
    · have Hz : Hid (zBigIntOf a = signed true (capN (rNatOf (-a)))) := Lib.hid (by rw [zBigIntOf_yes b, capN_natOf, signed, if_pos rfl, natOf_abs (by omega)]; omega)
      have Hl := Lib.hid (rNatOf_len (-a))
      have hm : (a == -9223372036854775808) = false := by simp; omega
      refine (?_ : Calls Tryz.prog 97 #[.int .i64 a] w fun e w' => RetB e w' w.heap.size (signed true (capN (rNatOf (-a)))) ∧ Old w w').mono fun e w' h => ⟨by rw [Hz.out]; exact h.1, h.2⟩
      go_enter Tryz.func97, Tryz.ntmps97
      go_wp2_with fail
      refine (spec_NatOf (-a) _ (by omega)).mono ?_
      rintro e w1 ⟨⟨A1, c1, rfl, r1⟩, o1⟩
      have B2 : Bx w1 w.heap.size #[.bool false, .slice none 0 0] := Bx.old (Bx.new _ _ _) o1
      have o1' : Old w w1 := Below.trans (b := _) oldA (Below.mono o1 (by simp <;> omega))
      have z1 := o1'.size
      clear o1
      have q10 := B2.lt
      go_wp2_with fail
      refine (l03Make_any true A1 _ c1 (rNatOf (-a)) _ _ r1 (Nat.le_refl _) (by have := Hl.out; omega)).mono ?_
      rintro e w2 ⟨⟨A2, c2, rfl, r2⟩, o2⟩
      have q1b := B2.lt
      replace B2 := B2.old o2
      have o2' : Old w w2 := Below.trans (b := w1) oldA (Below.mono o2 (by first | omega | (simp <;> omega)))
      have q20 := B2.cell 0 rfl
      have q21 := B2.cell 1 rfl
      have f20 := B2.frozen 0
      have f21 := B2.frozen 1
      have q2 := B2.lt
      have z2 := o2.size
      go_wp2
      refine bodyPost_ret (v := .agg #[.bool (sgnZ (signed true (capN (rNatOf (-a))))), .slice A2 (len (magZ (signed true (capN (rNatOf (-a)))))) c2]) (by simp [results, Tryz.results97, go_sem, q20, q21]) rfl ⟨⟨A2, c2, rfl, ?_⟩, ?_⟩
      · refine Row.more (lo := w1.heap.size) ?_ (by first | omega | (simp <;> omega))
        repeat' (first | exact r2 | refine Row.far_set ?_ (by first | (simp <;> done) | (simp; omega) | omega) _)
      · exact oldA
end Go.Proofs.YtgchbbjhdeobpaaGreatDoor
