import Derived.Test.YtgchbbjhdeobpaaBigNeg
import Derived.Test.YtgchbbjhdeobpaaNatA
/-
  Big integers out of ints and into ints: both BigIntOf's, both BigIntToInt's.
-/
namespace Go.Proofs.Ytgchbbjhdeobpaa
set_option linter.unusedVariables false
open Go.RowKit Num

def zBigIntOf (a : Int) : Int := if -9223372036854775808 ≤ a ∧ a ≤ 9223372036854775807 then a else 0
theorem zBigIntOf_yes {a : Int} (b : -9223372036854775808 ≤ a ∧ a ≤ 9223372036854775807) : zBigIntOf a = a := if_pos b
theorem len_min : len 9223372036854775808 = 3 := len_eq (by rw [B_eq]; omega) (fun _ => by rw [B_eq]; omega)
theorem zBigIntOf_len (a : Int) : len (magZ (zBigIntOf a)) ≤ 60 := by
  have h1 : magZ (zBigIntOf a) ≤ 9223372036854775808 := by unfold magZ zBigIntOf; split <;> omega
  have h2 := len_mono h1
  rw [len_min] at h2
  omega
theorem natOf_abs {a : Int} (h : 0 ≤ a ∧ a ≤ 9223372036854775807) : ((rNatOf a : Nat) : Int) = a := by
  unfold rNatOf
  rw [if_pos h.2]
  omega
theorem capN_natOf (a : Int) : capN (rNatOf a) = rNatOf a := capN_self (rNatOf_len a)
theorem min_row (w : World) (lo : Nat) (hl : lo ≤ w.heap.size) : Row (w.alloc (.cells #[.int .i64 854775808, .int .i64 223372036, .int .i64 9] 3)) lo (some ⟨w.heap.size, 0, none⟩) 3 3 (digI 9223372036854775808) := by
  refine ⟨by omega, fun _ => ⟨w.heap.size, 0, rfl, hl, by simp, fun j => World.frozen?_alloc_at _ _ _ _ rfl, fun j hj => ?_⟩⟩
  rw [World.cell?_alloc_at _ _ _ _ rfl]
  have e0 : dig 9223372036854775808 0 = 854775808 := by unfold dig; rw [B_eq]
  have e1 : dig 9223372036854775808 1 = 223372036 := by unfold dig; rw [B_eq]
  have e2 : dig 9223372036854775808 2 = 9 := by unfold dig; rw [B_eq]
  match j, hj with
  | 0, _ => show some _ = some (Value.int .i64 ((dig 9223372036854775808 0 : Nat) : Int)); rw [e0]; rfl
  | 1, _ => show some _ = some (Value.int .i64 ((dig 9223372036854775808 1 : Nat) : Int)); rw [e1]; rfl
  | 2, _ => show some _ = some (Value.int .i64 ((dig 9223372036854775808 2 : Nat) : Int)); rw [e2]; rfl
theorem min_nat : ∃ m : Nat, len m = 3 ∧ (-9223372036854775808 : Int) = signed true m ∧
    ∀ (w : World) (lo : Nat), lo ≤ w.heap.size → Row (w.alloc (.cells #[.int .i64 854775808, .int .i64 223372036, .int .i64 9] 3)) lo (some ⟨w.heap.size, 0, none⟩) 3 3 (digI m) :=
  ⟨9223372036854775808, len_min, by rw [signed, if_pos rfl]; omega, min_row⟩
end Go.Proofs.Ytgchbbjhdeobpaa
