import Derived.Test.YtgchbbjhdeobpaaGreatDoorBigMake
import Derived.Test.YtgchbbjhdeobpaaGreatDoorNatDiv3
/-
  The quotient of a big integer by a natural number, rounded down, and the remainder: both BigIntFloorDiv's.
-/
namespace Go.Proofs.YtgchbbjhdeobpaaGreatDoor
set_option linter.unusedVariables false
open Go.RowKit Num
attribute [local go_sem ↓] Go.wp_at_zero Go.wp_at_succ
/-- The quotient of b's number x by y, rounded down. -/
def zFlo (b : Bool) (x y : Nat) : Int := if b && decide (0 < x % y) then -((x / y + 1 : Nat) : Int) else signed b (x / y)
def rFlo (b : Bool) (x y : Nat) : Nat := if b && decide (0 < x % y) then y - x % y else x % y
theorem flo_p {x y : Nat} (h : 0 < x % y) : zFlo true x y = signed true (x / y + 1) ∧ rFlo true x y = y - x % y := by simp [zFlo, rFlo, h, signed]
theorem flo_q {b : Bool} {x y : Nat} (h : ¬ (b = true ∧ 0 < x % y)) : zFlo b x y = signed b (x / y) ∧ rFlo b x y = x % y := by
  have e : (b && decide (0 < x % y)) = false := by cases b <;> simp at * <;> omega
  unfold zFlo rFlo
  rw [e]
  exact ⟨rfl, rfl⟩
theorem succ_quo_len {x y : Nat} (hx : len x ≤ 60) (hy : 0 < y) (h : 0 < x % y) : len (x / y + 1) ≤ 60 := by
  apply len_le_iff.2
  have h1 := len_le_iff.1 hx
  have h2 := Nat.div_add_mod x y
  have h3 := Nat.mod_lt x hy
  have h4 : 2 * (x / y) ≤ y * (x / y) := Nat.mul_le_mul_right _ (by omega)
  omega
def RetBN (e : Ending) (w : World) (lo : Nat) (z : Int) (r : Nat) : Prop := ∃ A1 c1 A2 c2, e = .returned (.tuple #[.agg #[.bool (sgnZ z), .slice A1 (len (magZ z)) c1], .slice A2 (len r) c2]) ∧ NatS w lo A1 c1 (magZ z) ∧ NatS w lo A2 c2 r
def RetBNA (e : Ending) (w : World) (lo : Nat) (z : Int) (r : Nat) : Prop := ∃ A1 c1 A2 c2, e = .returned (.tuple #[.agg #[.bool (sgnZ z), .slice A1 (len (magZ z)) c1], .slice A2 (len r) c2]) ∧ NatS w lo A1 c1 (magZ z) ∧ NatS w lo A2 c2 r ∧ Apart A1 (len (magZ z)) A2 (len r)
theorem nil_apart : Apart none (len (magZ 0)) none (len 0) := fun a a' h => by rw [show magZ 0 = 0 from rfl, len_zero] at h; omega
theorem len_1 : len 1 = 1 := len_eq (by rw [Nat.pow_one, B_eq]; omega) (fun _ => by rw [Nat.sub_self, Nat.pow_zero]; omega)
theorem one_row' (w : World) : Row (w.alloc (.cells #[.int .i64 1] 3)) 0 (some ⟨w.heap.size, 0, none⟩) 1 1 (digI 1) := by
  refine ⟨by omega, fun _ => ⟨w.heap.size, 0, rfl, Nat.zero_le _, by simp, fun j => World.frozen?_alloc_at _ _ _ _ rfl, fun j hj => ?_⟩⟩
  rw [World.cell?_alloc_at _ _ _ _ rfl]
  obtain rfl : j = 0 := by omega
  have e : dig 1 0 = 1 := by unfold dig; rw [Nat.pow_zero, Nat.div_one, Nat.mod_eq_of_lt B_gt]
  unfold digI
  rw [e]
  rfl

open Classical in
def floP (b : Bool) (n : Nat) (f : Nat → Int) (m : Nat) (g : Nat → Int) : Prop := okB b n f ∧ okP m g ∧ 0 < m
open Classical in
noncomputable def zBigIntFloorDiv0 (b : Bool) (n : Nat) (f : Nat → Int) (m : Nat) (g : Nat → Int) : Int := if floP b n f m g then zFlo b (natX n f) (natX m g) else 0
open Classical in
noncomputable def rBigIntFloorDiv1 (b : Bool) (n : Nat) (f : Nat → Int) (m : Nat) (g : Nat → Int) : Nat := if floP b n f m g then rFlo b (natX n f) (natX m g) else 0
theorem flo_yes {b : Bool} {n m : Nat} {f g : Nat → Int} (k : floP b n f m g) : zBigIntFloorDiv0 b n f m g = zFlo b (natX n f) (natX m g) ∧ rBigIntFloorDiv1 b n f m g = rFlo b (natX n f) (natX m g) := ⟨if_pos k, if_pos k⟩
theorem flo_no {b : Bool} {n m : Nat} {f g : Nat → Int} (k : ¬ floP b n f m g) : zBigIntFloorDiv0 b n f m g = 0 ∧ rBigIntFloorDiv1 b n f m g = 0 := ⟨if_neg k, if_neg k⟩
theorem zBigIntFloorDiv0_len (b : Bool) (n : Nat) (f : Nat → Int) (m : Nat) (g : Nat → Int) : len (magZ (zBigIntFloorDiv0 b n f m g)) ≤ 60 := by
  by_cases k : floP b n f m g
  · rw [(flo_yes k).1]
    have hx := natX_len k.1.1
    have hy : 0 < natX m g := by have h1 := natX_spec k.2.1; have := k.2.2; exact pos_len (by omega)
    by_cases h : b = true ∧ 0 < natX n f % natX m g
    · obtain ⟨hb, h⟩ := h
      subst hb
      rw [(flo_p h).1, mag_signed]
      exact succ_quo_len hx hy h
    · rw [(flo_q h).1, mag_signed]
      have := div_len (natX n f) (natX m g)
      omega
  · rw [(flo_no k).1]
    have : len (magZ 0) = 0 := len_zero
    omega
theorem rBigIntFloorDiv1_len (b : Bool) (n : Nat) (f : Nat → Int) (m : Nat) (g : Nat → Int) : len (rBigIntFloorDiv1 b n f m g) ≤ 60 := by
  by_cases k : floP b n f m g
  · rw [(flo_yes k).2]
    have hy := natX_len k.2.1
    have hx := natX_len k.1.1
    have h1 := len_mono (Nat.sub_le (natX m g) (natX n f % natX m g))
    have h2 := len_mono (Nat.mod_le (natX n f) (natX m g))
    unfold rFlo; split <;> omega
  · rw [(flo_no k).2, len_zero]; omega
end Go.Proofs.YtgchbbjhdeobpaaGreatDoor
