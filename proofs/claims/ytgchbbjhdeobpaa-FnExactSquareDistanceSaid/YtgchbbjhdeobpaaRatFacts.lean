import Derived.Test.YtgchbbjhdeobpaaRatMakeI
/-
  Plain facts on the products in a quotient.
-/
namespace Go.Proofs.Ytgchbbjhdeobpaa
set_option linter.unusedVariables false
open Go.RowKit Num
attribute [local go_sem ↓] Go.wp_at_zero Go.wp_at_succ
theorem bxAt {w : World} {g : Nat} {cs : Array Value} (_ : Bx w g cs) (w' : World) (h : Bx w' g cs) : Bx w' g cs := h
theorem sgn_mul_pos {z : Int} {d : Nat} (h : 0 < d) : sgnZ (z * (d : Int)) = sgnZ z := by
  rw [← signed_mul_nat, sgn_signed]
  by_cases hs : sgnZ z = true
  · rw [hs, decide_eq_true (Nat.mul_pos (sgn_pos hs) h)]; rfl
  · rw [show sgnZ z = false by simpa using hs]; rfl
theorem div_val {z1 z2 M : Int} {d1 d2 : Nat} (h : 0 < d2) (hM : M = z1 * (d2 : Int)) : divF (z1, d1) (z2, d2) = mkF (signed (sgnZ M != sgnZ z2) (magZ M)) (d1 * magZ z2) := by
  subst hM
  rw [sgn_mul_pos h, mul_mag]; rfl
theorem zero_len_beq {x : Nat} (h : x = 0) : (((len x : Nat) : Int) == 0) = true := by rw [h, len_zero]; rfl
theorem mul_len2 {z : Int} {d : Nat} (h1 : len (magZ z) ≤ 24) (h2 : len d ≤ 24) : len (magZ (z * (d : Int))) ≤ 48 := by rw [mul_mag]; exact mul_fit h1 h2
end Go.Proofs.Ytgchbbjhdeobpaa
