import Derived.Test.YtgchbbjhdeobpaaDoorNatDiv
import Derived.Test.YtgchbbjhdeobpaaDoorCons
import Derived.Test.YtgchbbjhdeobpaaDoorArgs
/-
  The reference's long quotient.
-/
namespace Go.Proofs.YtgchbbjhdeobpaaDoor
set_option linter.unusedVariables false
open Go.RowKit Num

theorem long_facts {a b k q : Nat} (hb : 0 < b) (hk : 0 < k) (hq : q = a / B ^ k % b) : (B * q + dig a (k - 1)) / b = dig (a / b) (k - 1) ∧ (B * q + dig a (k - 1)) % b = a / B ^ (k - 1) % b ∧ (B * q + dig a (k - 1)) / b ≤ 999999999 ∧ B * q + dig a (k - 1) < b * B := by
  have h1 := long_dig (x := a) (y := b) (k - 1) hb
  have h2 := long_rest a b (k - 1)
  have h3 := long_lt (x := a) (y := b) (k - 1) hb
  rw [show k - 1 + 1 = k by omega, ← hq] at h1 h2 h3
  exact ⟨h1, h2.symm, by rw [h1]; exact dig_le _ _, h3⟩
theorem one_digit {b : Nat} (h : len b = 1) : dig b 0 = b ∧ b ≤ 999999999 ∧ 0 < b := by
  have h1 := lt_len b
  rw [h, Nat.pow_one] at h1
  refine ⟨?_, by rw [B_eq] at h1; omega, Nat.pos_of_ne_zero fun e => by rw [e, len_zero] at h; omega⟩
  unfold dig
  rw [Nat.pow_zero, Nat.div_one, Nat.mod_eq_of_lt h1]
theorem sub_mul_mod (r b : Nat) : r - b * (r / b) = r % b := long_mod
theorem RetQ.to {e : Ending} {w : World} {lo q r q' r' : Nat} (h : RetQ e w lo q r) (hq : q = q') (hr : r = r') : RetQ e w lo q' r' := by subst hq hr; exact h
end Go.Proofs.YtgchbbjhdeobpaaDoor
