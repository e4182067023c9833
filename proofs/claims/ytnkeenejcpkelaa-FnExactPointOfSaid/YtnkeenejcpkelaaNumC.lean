/-
  Plain facts on natural numbers in base 1000000000, continued: the first guess of a quotient's digit by the highest digits. No program is mentioned here.
-/
import Derived.Test.YtnkeenejcpkelaaNumB
namespace Go.Proofs.Ytnkeenejcpkelaa.Num
set_option linter.unusedVariables false

/-- The three digits of a from place m down, as a number. -/
def top3 (a m : Nat) : Nat := dig a m * B * B + dig a (m - 1) * B + dig a (m - 2)
def top2 (b m : Nat) : Nat := dig b (m - 1) * B + dig b (m - 2)
theorem top3_eq {a m : Nat} (hm : 2 ≤ m) (h : a < B ^ (m + 1)) : top3 a m = a / B ^ (m - 2) := by
  have h1 := div_pow_succ a (m - 2)
  have h2 := div_pow_succ a (m - 1)
  have h3 : a / B ^ m < B := by rw [Nat.div_lt_iff_lt_mul (pow_pos m), ← pow_succ']; exact h
  have h4 : dig a m = a / B ^ m := Nat.mod_eq_of_lt h3
  rw [show m - 2 + 1 = m - 1 by omega] at h1
  rw [show m - 1 + 1 = m by omega] at h2
  unfold top3
  rw [h4, h1, h2, Nat.mul_add, Nat.mul_comm B (B * _), Nat.mul_comm B (a / B ^ m), Nat.mul_comm B (dig a (m - 1))]
theorem top2_eq {b m : Nat} (hm : 2 ≤ m) (h : b < B ^ m) : top2 b m = b / B ^ (m - 2) := by
  have h1 := div_pow_succ b (m - 2)
  rw [show m - 2 + 1 = m - 1 by omega] at h1
  have h3 : b / B ^ (m - 1) < B := by
    rw [Nat.div_lt_iff_lt_mul (pow_pos _), ← pow_succ', show m - 1 + 1 = m by omega]; exact h
  have h4 : dig b (m - 1) = b / B ^ (m - 1) := Nat.mod_eq_of_lt h3
  unfold top2
  rw [h4, h1, Nat.mul_comm B]
theorem top2_ge {b m : Nat} (hm : 2 ≤ m) (hb : len b = m) : B ≤ top2 b m := by
  have h1 := lt_len b
  rw [hb] at h1
  have h2 := len_le_of b (by omega)
  rw [hb] at h2
  rw [top2_eq hm h1, Nat.le_div_iff_mul_le (pow_pos _), ← pow_succ', show m - 2 + 1 = m - 1 by omega]
  exact h2
theorem quo_lt_B {a b : Nat} (hlt : a < b * B) : a / b < B := Nat.div_lt_of_lt_mul hlt
theorem top_bounds {a b m : Nat} (hm : 2 ≤ m) (hb : len b = m) (hlt : a < b * B) :
    a / b * top2 b m ≤ top3 a m ∧ top3 a m < (a / b + 2) * top2 b m := by
  have hb1 := lt_len b
  rw [hb] at hb1
  have hD := top2_ge hm hb
  have ha : a < B ^ (m + 1) := by
    rw [Nat.pow_succ]; exact Nat.lt_of_lt_of_le hlt (Nat.mul_le_mul_right B (Nat.le_of_lt hb1))
  have hq := quo_lt_B hlt
  have e3 := top3_eq hm ha
  have e2 := top2_eq hm hb1
  have hb0 : 0 < b := by
    rcases Nat.eq_zero_or_pos b with h | h
    · subst h; simp at hlt
    · exact h
  have hP := pow_pos (m - 2)
  have d1 := Nat.div_add_mod a b
  have d2 := Nat.mod_lt a hb0
  have f1 := Nat.div_mul_le_self b (B ^ (m - 2))
  have f2 := Nat.lt_mul_div_succ b hP
  have f3 := Nat.div_mul_le_self a (B ^ (m - 2))
  rw [← e2] at f1 f2
  rw [← e3] at f3
  generalize hqq : a / b = q at *
  generalize B ^ (m - 2) = P at *
  generalize top2 b m = d at *
  constructor
  · rw [e3, Nat.le_div_iff_mul_le hP, Nat.mul_assoc]
    have := Nat.mul_le_mul_left q f1
    rw [Nat.mul_comm q b] at this
    omega
  · have g1 : top3 a m * P < (q + 1) * (d + 1) * P := by
      have : a < b * (q + 1) := by rw [Nat.mul_add]; omega
      have h2 : b * (q + 1) ≤ P * (d + 1) * (q + 1) := Nat.mul_le_mul_right _ (Nat.le_of_lt f2)
      have h3 : P * (d + 1) * (q + 1) = (q + 1) * (d + 1) * P := by rw [Nat.mul_comm P, Nat.mul_right_comm, Nat.mul_comm (d + 1)]
      omega
    have g2 := Nat.lt_of_mul_lt_mul_right g1
    have e : (q + 1) * (d + 1) = q * d + d + q + 1 := by rw [Nat.add_mul, Nat.mul_add]; omega
    have e' : (q + 2) * d = q * d + 2 * d := Nat.add_mul _ _ _
    omega
theorem guess_near {a b m g : Nat} (hm : 2 ≤ m) (hb : len b = m) (hlt : a < b * B) (h1 : g * top2 b m ≤ top3 a m + top2 b m) (h2 : top3 a m ≤ (g + 2) * top2 b m) :
    g ≤ a / b + 2 ∧ a / b ≤ g + 2 := by
  obtain ⟨b1, b2⟩ := top_bounds hm hb hlt
  have hD := top2_ge hm hb
  have hp := B_pos
  constructor
  · have e : (a / b + 3) * top2 b m = (a / b + 2) * top2 b m + top2 b m := by rw [← Nat.succ_mul]
    have : g * top2 b m < (a / b + 3) * top2 b m := by omega
    have := Nat.lt_of_mul_lt_mul_right this
    omega
  · exact Nat.le_of_mul_le_mul_right (Nat.le_trans b1 h2) (by omega)
theorem top3_small (a m : Nat) : top3 a m < 2 ^ 200 := by
  have h1 := dig_le a m
  have h2 := dig_le a (m - 1)
  have h3 := dig_le a (m - 2)
  unfold top3
  simp only [B_eq]
  omega
theorem top2_small (a m : Nat) : top2 a m < 2 ^ 200 := by
  have h2 := dig_le a (m - 1)
  have h3 := dig_le a (m - 2)
  unfold top2
  simp only [B_eq]
  omega
theorem top3_lt {a b m : Nat} (hm : 2 ≤ m) (hb : len b = m) (hlt : a < b * B) : top3 a m < 2147483648 * top2 b m := by
  obtain ⟨_, b2⟩ := top_bounds hm hb hlt
  have hq := quo_lt_B hlt
  have : (a / b + 2) * top2 b m ≤ 2147483648 * top2 b m := Nat.mul_le_mul_right _ (by rw [B_eq] at hq; omega)
  omega
theorem top3_pos {a b m : Nat} (hm : 2 ≤ m) (hb : len b = m) (hlt : a < b * B) (hle : b ≤ a) : 0 < top3 a m := by
  obtain ⟨b1, _⟩ := top_bounds hm hb hlt
  have hD := top2_ge hm hb
  have hp := B_pos
  have hb0 : 0 < b := by
    rcases Nat.eq_zero_or_pos b with h | h
    · subst h; simp at hlt
    · exact h
  have hq : 1 ≤ a / b := (Nat.le_div_iff_mul_le hb0).2 (by omega)
  have := Nat.mul_le_mul_right (top2 b m) hq
  omega
end Go.Proofs.Ytnkeenejcpkelaa.Num
