/-
  Plain facts on natural numbers in base 1000000000, continued: lists of digits that are written in place, the loop of a product, the search for a digit of a quotient. No program is mentioned here.
-/
import Derived.Test.YtnkeenejcpkelaaNum
namespace Go.Proofs.Ytnkeenejcpkelaa.Num
set_option linter.unusedVariables false

theorem getD_set (l : List Nat) (j i v : Nat) (h : j < l.length) : (l.set j v).getD i 0 = if i = j then v else l.getD i 0 := by
  simp only [List.getD_eq_getElem?_getD, List.getElem?_set]
  by_cases e : j = i
  · subst e; simp [h]
  · rw [if_neg e, if_neg (fun h' => e h'.symm)]
theorem val_set : ∀ (l : List Nat) (j v : Nat), j < l.length → val (l.set j v) + B ^ j * l.getD j 0 = val l + B ^ j * v
  | [], j, v, h => by simp at h
  | d :: l, 0, v, _ => by simp [val]; omega
  | d :: l, j + 1, v, h => by
    have ih := val_set l j v (by simpa using h)
    have e : B * (val (l.set j v) + B ^ j * l.getD j 0) = B * (val l + B ^ j * v) := by rw [ih]
    simp only [List.set_cons_succ, val, List.getD_cons_succ, pow_succ', Nat.mul_assoc]
    simp only [Nat.mul_add] at e
    omega
theorem set_lt {l : List Nat} (h : ∀ d ∈ l, d < B) (j v : Nat) (hv : v < B) : ∀ d ∈ l.set j v, d < B := by
  intro d hd
  rcases List.mem_or_eq_of_mem_set hd with h' | h'
  · exact h d h'
  · omega
theorem getD_lt {l : List Nat} (h : ∀ d ∈ l, d < B) (j : Nat) : l.getD j 0 < B := by
  rw [List.getD_eq_getElem?_getD]
  cases e : l[j]? with
  | none => exact B_pos
  | some d => simpa using h d (List.mem_of_getElem? e)
theorem val_zeros (k : Nat) : val (List.replicate k 0) = 0 := by
  induction k with
  | zero => rfl
  | succ k ih => simp [List.replicate_succ, val, ih]
theorem zeros_lt (k : Nat) : ∀ d ∈ List.replicate k 0, d < B := by
  intro d hd
  rw [List.eq_of_mem_replicate hd]
  exact B_pos

/-! the loop of a product -/
/-- What the inner loop of a product holds after k rounds, at digit i of x: o is the row, c the carry. -/
structure MulIn (x y i k : Nat) (o : List Nat) (c : Nat) : Prop where
  lt : ∀ d ∈ o, d < B
  cl : c < B
  eq : val o + B ^ (i + k) * c = x % B ^ i * y + B ^ i * (dig x i * (y % B ^ k))
  zero : k ≤ len y → ∀ j, i + len y ≤ j → o.getD j 0 = 0
theorem mulIn_start {x y i : Nat} {o : List Nat} (hlt : ∀ d ∈ o, d < B) (hv : val o = x % B ^ i * y) : MulIn x y i 0 o 0 := by
  refine ⟨hlt, B_pos, by simp [hv, Nat.mod_one], fun _ j hj => ?_⟩
  have e := low_of_list o hlt
  by_cases hjl : j < o.length
  · rw [e, low_getD _ _ _ hjl, hv]
    apply dig_big
    have h1 : x % B ^ i < B ^ i := Nat.mod_lt _ (pow_pos i)
    have h2 := lt_len y
    have h3 : x % B ^ i * y < B ^ i * B ^ len y := by
      by_cases hy : y = 0
      · subst hy; simp; exact Nat.mul_pos (pow_pos _) (pow_pos _)
      · exact Nat.mul_lt_mul'' h1 h2
    rw [← Nat.pow_add] at h3
    exact Nat.lt_of_lt_of_le h3 (pow_le hj)
  · rw [List.getD_eq_getElem?_getD, List.getElem?_eq_none (by omega)]; rfl
theorem mul_bound {a d e c : Nat} (ha : a < B) (hd : d < B) (he : e < B) (hc : c < B) : a + d * e + c < B * B := by
  have : d * e ≤ 999999999 * 999999999 := Nat.mul_le_mul (by simp only [B_eq] at hd; omega) (by simp only [B_eq] at he; omega)
  simp only [B_eq] at *
  omega
theorem mulIn_step {x y i k : Nat} {o : List Nat} {c : Nat} (h : MulIn x y i k o c) (hj : i + k < o.length) :
    MulIn x y i (k + 1) (o.set (i + k) ((o.getD (i + k) 0 + dig x i * dig y k + c) % B)) ((o.getD (i + k) 0 + dig x i * dig y k + c) / B) := by
  have hb := mul_bound (getD_lt h.lt (i + k)) (dig_lt x i) (dig_lt y k) h.cl
  generalize hn : o.getD (i + k) 0 + dig x i * dig y k + c = n at hb
  have hdm := Nat.div_add_mod n B
  refine ⟨set_lt h.lt _ _ (Nat.mod_lt _ B_pos), (Nat.div_lt_iff_lt_mul B_pos).2 hb, ?_, fun hk j hjl => ?_⟩
  · have hs := val_set o (i + k) (n % B) hj
    have he := h.eq
    have e1 : B ^ (i + (k + 1)) * (n / B) = B ^ (i + k) * (B * (n / B)) := by rw [← Nat.add_assoc, Nat.pow_succ, Nat.mul_assoc]
    have e2 : B ^ (i + k) * n = B ^ (i + k) * (B * (n / B)) + B ^ (i + k) * (n % B) := by rw [← Nat.mul_add, hdm]
    have e3 : B ^ (i + k) * n = B ^ (i + k) * o.getD (i + k) 0 + B ^ (i + k) * (dig x i * dig y k) + B ^ (i + k) * c := by rw [← hn, Nat.mul_add, Nat.mul_add]
    have e4 : B ^ i * (dig x i * (y % B ^ (k + 1))) = B ^ i * (dig x i * (y % B ^ k)) + B ^ (i + k) * (dig x i * dig y k) := by
      rw [mod_pow_succ, Nat.mul_add, Nat.mul_add, Nat.pow_add]
      congr 1
      rw [Nat.mul_assoc (B ^ i) (B ^ k), Nat.mul_left_comm (dig x i)]
    rw [e1, e4]
    omega
  · rw [getD_set _ _ _ _ hj, if_neg (by omega)]
    exact h.zero (by omega) j hjl
theorem mulIn_at_len {x y i : Nat} {o : List Nat} {c : Nat} (h : MulIn x y i (len y) o c) :
    ∀ d ∈ o.set (i + len y) c, d < B := set_lt h.lt _ _ h.cl
theorem mulIn_val {x y i : Nat} {o : List Nat} {c : Nat} (h : MulIn x y i (len y) o c) (hj : i + len y < o.length) :
    val (o.set (i + len y) c) = x % B ^ (i + 1) * y := by
  have hs := val_set o (i + len y) c hj
  have hz := h.zero (Nat.le_refl _) (i + len y) (Nat.le_refl _)
  have he := h.eq
  rw [hz, Nat.mul_zero, Nat.add_zero] at hs
  rw [hs, he, Nat.mod_eq_of_lt (lt_len y), mod_pow_succ, Nat.add_mul, Nat.mul_assoc]
theorem mulIn_done {x y i : Nat} {o : List Nat} (h : MulIn x y i (len y) o 0) : val o = x % B ^ (i + 1) * y := by
  have he := h.eq
  rw [Nat.mul_zero, Nat.add_zero] at he
  rw [he, Nat.mod_eq_of_lt (lt_len y), mod_pow_succ, Nat.add_mul, Nat.mul_assoc]
/-- At the round behind y's last digit only the carry is left. -/
theorem mulIn_last {x y i : Nat} {o : List Nat} {c : Nat} (h : MulIn x y i (len y) o c) :
    (o.getD (i + len y) 0 + dig x i * dig y (len y) + c) % B = c ∧ (o.getD (i + len y) 0 + dig x i * dig y (len y) + c) / B = 0 := by
  rw [h.zero (Nat.le_refl _) _ (Nat.le_refl _), dig_of_len (Nat.le_refl _), Nat.mul_zero]
  simp only [Nat.zero_add]
  exact ⟨Nat.mod_eq_of_lt h.cl, Nat.div_eq_of_lt h.cl⟩
theorem mul_whole {x y : Nat} {o : List Nat} (hlt : ∀ d ∈ o, d < B) (hv : val o = x % B ^ len x * y) (hl : o.length = len x + len y) : o = low (len x + len y) (x * y) ∧ x * y < B ^ (len x + len y) := by
  rw [Nat.mod_eq_of_lt (lt_len x)] at hv
  have e := low_of_list o hlt
  have h := val_lt hlt
  rw [hv, hl] at e h
  exact ⟨e, h⟩
theorem mul_len_le (x y : Nat) : len (x * y) ≤ len x + len y := by
  apply len_le_iff.2
  rw [Nat.pow_add]
  by_cases hx : x = 0
  · subst hx; simp; exact Nat.mul_pos (pow_pos _) (pow_pos _)
  · by_cases hy : y = 0
    · subst hy; simp; exact Nat.mul_pos (pow_pos _) (pow_pos _)
    · exact Nat.mul_lt_mul'' (lt_len x) (lt_len y)
theorem add_len_le (x y : Nat) : len (x + y) ≤ max (len x) (len y) + 1 := by
  apply len_le_iff.2
  have h1 := Nat.lt_of_lt_of_le (lt_len x) (pow_le (Nat.le_max_left (len x) (len y)))
  have h2 := Nat.lt_of_lt_of_le (lt_len y) (pow_le (Nat.le_max_right (len x) (len y)))
  rw [pow_succ']
  simp only [B_eq] at *
  omega

/-! cutting zeros off -/
theorem low_take {k l n : Nat} (h : k ≤ l) : (low l n).take k = low k n := by
  simp only [low, ← List.map_take, List.take_range, Nat.min_eq_left h]
/-- One digit set below a number. -/
theorem cons_low (d r : Nat) (h : d < B) : d :: digs r = low (len r + 1) (B * r + d) := by
  have hl : ∀ x ∈ d :: digs r, x < B := by
    intro x hx
    rcases List.mem_cons.1 hx with e | e
    · omega
    · unfold digs low at e
      obtain ⟨i, _, rfl⟩ := List.mem_map.1 e
      exact dig_lt _ _
  have e := low_of_list (d :: digs r) hl
  simp only [List.length_cons, digs_length, val, val_digs] at e
  rw [e]
  congr 1
  omega
theorem cons_lt (d r : Nat) (h : d < B) : B * r + d < B ^ (len r + 1) := by
  have := lt_len r
  have h1 : B * (r + 1) ≤ B * B ^ len r := Nat.mul_le_mul_left B this
  rw [pow_succ']
  rw [Nat.mul_add] at h1
  omega

/-! the loop of a long quotient -/
theorem long_rest (x y i : Nat) : (x / B ^ i) % y = (B * ((x / B ^ (i + 1)) % y) + dig x i) % y := by
  rw [div_pow_succ x i, Nat.add_mod, Nat.mul_mod, Nat.add_mod (B * _), Nat.mul_mod B (x / B ^ (i + 1) % y), Nat.mod_mod]
theorem long_dig {x y : Nat} (i : Nat) (hy : 0 < y) : (B * ((x / B ^ (i + 1)) % y) + dig x i) / y = dig (x / y) i := by
  rw [Nat.mul_comm]; exact quo_dig x y i hy
theorem long_lt {x y : Nat} (i : Nat) (hy : 0 < y) : B * ((x / B ^ (i + 1)) % y) + dig x i < y * B := by
  rw [Nat.mul_comm B]; exact quo_lt x y i hy
/-- The search for the digit: y times mid is at most r just where mid is at most the quotient. -/
theorem digit_le {r y m : Nat} (hy : 0 < y) : y * m ≤ r ↔ m ≤ r / y := by
  rw [Nat.le_div_iff_mul_le hy, Nat.mul_comm]
theorem long_mod {r y : Nat} : r - y * (r / y) = r % y := by
  have := Nat.div_add_mod r y
  omega

end Go.Proofs.Ytnkeenejcpkelaa.Num
