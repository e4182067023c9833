import Ieee.Arith
/- What the claim's proof reaches of: NumA. -/
namespace Go.Proofs.YtgchbbjhdeobpaaGreatDoor.Num
set_option linter.unusedVariables false

/-- The base. -/
def B : Nat := 1000000000
theorem B_eq : B = 1000000000 := rfl
attribute [irreducible] B

/-- Digit i of n. -/
def dig (n i : Nat) : Nat := n / B ^ i % B
/-- The lowest k digits of n, the least first. -/
def low (k n : Nat) : List Nat := (List.range k).map (dig n)
/-- How many digits n has. -/
def lenF : Nat → Nat → Nat
  | 0, _ => 0
  | f + 1, n => if n = 0 then 0 else lenF f (n / B) + 1
def len (n : Nat) : Nat := lenF n n
/-- The digits of n. -/
def digs (n : Nat) : List Nat := low (len n) n
/-- The value of a list of digits. -/
def val : List Nat → Nat
  | [] => 0
  | d :: r => d + B * val r

theorem B_pos : 0 < B := by rw [B_eq]; decide
theorem B_gt : 1 < B := by rw [B_eq]; decide
theorem pow_pos (i : Nat) : 0 < B ^ i := Nat.pow_pos B_pos
theorem pow_le {i j : Nat} (h : i ≤ j) : B ^ i ≤ B ^ j := Nat.pow_le_pow_right B_pos h
theorem pow_succ' (i : Nat) : B ^ (i + 1) = B * B ^ i := by rw [Nat.pow_succ, Nat.mul_comm]

theorem dig_lt (n i : Nat) : dig n i < B := Nat.mod_lt _ B_pos
theorem dig_le (n i : Nat) : dig n i ≤ 999999999 := by have := dig_lt n i; simp only [B_eq] at this; omega
theorem low_length (k n : Nat) : (low k n).length = k := by simp [low]
theorem low_get (k n i : Nat) (h : i < k) : (low k n)[i]? = some (dig n i) := by simp [low, h]
theorem low_getD (k n i : Nat) (h : i < k) : (low k n).getD i 0 = dig n i := by simp [List.getD, low_get k n i h]
theorem low_succ (k n : Nat) : low (k + 1) n = low k n ++ [dig n k] := by simp [low, List.range_succ]

theorem lenF_spec : ∀ f n, n ≤ f → n < B ^ lenF f n ∧ (lenF f n ≠ 0 → B ^ (lenF f n - 1) ≤ n)
  | 0, n, h => by
    have : n = 0 := by omega
    subst this
    simp [lenF]
  | f + 1, n, h => by
    unfold lenF
    split
    · next h0 => subst h0; simp
    · next h0 =>
      have hq : n / B ≤ f := by
        have : n / B < n := Nat.div_lt_self (by omega) B_gt
        omega
      obtain ⟨h1, h2⟩ := lenF_spec f (n / B) hq
      have hdm := Nat.div_add_mod n B
      have hm := Nat.mod_lt n B_pos
      constructor
      · rw [pow_succ']
        have : B * (n / B + 1) ≤ B * B ^ lenF f (n / B) := Nat.mul_le_mul_left B h1
        rw [Nat.mul_add] at this
        omega
      · intro _
        simp only [Nat.add_sub_cancel]
        by_cases hl : lenF f (n / B) = 0
        · rw [hl]; simp; omega
        · have h3 := h2 hl
          have e : lenF f (n / B) = (lenF f (n / B) - 1) + 1 := by omega
          rw [e, pow_succ']
          have : B * B ^ (lenF f (n / B) - 1) ≤ B * (n / B) := Nat.mul_le_mul_left B h3
          omega
theorem lt_len (n : Nat) : n < B ^ len n := (lenF_spec n n (Nat.le_refl n)).1
theorem len_le_of (n : Nat) (h : len n ≠ 0) : B ^ (len n - 1) ≤ n := (lenF_spec n n (Nat.le_refl n)).2 h
theorem len_zero : len 0 = 0 := rfl
theorem len_eq_zero {n : Nat} : len n = 0 ↔ n = 0 := by
  constructor
  · intro h; have := lt_len n; rw [h] at this; simp at this; exact this
  · rintro rfl; rfl
theorem len_le_iff {n k : Nat} : len n ≤ k ↔ n < B ^ k := by
  constructor
  · intro h; exact Nat.lt_of_lt_of_le (lt_len n) (pow_le h)
  · intro h
    by_cases h0 : len n = 0
    · omega
    · have h1 := len_le_of n h0
      have h2 : B ^ (len n - 1) < B ^ k := Nat.lt_of_le_of_lt h1 h
      by_cases h3 : k ≤ len n - 1
      · have := pow_le h3; omega
      · omega
theorem lt_len_iff {n k : Nat} : k < len n ↔ B ^ k ≤ n := by
  have := @len_le_iff n k
  omega
theorem len_eq {n k : Nat} (h1 : n < B ^ k) (h2 : k ≠ 0 → B ^ (k - 1) ≤ n) : len n = k := by
  have a := len_le_iff.2 h1
  by_cases h0 : k = 0
  · omega
  · have := lt_len_iff.2 (h2 h0)
    omega
theorem len_mono {m n : Nat} (h : m ≤ n) : len m ≤ len n := len_le_iff.2 (Nat.lt_of_le_of_lt h (lt_len n))

theorem digs_length (n : Nat) : (digs n).length = len n := low_length _ _
theorem dig_big {n i : Nat} (h : n < B ^ i) : dig n i = 0 := by simp [dig, Nat.div_eq_of_lt h]
theorem dig_of_len {n i : Nat} (h : len n ≤ i) : dig n i = 0 := dig_big (len_le_iff.1 h)
theorem digs_getD (n i : Nat) : (digs n).getD i 0 = dig n i := by
  by_cases h : i < len n
  · exact low_getD _ _ _ h
  · rw [dig_of_len (by omega), List.getD_eq_getElem?_getD, List.getElem?_eq_none (by rw [digs_length]; omega)]; rfl
theorem digs_get (n i : Nat) (h : i < len n) : (digs n)[i]? = some (dig n i) := low_get _ _ _ h
theorem low_eq_digs {k n : Nat} (h1 : n < B ^ k) (h2 : k ≠ 0 → B ^ (k - 1) ≤ n) : low k n = digs n := by
  unfold digs; rw [len_eq h1 h2]
theorem top_pos {n : Nat} (h : n ≠ 0) : dig n (len n - 1) ≠ 0 := by
  have h0 : len n ≠ 0 := fun h' => h (len_eq_zero.1 h')
  have h1 := len_le_of n h0
  have h2 := lt_len n
  have e : B ^ len n = B * B ^ (len n - 1) := by
    have : len n = (len n - 1) + 1 := by omega
    rw [this, pow_succ']; simp
  unfold dig
  have h3 : n / B ^ (len n - 1) < B := by
    rw [Nat.div_lt_iff_lt_mul (pow_pos _)]; omega
  rw [Nat.mod_eq_of_lt h3]
  have : 1 ≤ n / B ^ (len n - 1) := (Nat.le_div_iff_mul_le (pow_pos _)).2 (by omega)
  omega

/-! values of lists -/
theorem val_append (l r : List Nat) : val (l ++ r) = val l + B ^ l.length * val r := by
  induction l with
  | nil => simp [val]
  | cons d l ih =>
    simp only [List.cons_append, val, ih, List.length_cons, pow_succ', Nat.mul_add, Nat.mul_assoc]
    omega
theorem val_lt {l : List Nat} (h : ∀ d ∈ l, d < B) : val l < B ^ l.length := by
  induction l with
  | nil => simp [val]
  | cons d l ih =>
    have h1 := h d (by simp)
    have h2 := ih fun x hx => h x (by simp [hx])
    simp only [val, List.length_cons, pow_succ']
    have : B * (val l + 1) ≤ B * B ^ l.length := Nat.mul_le_mul_left B h2
    rw [Nat.mul_add] at this
    omega
theorem mod_pow_succ (n k : Nat) : n % B ^ (k + 1) = n % B ^ k + B ^ k * dig n k := by
  unfold dig; rw [Nat.pow_succ, Nat.mod_mul]
theorem val_low (k n : Nat) : val (low k n) = n % B ^ k := by
  induction k with
  | zero => simp [low, val, Nat.mod_one]
  | succ k ih => rw [low_succ, val_append, ih, low_length, mod_pow_succ]; simp [val]
theorem val_digs (n : Nat) : val (digs n) = n := by unfold digs; rw [val_low, Nat.mod_eq_of_lt (lt_len n)]
theorem digs_inj {m n : Nat} (h : digs m = digs n) : m = n := by rw [← val_digs m, h, val_digs]
theorem dig_cons_zero {d v : Nat} (h : d < B) : dig (d + B * v) 0 = d := by
  unfold dig
  rw [Nat.pow_zero, Nat.div_one, Nat.add_mul_mod_self_left, Nat.mod_eq_of_lt h]
theorem dig_cons_succ {d v : Nat} (i : Nat) (h : d < B) : dig (d + B * v) (i + 1) = dig v i := by
  unfold dig
  rw [pow_succ', ← Nat.div_div_eq_div_mul, Nat.add_mul_div_left _ _ B_pos, Nat.div_eq_of_lt h, Nat.zero_add]
theorem low_cons {d v : Nat} (k : Nat) (h : d < B) : low (k + 1) (d + B * v) = d :: low k v := by
  apply List.ext_getElem?
  intro i
  cases i with
  | zero => rw [low_get _ _ _ (by omega), dig_cons_zero h]; rfl
  | succ i =>
    rw [List.getElem?_cons_succ]
    by_cases hi : i < k
    · rw [low_get _ _ _ (by omega), dig_cons_succ i h, low_get _ _ _ hi]
    · rw [List.getElem?_eq_none (by rw [low_length]; omega), List.getElem?_eq_none (by rw [low_length]; omega)]
theorem low_of_list : ∀ (l : List Nat), (∀ d ∈ l, d < B) → l = low l.length (val l)
  | [], _ => rfl
  | d :: l, h => by
    have h1 := h d (by simp)
    have h2 := low_of_list l fun x hx => h x (by simp [hx])
    have e : low (d :: l).length (val (d :: l)) = d :: low l.length (val l) := low_cons l.length h1
    rw [e, ← h2]
/-- A list of digits whose last is not 0 is the list of its value's digits. -/
theorem digs_of_list {l : List Nat} (h : ∀ d ∈ l, d < B) (hl : l ≠ [] → l.getD (l.length - 1) 0 ≠ 0) : l = digs (val l) := by
  have e := low_of_list l h
  by_cases h0 : l = []
  · subst h0; rfl
  · have hlen : 0 < l.length := List.length_pos_iff.2 h0
    have ht := hl h0
    rw [e] at ht
    simp only [low_length] at ht
    rw [low_getD _ _ _ (by omega)] at ht
    refine e.trans (low_eq_digs (val_lt h) fun _ => ?_)
    have : ¬ val l < B ^ (l.length - 1) := fun hlt => ht (dig_big hlt)
    omega

/-! comparison -/
theorem lt_of_len {x y : Nat} (h : len x < len y) : x < y := by
  have := lt_len x
  have h1 := lt_len_iff.1 h
  have := pow_le (Nat.le_refl (len x))
  omega
theorem div_pow_succ (x i : Nat) : x / B ^ i = B * (x / B ^ (i + 1)) + dig x i := by
  unfold dig
  rw [Nat.pow_succ, ← Nat.div_div_eq_div_mul]
  exact (Nat.div_add_mod _ _).symm
/-- The digits above i agree, digit i is smaller: the number is smaller. -/
theorem lt_of_dig {x y i : Nat} (he : x / B ^ (i + 1) = y / B ^ (i + 1)) (h : dig x i < dig y i) : x < y := by
  have h1 := div_pow_succ x i
  have h2 := div_pow_succ y i
  rw [he] at h1
  have : x / B ^ i < y / B ^ i := by omega
  exact Nat.lt_of_not_le fun hle => by have := Nat.div_le_div_right (c := B ^ i) hle; omega
theorem eq_div_step {x y i : Nat} (he : x / B ^ (i + 1) = y / B ^ (i + 1)) (h : dig x i = dig y i) : x / B ^ i = y / B ^ i := by
  rw [div_pow_succ x i, div_pow_succ y i, he, h]

/-! the loop of a sum -/
def carry (x y i : Nat) : Nat := (x % B ^ i + y % B ^ i) / B ^ i
theorem carry_zero (x y : Nat) : carry x y 0 = 0 := by simp [carry, Nat.mod_one]
theorem carry_le (x y i : Nat) : carry x y i ≤ 1 := by
  unfold carry
  have h1 := Nat.mod_lt x (pow_pos i)
  have h2 := Nat.mod_lt y (pow_pos i)
  have : (x % B ^ i + y % B ^ i) / B ^ i < 2 := by rw [Nat.div_lt_iff_lt_mul (pow_pos i)]; omega
  omega
theorem sum_div (x y i : Nat) : (x + y) / B ^ i = x / B ^ i + y / B ^ i + carry x y i := by
  unfold carry
  have h1 := Nat.div_add_mod x (B ^ i)
  have h2 := Nat.div_add_mod y (B ^ i)
  conv => lhs; rw [← h1, ← h2]
  rw [show B ^ i * (x / B ^ i) + x % B ^ i + (B ^ i * (y / B ^ i) + y % B ^ i) = (x % B ^ i + y % B ^ i) + B ^ i * (x / B ^ i + y / B ^ i) from by rw [Nat.mul_add]; omega]
  rw [Nat.add_mul_div_left _ _ (pow_pos i)]; omega
theorem sum_dig (x y i : Nat) : (dig x i + dig y i + carry x y i) % B = dig (x + y) i := by
  unfold dig; rw [sum_div]; simp only [B_eq]; omega
theorem sum_carry (x y i : Nat) : (dig x i + dig y i + carry x y i) / B = carry x y (i + 1) := by
  have h1 := sum_div x y i
  have h2 := sum_div x y (i + 1)
  have h3 := div_pow_succ x i
  have h4 := div_pow_succ y i
  have h5 := div_pow_succ (x + y) i
  have h6 := sum_dig x y i
  simp only [B_eq] at *
  omega
theorem sum_end {x y k : Nat} (hx : len x ≤ k) (hy : len y ≤ k) (hc : carry x y k = 0) : x + y < B ^ k := by
  have h1 := len_le_iff.1 hx
  have h2 := len_le_iff.1 hy
  unfold carry at hc
  rw [Nat.mod_eq_of_lt h1, Nat.mod_eq_of_lt h2] at hc
  exact (Nat.div_eq_zero_iff.1 hc).resolve_left (by have := pow_pos k; omega)
theorem sum_more {x y k : Nat} (h : k < len x ∨ k < len y ∨ 0 < carry x y k) : B ^ k ≤ x + y := by
  rcases h with h | h | h
  · have := lt_len_iff.1 h; omega
  · have := lt_len_iff.1 h; omega
  · unfold carry at h
    have h1 : 1 ≤ (x % B ^ k + y % B ^ k) / B ^ k := h
    have h2 := (Nat.le_div_iff_mul_le (pow_pos k)).1 h1
    have := Nat.mod_le x (B ^ k)
    have := Nat.mod_le y (B ^ k)
    omega
/-! the loop of a difference -/
def borrow (x y i : Nat) : Nat := if x % B ^ i < y % B ^ i then 1 else 0
theorem borrow_zero (x y : Nat) : borrow x y 0 = 0 := by simp [borrow, Nat.mod_one]
theorem borrow_le (x y i : Nat) : borrow x y i ≤ 1 := by unfold borrow; split <;> omega
theorem div_aux1 {b u v q : Nat} (hb : 0 < b) (h : u < v) (hv : v < b) : (b + u - v + b * q) / b = q := by
  rw [Nat.add_mul_div_left _ _ hb, Nat.div_eq_of_lt (by omega), Nat.zero_add]
theorem div_aux2 {b u v q : Nat} (hb : 0 < b) (hu : u < b) : (u - v + b * q) / b = q := by
  rw [Nat.add_mul_div_left _ _ hb, Nat.div_eq_of_lt (by omega), Nat.zero_add]
theorem diff_div {x y i : Nat} (h : y ≤ x) : (x - y) / B ^ i + y / B ^ i + borrow x y i = x / B ^ i := by
  have h1 := Nat.div_add_mod x (B ^ i)
  have h2 := Nat.div_add_mod y (B ^ i)
  have h3 := Nat.mod_lt x (pow_pos i)
  have h4 := Nat.mod_lt y (pow_pos i)
  have hq : y / B ^ i ≤ x / B ^ i := Nat.div_le_div_right h
  unfold borrow
  split
  · next hlt =>
    have hne : y / B ^ i ≠ x / B ^ i := fun e => by rw [e] at h2; omega
    obtain ⟨q, hq'⟩ : ∃ q, x / B ^ i = y / B ^ i + 1 + q := ⟨x / B ^ i - (y / B ^ i + 1), by omega⟩
    have e : x - y = (B ^ i + x % B ^ i - y % B ^ i) + B ^ i * q := by
      rw [hq', Nat.mul_add, Nat.mul_add, Nat.mul_one] at h1
      generalize B ^ i * q = Q at *
      generalize B ^ i * (y / B ^ i) = Y at *
      generalize B ^ i = b at *
      generalize x % b = u at *
      generalize y % b = v at *
      omega
    rw [e, div_aux1 (pow_pos i) hlt h4, hq']; omega
  · next hge =>
    obtain ⟨q, hq'⟩ : ∃ q, x / B ^ i = y / B ^ i + q := ⟨x / B ^ i - y / B ^ i, by omega⟩
    have e : x - y = (x % B ^ i - y % B ^ i) + B ^ i * q := by
      rw [hq', Nat.mul_add] at h1
      generalize B ^ i * q = Q at *
      generalize B ^ i * (y / B ^ i) = Y at *
      generalize B ^ i = b at *
      generalize x % b = u at *
      generalize y % b = v at *
      omega
    rw [e, div_aux2 (pow_pos i) h3, hq']; omega
theorem diff_step {x y : Nat} (i : Nat) (h : y ≤ x) :
    (dig y i + borrow x y i ≤ dig x i ∧ dig (x - y) i = dig x i - (dig y i + borrow x y i) ∧ borrow x y (i + 1) = 0) ∨
    (dig x i < dig y i + borrow x y i ∧ dig (x - y) i = B + dig x i - (dig y i + borrow x y i) ∧ borrow x y (i + 1) = 1) := by
  have h1 := diff_div (i := i) h
  have h2 := diff_div (i := i + 1) h
  have h3 := div_pow_succ x i
  have h4 := div_pow_succ y i
  have h5 := div_pow_succ (x - y) i
  have h6 := borrow_le x y i
  have h7 := borrow_le x y (i + 1)
  have h8 := dig_lt x i
  have h9 := dig_lt y i
  have h10 := dig_lt (x - y) i
  simp only [B_eq] at *
  omega

/-! the loop of a quotient by a digit -/
theorem quo_step (x n i : Nat) (hn : 0 < n) : ((x / B ^ (i + 1)) % n * B + dig x i) / n = (x / n) / B ^ i - B * ((x / n) / B ^ (i + 1)) ∧ ((x / B ^ (i + 1)) % n * B + dig x i) % n = (x / B ^ i) % n := by
  have h1 := div_pow_succ x i
  have h2 := Nat.div_add_mod (x / B ^ (i + 1)) n
  have e : x / B ^ i = ((x / B ^ (i + 1)) % n * B + dig x i) + n * (B * ((x / B ^ (i + 1)) / n)) := by
    rw [h1]
    conv => lhs; rw [← h2]
    rw [Nat.mul_add, Nat.mul_comm B (x / B ^ (i + 1) % n), Nat.mul_left_comm B n]
    omega
  have c : ∀ j, (x / n) / B ^ j = (x / B ^ j) / n := fun j => by rw [Nat.div_div_eq_div_mul, Nat.div_div_eq_div_mul, Nat.mul_comm]
  constructor
  · rw [c i, c (i + 1), e, Nat.add_mul_div_left _ _ hn, Nat.add_sub_cancel]
  · rw [e, Nat.add_mul_mod_self_left]
theorem quo_dig (x n i : Nat) (hn : 0 < n) : ((x / B ^ (i + 1)) % n * B + dig x i) / n = dig (x / n) i := by
  rw [(quo_step x n i hn).1]
  have := div_pow_succ (x / n) i
  omega
theorem quo_lt (x n i : Nat) (hn : 0 < n) : (x / B ^ (i + 1)) % n * B + dig x i < n * B := by
  have h1 := Nat.mod_lt (x / B ^ (i + 1)) hn
  have h2 := dig_lt x i
  have : (x / B ^ (i + 1) % n + 1) * B ≤ n * B := Nat.mul_le_mul_right B h1
  rw [Nat.add_mul] at this
  omega

end Go.Proofs.YtgchbbjhdeobpaaGreatDoor.Num

/-
  Plain facts on natural numbers in base 1000000000, continued: lists of digits that are written in place, the loop of a product, the search for a digit of a quotient. No program is mentioned here.
-/
namespace Go.Proofs.YtgchbbjhdeobpaaGreatDoor.Num
set_option linter.unusedVariables false

theorem getD_set (l : List Nat) (j i v : Nat) (h : j < l.length) : (l.set j v).getD i 0 = if i = j then v else l.getD i 0 := by
  simp only [List.getD_eq_getElem?_getD, List.getElem?_set]
  by_cases e : j = i
  · subst e; simp [h]
  · rw [if_neg e, if_neg (fun h' => e h'.symm)]
theorem val_set : ∀ (l : List Nat) (j v : Nat), j < l.length → val (l.set j v) + B ^ j * l.getD j 0 = val l + B ^ j * v
  | [], j, v, h => by simp at h
  | d :: l, 0, v, _ => by simp [val]; omega
  | d :: l, j + 1, v, h => by
    have ih := val_set l j v (by simpa using h)
    have e : B * (val (l.set j v) + B ^ j * l.getD j 0) = B * (val l + B ^ j * v) := by rw [ih]
    simp only [List.set_cons_succ, val, List.getD_cons_succ, pow_succ', Nat.mul_assoc]
    simp only [Nat.mul_add] at e
    omega
theorem set_lt {l : List Nat} (h : ∀ d ∈ l, d < B) (j v : Nat) (hv : v < B) : ∀ d ∈ l.set j v, d < B := by
  intro d hd
  rcases List.mem_or_eq_of_mem_set hd with h' | h'
  · exact h d h'
  · omega
theorem getD_lt {l : List Nat} (h : ∀ d ∈ l, d < B) (j : Nat) : l.getD j 0 < B := by
  rw [List.getD_eq_getElem?_getD]
  cases e : l[j]? with
  | none => exact B_pos
  | some d => simpa using h d (List.mem_of_getElem? e)
theorem val_zeros (k : Nat) : val (List.replicate k 0) = 0 := by
  induction k with
  | zero => rfl
  | succ k ih => simp [List.replicate_succ, val, ih]
theorem zeros_lt (k : Nat) : ∀ d ∈ List.replicate k 0, d < B := by
  intro d hd
  rw [List.eq_of_mem_replicate hd]
  exact B_pos

/-! the loop of a product -/
/-- What the inner loop of a product holds after k rounds, at digit i of x: o is the row, c the carry. -/
structure MulIn (x y i k : Nat) (o : List Nat) (c : Nat) : Prop where
  lt : ∀ d ∈ o, d < B
  cl : c < B
  eq : val o + B ^ (i + k) * c = x % B ^ i * y + B ^ i * (dig x i * (y % B ^ k))
  zero : k ≤ len y → ∀ j, i + len y ≤ j → o.getD j 0 = 0
theorem mulIn_start {x y i : Nat} {o : List Nat} (hlt : ∀ d ∈ o, d < B) (hv : val o = x % B ^ i * y) : MulIn x y i 0 o 0 := by
  refine ⟨hlt, B_pos, by simp [hv, Nat.mod_one], fun _ j hj => ?_⟩
  have e := low_of_list o hlt
  by_cases hjl : j < o.length
  · rw [e, low_getD _ _ _ hjl, hv]
    apply dig_big
    have h1 : x % B ^ i < B ^ i := Nat.mod_lt _ (pow_pos i)
    have h2 := lt_len y
    have h3 : x % B ^ i * y < B ^ i * B ^ len y := by
      by_cases hy : y = 0
      · subst hy; simp; exact Nat.mul_pos (pow_pos _) (pow_pos _)
      · exact Nat.mul_lt_mul'' h1 h2
    rw [← Nat.pow_add] at h3
    exact Nat.lt_of_lt_of_le h3 (pow_le hj)
  · rw [List.getD_eq_getElem?_getD, List.getElem?_eq_none (by omega)]; rfl
theorem mul_bound {a d e c : Nat} (ha : a < B) (hd : d < B) (he : e < B) (hc : c < B) : a + d * e + c < B * B := by
  have : d * e ≤ 999999999 * 999999999 := Nat.mul_le_mul (by simp only [B_eq] at hd; omega) (by simp only [B_eq] at he; omega)
  simp only [B_eq] at *
  omega
theorem mulIn_step {x y i k : Nat} {o : List Nat} {c : Nat} (h : MulIn x y i k o c) (hj : i + k < o.length) :
    MulIn x y i (k + 1) (o.set (i + k) ((o.getD (i + k) 0 + dig x i * dig y k + c) % B)) ((o.getD (i + k) 0 + dig x i * dig y k + c) / B) := by
  have hb := mul_bound (getD_lt h.lt (i + k)) (dig_lt x i) (dig_lt y k) h.cl
  generalize hn : o.getD (i + k) 0 + dig x i * dig y k + c = n at hb
  have hdm := Nat.div_add_mod n B
  refine ⟨set_lt h.lt _ _ (Nat.mod_lt _ B_pos), (Nat.div_lt_iff_lt_mul B_pos).2 hb, ?_, fun hk j hjl => ?_⟩
  · have hs := val_set o (i + k) (n % B) hj
    have he := h.eq
    have e1 : B ^ (i + (k + 1)) * (n / B) = B ^ (i + k) * (B * (n / B)) := by rw [← Nat.add_assoc, Nat.pow_succ, Nat.mul_assoc]
    have e2 : B ^ (i + k) * n = B ^ (i + k) * (B * (n / B)) + B ^ (i + k) * (n % B) := by rw [← Nat.mul_add, hdm]
    have e3 : B ^ (i + k) * n = B ^ (i + k) * o.getD (i + k) 0 + B ^ (i + k) * (dig x i * dig y k) + B ^ (i + k) * c := by rw [← hn, Nat.mul_add, Nat.mul_add]
    have e4 : B ^ i * (dig x i * (y % B ^ (k + 1))) = B ^ i * (dig x i * (y % B ^ k)) + B ^ (i + k) * (dig x i * dig y k) := by
      rw [mod_pow_succ, Nat.mul_add, Nat.mul_add, Nat.pow_add]
      congr 1
      rw [Nat.mul_assoc (B ^ i) (B ^ k), Nat.mul_left_comm (dig x i)]
    rw [e1, e4]
    omega
  · rw [getD_set _ _ _ _ hj, if_neg (by omega)]
    exact h.zero (by omega) j hjl
theorem mulIn_at_len {x y i : Nat} {o : List Nat} {c : Nat} (h : MulIn x y i (len y) o c) :
    ∀ d ∈ o.set (i + len y) c, d < B := set_lt h.lt _ _ h.cl
theorem mulIn_val {x y i : Nat} {o : List Nat} {c : Nat} (h : MulIn x y i (len y) o c) (hj : i + len y < o.length) :
    val (o.set (i + len y) c) = x % B ^ (i + 1) * y := by
  have hs := val_set o (i + len y) c hj
  have hz := h.zero (Nat.le_refl _) (i + len y) (Nat.le_refl _)
  have he := h.eq
  rw [hz, Nat.mul_zero, Nat.add_zero] at hs
  rw [hs, he, Nat.mod_eq_of_lt (lt_len y), mod_pow_succ, Nat.add_mul, Nat.mul_assoc]
theorem mulIn_done {x y i : Nat} {o : List Nat} (h : MulIn x y i (len y) o 0) : val o = x % B ^ (i + 1) * y := by
  have he := h.eq
  rw [Nat.mul_zero, Nat.add_zero] at he
  rw [he, Nat.mod_eq_of_lt (lt_len y), mod_pow_succ, Nat.add_mul, Nat.mul_assoc]
/-- At the round behind y's last digit only the carry is left. -/
theorem mulIn_last {x y i : Nat} {o : List Nat} {c : Nat} (h : MulIn x y i (len y) o c) :
    (o.getD (i + len y) 0 + dig x i * dig y (len y) + c) % B = c ∧ (o.getD (i + len y) 0 + dig x i * dig y (len y) + c) / B = 0 := by
  rw [h.zero (Nat.le_refl _) _ (Nat.le_refl _), dig_of_len (Nat.le_refl _), Nat.mul_zero]
  simp only [Nat.zero_add]
  exact ⟨Nat.mod_eq_of_lt h.cl, Nat.div_eq_of_lt h.cl⟩
theorem mul_whole {x y : Nat} {o : List Nat} (hlt : ∀ d ∈ o, d < B) (hv : val o = x % B ^ len x * y) (hl : o.length = len x + len y) : o = low (len x + len y) (x * y) ∧ x * y < B ^ (len x + len y) := by
  rw [Nat.mod_eq_of_lt (lt_len x)] at hv
  have e := low_of_list o hlt
  have h := val_lt hlt
  rw [hv, hl] at e h
  exact ⟨e, h⟩
theorem mul_len_le (x y : Nat) : len (x * y) ≤ len x + len y := by
  apply len_le_iff.2
  rw [Nat.pow_add]
  by_cases hx : x = 0
  · subst hx; simp; exact Nat.mul_pos (pow_pos _) (pow_pos _)
  · by_cases hy : y = 0
    · subst hy; simp; exact Nat.mul_pos (pow_pos _) (pow_pos _)
    · exact Nat.mul_lt_mul'' (lt_len x) (lt_len y)
theorem add_len_le (x y : Nat) : len (x + y) ≤ max (len x) (len y) + 1 := by
  apply len_le_iff.2
  have h1 := Nat.lt_of_lt_of_le (lt_len x) (pow_le (Nat.le_max_left (len x) (len y)))
  have h2 := Nat.lt_of_lt_of_le (lt_len y) (pow_le (Nat.le_max_right (len x) (len y)))
  rw [pow_succ']
  simp only [B_eq] at *
  omega

/-! cutting zeros off -/
theorem cons_lt (d r : Nat) (h : d < B) : B * r + d < B ^ (len r + 1) := by
  have := lt_len r
  have h1 : B * (r + 1) ≤ B * B ^ len r := Nat.mul_le_mul_left B this
  rw [pow_succ']
  rw [Nat.mul_add] at h1
  omega

/-! the loop of a long quotient -/
theorem long_rest (x y i : Nat) : (x / B ^ i) % y = (B * ((x / B ^ (i + 1)) % y) + dig x i) % y := by
  rw [div_pow_succ x i, Nat.add_mod, Nat.mul_mod, Nat.add_mod (B * _), Nat.mul_mod B (x / B ^ (i + 1) % y), Nat.mod_mod]
theorem long_dig {x y : Nat} (i : Nat) (hy : 0 < y) : (B * ((x / B ^ (i + 1)) % y) + dig x i) / y = dig (x / y) i := by
  rw [Nat.mul_comm]; exact quo_dig x y i hy
theorem long_lt {x y : Nat} (i : Nat) (hy : 0 < y) : B * ((x / B ^ (i + 1)) % y) + dig x i < y * B := by
  rw [Nat.mul_comm B]; exact quo_lt x y i hy
/-- The search for the digit: y times mid is at most r just where mid is at most the quotient. -/
theorem digit_le {r y m : Nat} (hy : 0 < y) : y * m ≤ r ↔ m ≤ r / y := by
  rw [Nat.le_div_iff_mul_le hy, Nat.mul_comm]
theorem long_mod {r y : Nat} : r - y * (r / y) = r % y := by
  have := Nat.div_add_mod r y
  omega

end Go.Proofs.YtgchbbjhdeobpaaGreatDoor.Num

/-
  Plain facts on natural numbers in base 1000000000, continued: the first guess of a quotient's digit by the highest digits. No program is mentioned here.
-/
namespace Go.Proofs.YtgchbbjhdeobpaaGreatDoor.Num
set_option linter.unusedVariables false

/-- The three digits of a from place m down, as a number. -/
def top3 (a m : Nat) : Nat := dig a m * B * B + dig a (m - 1) * B + dig a (m - 2)
def top2 (b m : Nat) : Nat := dig b (m - 1) * B + dig b (m - 2)
theorem top3_eq {a m : Nat} (hm : 2 ≤ m) (h : a < B ^ (m + 1)) : top3 a m = a / B ^ (m - 2) := by
  have h1 := div_pow_succ a (m - 2)
  have h2 := div_pow_succ a (m - 1)
  have h3 : a / B ^ m < B := by rw [Nat.div_lt_iff_lt_mul (pow_pos m), ← pow_succ']; exact h
  have h4 : dig a m = a / B ^ m := Nat.mod_eq_of_lt h3
  rw [show m - 2 + 1 = m - 1 by omega] at h1
  rw [show m - 1 + 1 = m by omega] at h2
  unfold top3
  rw [h4, h1, h2, Nat.mul_add, Nat.mul_comm B (B * _), Nat.mul_comm B (a / B ^ m), Nat.mul_comm B (dig a (m - 1))]
theorem top2_eq {b m : Nat} (hm : 2 ≤ m) (h : b < B ^ m) : top2 b m = b / B ^ (m - 2) := by
  have h1 := div_pow_succ b (m - 2)
  rw [show m - 2 + 1 = m - 1 by omega] at h1
  have h3 : b / B ^ (m - 1) < B := by
    rw [Nat.div_lt_iff_lt_mul (pow_pos _), ← pow_succ', show m - 1 + 1 = m by omega]; exact h
  have h4 : dig b (m - 1) = b / B ^ (m - 1) := Nat.mod_eq_of_lt h3
  unfold top2
  rw [h4, h1, Nat.mul_comm B]
theorem top2_ge {b m : Nat} (hm : 2 ≤ m) (hb : len b = m) : B ≤ top2 b m := by
  have h1 := lt_len b
  rw [hb] at h1
  have h2 := len_le_of b (by omega)
  rw [hb] at h2
  rw [top2_eq hm h1, Nat.le_div_iff_mul_le (pow_pos _), ← pow_succ', show m - 2 + 1 = m - 1 by omega]
  exact h2
theorem quo_lt_B {a b : Nat} (hlt : a < b * B) : a / b < B := Nat.div_lt_of_lt_mul hlt
theorem top_bounds {a b m : Nat} (hm : 2 ≤ m) (hb : len b = m) (hlt : a < b * B) :
    a / b * top2 b m ≤ top3 a m ∧ top3 a m < (a / b + 2) * top2 b m := by
  have hb1 := lt_len b
  rw [hb] at hb1
  have hD := top2_ge hm hb
  have ha : a < B ^ (m + 1) := by
    rw [Nat.pow_succ]; exact Nat.lt_of_lt_of_le hlt (Nat.mul_le_mul_right B (Nat.le_of_lt hb1))
  have hq := quo_lt_B hlt
  have e3 := top3_eq hm ha
  have e2 := top2_eq hm hb1
  have hb0 : 0 < b := by
    rcases Nat.eq_zero_or_pos b with h | h
    · subst h; simp at hlt
    · exact h
  have hP := pow_pos (m - 2)
  have d1 := Nat.div_add_mod a b
  have d2 := Nat.mod_lt a hb0
  have f1 := Nat.div_mul_le_self b (B ^ (m - 2))
  have f2 := Nat.lt_mul_div_succ b hP
  have f3 := Nat.div_mul_le_self a (B ^ (m - 2))
  rw [← e2] at f1 f2
  rw [← e3] at f3
  generalize hqq : a / b = q at *
  generalize B ^ (m - 2) = P at *
  generalize top2 b m = d at *
  constructor
  · rw [e3, Nat.le_div_iff_mul_le hP, Nat.mul_assoc]
    have := Nat.mul_le_mul_left q f1
    rw [Nat.mul_comm q b] at this
    omega
  · have g1 : top3 a m * P < (q + 1) * (d + 1) * P := by
      have : a < b * (q + 1) := by rw [Nat.mul_add]; omega
      have h2 : b * (q + 1) ≤ P * (d + 1) * (q + 1) := Nat.mul_le_mul_right _ (Nat.le_of_lt f2)
      have h3 : P * (d + 1) * (q + 1) = (q + 1) * (d + 1) * P := by rw [Nat.mul_comm P, Nat.mul_right_comm, Nat.mul_comm (d + 1)]
      omega
    have g2 := Nat.lt_of_mul_lt_mul_right g1
    have e : (q + 1) * (d + 1) = q * d + d + q + 1 := by rw [Nat.add_mul, Nat.mul_add]; omega
    have e' : (q + 2) * d = q * d + 2 * d := Nat.add_mul _ _ _
    omega
theorem guess_near {a b m g : Nat} (hm : 2 ≤ m) (hb : len b = m) (hlt : a < b * B) (h1 : g * top2 b m ≤ top3 a m + top2 b m) (h2 : top3 a m ≤ (g + 2) * top2 b m) :
    g ≤ a / b + 2 ∧ a / b ≤ g + 2 := by
  obtain ⟨b1, b2⟩ := top_bounds hm hb hlt
  have hD := top2_ge hm hb
  have hp := B_pos
  constructor
  · have e : (a / b + 3) * top2 b m = (a / b + 2) * top2 b m + top2 b m := by rw [← Nat.succ_mul]
    have : g * top2 b m < (a / b + 3) * top2 b m := by omega
    have := Nat.lt_of_mul_lt_mul_right this
    omega
  · exact Nat.le_of_mul_le_mul_right (Nat.le_trans b1 h2) (by omega)
theorem top3_small (a m : Nat) : top3 a m < 2 ^ 200 := by
  have h1 := dig_le a m
  have h2 := dig_le a (m - 1)
  have h3 := dig_le a (m - 2)
  unfold top3
  simp only [B_eq]
  omega
theorem top2_small (a m : Nat) : top2 a m < 2 ^ 200 := by
  have h2 := dig_le a (m - 1)
  have h3 := dig_le a (m - 2)
  unfold top2
  simp only [B_eq]
  omega
theorem top3_lt {a b m : Nat} (hm : 2 ≤ m) (hb : len b = m) (hlt : a < b * B) : top3 a m < 2147483648 * top2 b m := by
  obtain ⟨_, b2⟩ := top_bounds hm hb hlt
  have hq := quo_lt_B hlt
  have : (a / b + 2) * top2 b m ≤ 2147483648 * top2 b m := Nat.mul_le_mul_right _ (by rw [B_eq] at hq; omega)
  omega
theorem top3_pos {a b m : Nat} (hm : 2 ≤ m) (hb : len b = m) (hlt : a < b * B) (hle : b ≤ a) : 0 < top3 a m := by
  obtain ⟨b1, _⟩ := top_bounds hm hb hlt
  have hD := top2_ge hm hb
  have hp := B_pos
  have hb0 : 0 < b := by
    rcases Nat.eq_zero_or_pos b with h | h
    · subst h; simp at hlt
    · exact h
  have hq : 1 ≤ a / b := (Nat.le_div_iff_mul_le hb0).2 (by omega)
  have := Nat.mul_le_mul_right (top2 b m) hq
  omega
end Go.Proofs.YtgchbbjhdeobpaaGreatDoor.Num

/-
  Plain facts on double words: rounding to nearest stays within one part in 2^50; sums, products and quotients of numbers that are at least 0. No program is mentioned here.
-/
namespace Go.Proofs.YtgchbbjhdeobpaaGreatDoor.Flo
set_option linter.unusedVariables false
open Ieee

/-- The scale: values are counted in units of 2^-SC. -/
def SC : Int := 4000
/-- Rounding's part. -/
def D : Nat := 1125899906842624
/-- The value of m * 2^p. -/
def W (m : Nat) (p : Int) : Nat := m * 2 ^ (p + SC).toNat
/-- Two scaled values between which no more than k roundings lie. -/
def Close (x y k : Nat) : Prop := x * D ^ k ≤ y * (D + 1) ^ k ∧ y * D ^ k ≤ x * (D + 1) ^ k
theorem D_pos : 0 < D := by decide
theorem pow_D_le (k : Nat) : D ^ k ≤ (D + 1) ^ k := Nat.pow_le_pow_left (by omega) k
theorem Close.refl (x : Nat) : Close x x 0 := ⟨by simp, by simp⟩
theorem Close.symm {x y k : Nat} (h : Close x y k) : Close y x k := ⟨h.2, h.1⟩
theorem mul_rot {a b c d x y z : Nat} (h1 : x * a ≤ y * b) (h2 : y * c ≤ z * d) (hy : True) : x * (a * c) ≤ z * (b * d) := by
  have e1 : x * (a * c) = x * a * c := by rw [Nat.mul_assoc]
  have e2 : y * b * c = y * c * b := by rw [Nat.mul_right_comm]
  have e3 : z * (b * d) = z * d * b := by rw [Nat.mul_comm b d, Nat.mul_assoc]
  rw [e1, e3]
  exact Nat.le_trans (Nat.mul_le_mul_right c h1) (by rw [e2]; exact Nat.mul_le_mul_right b h2)
theorem Close.trans {x y z k l : Nat} (h1 : Close x y k) (h2 : Close y z l) : Close x z (k + l) := by
  unfold Close
  rw [Nat.pow_add, Nat.pow_add]
  refine ⟨mul_rot h1.1 h2.1 trivial, ?_⟩
  have := mul_rot h2.2 h1.2 trivial
  rw [Nat.mul_comm (D ^ k), Nat.mul_comm ((D + 1) ^ k)]
  exact this
theorem Close.more {x y k l : Nat} (h : Close x y k) (hl : k ≤ l) : Close x y l := by
  obtain ⟨d, rfl⟩ : ∃ d, l = k + d := ⟨l - k, by omega⟩
  have hp := pow_D_le d
  have step : ∀ {a b : Nat}, a * D ^ k ≤ b * (D + 1) ^ k → a * D ^ (k + d) ≤ b * (D + 1) ^ (k + d) := by
    intro a b h
    rw [Nat.pow_add, Nat.pow_add, ← Nat.mul_assoc, ← Nat.mul_assoc]
    exact Nat.mul_le_mul h hp
  exact ⟨step h.1, step h.2⟩
theorem Close.add {x y u v k : Nat} (h1 : Close x y k) (h2 : Close u v k) : Close (x + u) (y + v) k := by
  unfold Close
  rw [Nat.add_mul, Nat.add_mul, Nat.add_mul, Nat.add_mul]
  exact ⟨Nat.add_le_add h1.1 h2.1, Nat.add_le_add h1.2 h2.2⟩
theorem mul4 (a b c d : Nat) : a * b * (c * d) = a * c * (b * d) := by
  rw [Nat.mul_assoc, Nat.mul_assoc, Nat.mul_left_comm b c d]
theorem Close.mul {x y u v k l : Nat} (h1 : Close x y k) (h2 : Close u v l) : Close (x * u) (y * v) (k + l) := by
  unfold Close
  rw [Nat.pow_add, Nat.pow_add, mul4 x u (D ^ k), mul4 y v ((D + 1) ^ k), mul4 y v (D ^ k), mul4 x u ((D + 1) ^ k)]
  exact ⟨Nat.mul_le_mul h1.1 h2.1, Nat.mul_le_mul h1.2 h2.2⟩
theorem Close.cancel {x y c k : Nat} (hc : 0 < c) (h : Close (x * c) (y * c) k) : Close x y k := by
  unfold Close at *
  rw [Nat.mul_right_comm x c (D ^ k), Nat.mul_right_comm y c ((D + 1) ^ k), Nat.mul_right_comm y c (D ^ k), Nat.mul_right_comm x c ((D + 1) ^ k)] at h
  exact ⟨Nat.le_of_mul_le_mul_right h.1 hc, Nat.le_of_mul_le_mul_right h.2 hc⟩
theorem Close.zero {x k : Nat} (h : Close x 0 k) : x = 0 := by
  have := h.1
  rw [Nat.zero_mul] at this
  have hp : 0 < D ^ k := Nat.pow_pos D_pos
  rcases Nat.eq_zero_or_pos x with h0 | h0
  · exact h0
  · have := Nat.mul_pos h0 hp; omega

/-! cutting digits off -/
theorem gap_le {n drop : Nat} (h : drop ≤ n.log2 + 2) : 1 <<< min drop (n.log2 + 2) = 2 ^ drop := by
  rw [Nat.min_eq_left h, Nat.one_shiftLeft]
theorem cut_even (n drop : Nat) (h : drop ≤ n.log2 + 2) : ∃ b, b ≤ 1 ∧ Toward.even.cut false n drop = n / 2 ^ drop + b ∧ (n % 2 ^ drop = 0 → b = 0) := by
  unfold Toward.cut
  rw [gap_le h]
  have hp : 0 < 2 ^ drop := Nat.pow_pos (by omega)
  refine ⟨_, Bool.toNat_le _, rfl, fun h0 => ?_⟩
  rw [h0]
  have e1 : decide (2 ^ drop < 2 * 0) = false := by simp
  have e2 : (2 ^ drop == 2 * 0) = false := by simp
  simp
theorem lt_log2 (n : Nat) : n < 2 ^ (n.log2 + 1) := by
  rcases Nat.eq_zero_or_pos n with h | h
  · subst h; exact Nat.pow_pos (by omega)
  · exact (Nat.log2_lt (by omega)).1 (by omega)
theorem log2_le {n : Nat} (h : n ≠ 0) : 2 ^ n.log2 ≤ n := (Nat.le_log2 h).1 (Nat.le_refl _)
theorem cut_zero (n drop : Nat) : Toward.zero.cut false n drop = n / 2 ^ drop := by
  unfold Toward.cut
  by_cases h : drop ≤ n.log2 + 2
  · rw [gap_le h]; simp
  · rw [Nat.min_eq_right (by omega), Nat.one_shiftLeft]
    have h1 := lt_log2 n
    have h2 : 2 ^ (n.log2 + 1) ≤ 2 ^ (n.log2 + 2) := Nat.pow_le_pow_right (by omega) (by omega)
    have h3 : 2 ^ (n.log2 + 1) ≤ 2 ^ drop := Nat.pow_le_pow_right (by omega) (by omega)
    have e1 : n / 2 ^ (n.log2 + 2) = 0 := Nat.div_eq_of_lt (by omega)
    have e2 : n / 2 ^ drop = 0 := Nat.div_eq_of_lt (by omega)
    simp [e1, e2]

/-! reading a word that was written -/
theorem bin_eq : double.binade = 4503599627370496 := by decide
theorem inf_eq : double.infRung = 9218868437227405312 := by decide
theorem sign_eq : double.signWeight = 9223372036854775808 := by decide
theorem least_eq : double.leastPlace = -1074 := by decide
theorem frac_eq : double.fractionBits = 52 := rfl
theorem read_rung {e kept : Nat} (he : e ≤ 2040) (h1 : 4503599627370496 ≤ kept) (h2 : kept ≤ 9007199254740992) :
    ∃ m p, double.read (e * 4503599627370496 + kept) = .number false m p ∧ 0 < m ∧ -1074 ≤ p ∧ p ≤ 1000 ∧ W m p = W kept ((e : Int) - 1074) := by
  unfold Format.read
  simp only [bin_eq, inf_eq, sign_eq, least_eq]
  have a1 : (e * 4503599627370496 + kept) / 9223372036854775808 % 2 = 0 := by omega
  have a2 : (e * 4503599627370496 + kept) % 9223372036854775808 = e * 4503599627370496 + kept := Nat.mod_eq_of_lt (by omega)
  rw [a2, a1]
  rw [if_neg (by omega), if_pos (by omega)]
  by_cases h : kept = 9007199254740992
  · subst h
    have e1 : (e * 4503599627370496 + 9007199254740992) % 4503599627370496 = 0 := by omega
    have e2 : (e * 4503599627370496 + 9007199254740992) / 4503599627370496 = e + 2 := by omega
    rw [e1, e2]
    refine ⟨_, _, rfl, by omega, by omega, by omega, ?_⟩
    unfold W SC
    have : (-1074 + ((e + 2 - 1 : Nat) : Int) + 4000).toNat = ((e : Int) - 1074 + 4000).toNat + 1 := by omega
    rw [this, Nat.pow_succ]
    generalize 2 ^ ((e : Int) - 1074 + 4000).toNat = t
    omega
  · have e1 : (e * 4503599627370496 + kept) % 4503599627370496 = kept - 4503599627370496 := by omega
    have e2 : (e * 4503599627370496 + kept) / 4503599627370496 = e + 1 := by omega
    rw [e1, e2]
    refine ⟨_, _, rfl, by omega, by omega, by omega, ?_⟩
    have : 4503599627370496 + (kept - 4503599627370496) = kept := by omega
    rw [this]
    congr 1
theorem W_pow {m : Nat} {p : Int} (hp : -4000 ≤ p) (d : Nat) : W (m * 2 ^ d) p = W m (p + d) := by
  unfold W SC
  rw [Nat.mul_assoc, ← Nat.pow_add]
  congr 2
  omega
theorem nearest_close (mag : Nat) (place : Int) (h0 : mag ≠ 0) (hp : -4000 ≤ place) (hlo : -1000 ≤ place + (mag.log2 : Int)) (hhi : place + (mag.log2 : Int) ≤ 900) :
    ∃ m p, double.read (double.nearest false mag place) = .number false m p ∧ 0 < m ∧ -1074 ≤ p ∧ p ≤ 1000 ∧ Close (W m p) (W mag place) 1 := by
  have l1 := log2_le h0
  have l2 := lt_log2 mag
  unfold Format.nearest
  rw [if_neg h0]
  simp only [least_eq, frac_eq, bin_eq, inf_eq]
  rw [show max (place + (mag.log2 : Int) - ((52 : Nat) : Int)) (-1074) = place + (mag.log2 : Int) - 52 by omega]
  generalize hL : mag.log2 = L at *
  rw [show ((place : Int) + (L : Int) - 52 - -1074).toNat = ((place : Int) + (L : Int) - 52 + 1074).toNat by omega]
  obtain ⟨e, he⟩ : ∃ e : Nat, (e : Int) = place + L - 52 + 1074 := ⟨(place + L - 52 + 1074).toNat, by omega⟩
  rw [show (place + (L : Int) - 52 + 1074).toNat = e by omega]
  have key : ∀ kept, 4503599627370496 ≤ kept → kept ≤ 9007199254740992 → Close (W kept ((e : Int) - 1074)) (W mag place) 1 →
      ∃ m p, double.read (double.word false (min (e * 4503599627370496 + kept) 9218868437227405312)) = .number false m p ∧ 0 < m ∧ -1074 ≤ p ∧ p ≤ 1000 ∧ Close (W m p) (W mag place) 1 := by
    intro kept k1 k2 hc
    rw [Nat.min_eq_left (by omega)]
    obtain ⟨m, p, r, hm, q1, q2, hw⟩ := read_rung (e := e) (kept := kept) (by omega) k1 k2
    exact ⟨m, p, r, hm, q1, q2, by rw [hw]; exact hc⟩
  by_cases hle : L ≤ 52
  · have e1 : (place - (place + (L : Int) - 52)).toNat = 52 - L := by omega
    have e2 : (place + (L : Int) - 52 - place).toNat = 0 := by omega
    rw [e1, e2]
    obtain ⟨b, _, hb, hz⟩ := cut_even (mag <<< (52 - L)) 0 (by omega)
    have hb0 := hz (Nat.mod_one _)
    rw [hb, hb0, Nat.pow_zero, Nat.div_one, Nat.add_zero, Nat.shiftLeft_eq]
    have p1 : 2 ^ L * 2 ^ (52 - L) = 4503599627370496 := by rw [← Nat.pow_add, show L + (52 - L) = 52 by omega]
    have p2 : 2 ^ (L + 1) * 2 ^ (52 - L) = 9007199254740992 := by rw [← Nat.pow_add, show L + 1 + (52 - L) = 53 by omega]
    refine key _ (by rw [← p1]; exact Nat.mul_le_mul_right _ l1) (by rw [← p2]; exact Nat.mul_le_mul_right _ (Nat.le_of_lt l2)) ?_
    rw [W_pow (by omega), show (e : Int) - 1074 + ((52 - L : Nat) : Int) = place by omega]
    exact (Close.refl _).more (by omega)
  · have e1 : (place - (place + (L : Int) - 52)).toNat = 0 := by omega
    have e2 : (place + (L : Int) - 52 - place).toNat = L - 52 := by omega
    rw [e1, e2, Nat.shiftLeft_zero]
    obtain ⟨b, hb1, hb, _⟩ := cut_even mag (L - 52) (by omega)
    rw [hb]
    have p1 : 2 ^ L = 4503599627370496 * 2 ^ (L - 52) := by
      have : (4503599627370496 : Nat) = 2 ^ 52 := rfl
      rw [this, ← Nat.pow_add]; congr 1; omega
    have p2 : 2 ^ (L + 1) = 9007199254740992 * 2 ^ (L - 52) := by rw [Nat.pow_succ, p1]; omega
    have hg : 0 < 2 ^ (L - 52) := Nat.pow_pos (by omega)
    have hdm := Nat.div_add_mod mag (2 ^ (L - 52))
    have hml := Nat.mod_lt mag hg
    rw [p1] at l1
    rw [p2] at l2
    have k1 : 4503599627370496 ≤ mag / 2 ^ (L - 52) := (Nat.le_div_iff_mul_le hg).2 l1
    have k2 : mag / 2 ^ (L - 52) < 9007199254740992 := (Nat.div_lt_iff_lt_mul hg).2 l2
    refine key _ (by omega) (by omega) ?_
    have hw : W mag place * 1 = W mag place := Nat.mul_one _
    have ew : ∀ k, W k ((e : Int) - 1074) = W (k * 2 ^ (L - 52)) place := fun k => by rw [W_pow (by omega)]; congr 1; omega
    rw [ew]
    unfold Close W D
    generalize 2 ^ (place + SC).toNat = t
    rw [Nat.pow_one, Nat.pow_one]
    generalize hq : mag / 2 ^ (L - 52) = q at *
    generalize 2 ^ (L - 52) = g at *
    have hbg : (q + b) * g = g * q + b * g := by rw [Nat.add_mul, Nat.mul_comm]
    have hbg1 : b * g ≤ g := by have := Nat.mul_le_mul_right g hb1; omega
    have hgq : 4503599627370496 * g ≤ g * q := by rw [Nat.mul_comm]; exact Nat.mul_le_mul_left g k1
    rw [hbg]
    constructor
    · rw [Nat.mul_right_comm, Nat.mul_right_comm mag]
      refine Nat.mul_le_mul_right t ?_
      omega
    · rw [Nat.mul_right_comm, Nat.mul_right_comm (g * q + b * g)]
      refine Nat.mul_le_mul_right t ?_
      omega

/-! words that are near a natural number -/
def U : Nat := 2 ^ SC.toNat
def V (n : Nat) : Nat := n * U
def KK : Nat := 3998
def KM : Nat := 3798
theorem KK_eq : KK = 3998 := rfl
theorem KM_eq : KM = 3798 := rfl
attribute [irreducible] KK KM
theorem U_pos : 0 < U := Nat.pow_pos (by omega)
theorem W_zero (n : Nat) : W n 0 = V n := by unfold W V U; rw [Int.zero_add]
theorem W_eq_zero {m : Nat} {p : Int} (h : W m p = 0) : m = 0 := by
  unfold W at h
  rcases Nat.mul_eq_zero.1 h with h | h
  · exact h
  · have : 0 < 2 ^ (p + SC).toNat := Nat.pow_pos (by omega)
    omega
theorem twice20 : (D + 1) ^ 20 ≤ 2 * D ^ 20 := by decide
theorem Close.le2 {x y k : Nat} (h : Close x y k) (hk : k ≤ 20) : x ≤ 2 * y := by
  have h1 := (h.more hk).1
  have h2 : y * (D + 1) ^ 20 ≤ y * (2 * D ^ 20) := Nat.mul_le_mul_left y twice20
  have h3 : y * (2 * D ^ 20) = 2 * y * D ^ 20 := by rw [Nat.mul_left_comm, Nat.mul_assoc]
  exact Nat.le_of_mul_le_mul_right (Nat.le_trans h1 (by rw [← h3]; exact h2)) (Nat.pow_pos D_pos)
theorem pow_lt_of {a b : Nat} (h : 2 ^ a < 2 ^ b) : a < b := (Nat.pow_lt_pow_iff_right (by omega)).1 h
theorem W_low {m : Nat} {p : Int} (hp : -4000 ≤ p) {a : Nat} (h : 2 ^ (a + 1) ≤ W m p) : (a : Int) - 4000 ≤ p + (m.log2 : Int) := by
  have h1 := lt_log2 m
  have h2 : W m p < 2 ^ (m.log2 + 1 + (p + SC).toNat) := by
    unfold W; rw [Nat.pow_add]; exact Nat.mul_lt_mul_of_pos_right h1 (Nat.pow_pos (by omega))
  have h3 := pow_lt_of (Nat.lt_of_le_of_lt h h2)
  unfold SC at h3
  omega
theorem W_high {m : Nat} {p : Int} (hp : -4000 ≤ p) (hm : m ≠ 0) {a : Nat} (h : W m p < 2 ^ a) : p + (m.log2 : Int) < (a : Int) - 4000 := by
  have h1 := log2_le hm
  have h2 : 2 ^ (m.log2 + (p + SC).toNat) ≤ W m p := by
    unfold W; rw [Nat.pow_add]; exact Nat.mul_le_mul_right _ h1
  have h3 := pow_lt_of (Nat.lt_of_le_of_lt h2 h)
  unfold SC at h3
  omega
theorem U_eq : U = 2 ^ (KK + 1 + 1) := by unfold U; congr 1; rw [KK_eq]; rfl
theorem V_lt {n a : Nat} (h : n < 2 ^ a) : V n < 2 ^ (a + (KK + 1 + 1)) := by
  unfold V; rw [Nat.pow_add, ← U_eq]; exact Nat.mul_lt_mul_of_pos_right h U_pos
theorem V_ge {n : Nat} (h : 0 < n) : 2 ^ (KK + 1 + 1) ≤ V n := by
  unfold V; rw [← U_eq]; exact Nat.le_mul_of_pos_left U h
/-- The word r reads as a number that is near n: no more than k roundings lie between. -/
def Fl (r n k : Nat) : Prop := ∃ m p, double.read r = .number false m p ∧ -1074 ≤ p ∧ p ≤ 1000 ∧ Close (W m p) (V n) k
theorem half_le {a x y : Nat} (h : 2 ^ (a + 1) ≤ y) (h2 : y ≤ 2 * x) : 2 ^ a ≤ x := by rw [Nat.pow_succ] at h; omega
theorem dbl_lt {a x y : Nat} (h : y < 2 ^ a) (h2 : x ≤ 2 * y) : x < 2 ^ (a + 1) := by rw [Nat.pow_succ]; omega
theorem Close_zero_iff {x k : Nat} (h : Close x (V 0) k) : x = 0 := by
  have : V 0 = 0 := Nat.zero_mul _
  rw [this] at h; exact h.zero
theorem read_zero : double.read 0 = .number false 0 (-1074) := by decide
theorem nearest_zero (place : Int) : double.nearest false 0 place = 0 := by unfold Format.nearest; rw [if_pos rfl]; rfl
theorem fl_zero (k : Nat) : Fl 0 0 k := ⟨0, -1074, read_zero, by omega, by omega, by
  have e1 : W 0 (-1074) = 0 := Nat.zero_mul _
  have e2 : V 0 = 0 := Nat.zero_mul _
  rw [e1, e2]; exact (Close.refl 0).more (Nat.zero_le _)⟩
theorem fl_round {mag : Nat} {place : Int} {n k : Nat} (hp : -4000 ≤ place) (h : Close (W mag place) (V n) k) (hn : n < 2 ^ 200) (hk : k ≤ 19) : Fl (double.nearest false mag place) n (k + 1) := by
  rcases Nat.eq_zero_or_pos n with h0 | h0
  · subst h0
    have hm := W_eq_zero (Close_zero_iff h)
    subst hm
    rw [nearest_zero]; exact fl_zero _
  · have b1 := V_lt hn
    have b2 := V_ge h0
    have c1 := h.le2 (by omega)
    have c2 := h.symm.le2 (by omega)
    have d1 : 2 ^ (KK + 1) ≤ W mag place := half_le (a := KK + 1) b2 c2
    have d2 : W mag place < 2 ^ (200 + (KK + 1 + 1) + 1) := dbl_lt (a := 200 + (KK + 1 + 1)) b1 c1
    have hm : mag ≠ 0 := by
      intro e; subst e
      have : W 0 place = 0 := Nat.zero_mul _
      rw [this] at d1
      have : 0 < 2 ^ (KK + 1) := Nat.pow_pos (by omega)
      omega
    obtain ⟨m, p, r, _, p1, p2, c⟩ := nearest_close mag place hm hp (by have := W_low hp d1; have := KK_eq; omega) (by have := W_high hp hm d2; have := KK_eq; omega)
    exact ⟨m, p, r, p1, p2, by rw [Nat.add_comm]; exact c.trans h⟩
theorem fl_of (n : Nat) (hn : n < 2 ^ 200) : Fl (double.nearest false n 0) n 1 :=
  fl_round (k := 0) (by omega) (by rw [W_zero]; exact Close.refl _) hn (by omega)
theorem W_mul {m n : Nat} {i j : Int} (hi : -1074 ≤ i) (hj : -1074 ≤ j) : W (m * n) (i + j) * U = W m i * W n j := by
  unfold W U
  rw [mul4, ← Nat.pow_add, Nat.mul_assoc, ← Nat.pow_add]
  congr 2
  unfold SC
  omega
theorem V_mul (x y : Nat) : V (x * y) * U = V x * V y := by unfold V; rw [mul4, Nat.mul_assoc]
theorem fl_mul {r s x y k l : Nat} (h1 : Fl r x k) (h2 : Fl s y l) (hn : x * y < 2 ^ 200) (hk : k + l ≤ 19) : ∃ t, double.mul r s = some t ∧ Fl t (x * y) (k + l + 1) := by
  obtain ⟨m, i, e1, i1, i2, c1⟩ := h1
  obtain ⟨n, j, e2, j1, j2, c2⟩ := h2
  refine ⟨_, ?_, fl_round (mag := m * n) (place := i + j) (by omega) ?_ hn hk⟩
  · unfold Format.mul
    rw [e1, e2]; rfl
  · refine Close.cancel U_pos ?_
    rw [W_mul i1 j1, V_mul]
    exact c1.mul c2
theorem W_base {m : Nat} {i b : Int} (hb : -4000 ≤ b) (h : b ≤ i) : W (m <<< (i - b).toNat) b = W m i := by
  rw [Nat.shiftLeft_eq, W_pow hb]; congr 1; omega
theorem W_add (m n : Nat) (p : Int) : W (m + n) p = W m p + W n p := by unfold W; rw [Nat.add_mul]
theorem sum_pos (m n : Nat) (i j : Int) : (Datum.number false m i).sum (.number false n j) = some (.number false (m <<< (i - min i j).toNat + n <<< (j - min i j).toNat) (min i j)) := by
  unfold Datum.sum
  simp only [signed, Bool.false_eq_true, if_false, Bool.and_self]
  have e : ((m <<< (i - min i j).toNat : Nat) : Int) + ((n <<< (j - min i j).toNat : Nat) : Int) = ((m <<< (i - min i j).toNat + n <<< (j - min i j).toNat : Nat) : Int) := by rw [Int.natCast_add]
  rw [e]
  generalize m <<< (i - min i j).toNat + n <<< (j - min i j).toNat = t
  have h1 : (if ((t : Nat) : Int) = 0 then false else decide (((t : Nat) : Int) < 0)) = false := by
    split
    · rfl
    · exact decide_eq_false (by omega)
  rw [h1, Int.natAbs_natCast]
theorem fl_add {r s x y k l : Nat} (h1 : Fl r x k) (h2 : Fl s y l) (hn : x + y < 2 ^ 200) (hl : l ≤ k) (hk : k ≤ 19) : ∃ t, double.add r s = some t ∧ Fl t (x + y) (k + 1) := by
  obtain ⟨m, i, e1, i1, i2, c1⟩ := h1
  obtain ⟨n, j, e2, j1, j2, c2⟩ := h2
  refine ⟨_, ?_, fl_round (mag := m <<< (i - min i j).toNat + n <<< (j - min i j).toNat) (place := min i j) (by omega) ?_ hn hk⟩
  · unfold Format.add
    rw [e1, e2, sum_pos]; rfl
  · rw [W_add, W_base (by omega) (by omega), W_base (by omega) (by omega)]
    have : V (x + y) = V x + V y := by unfold V; rw [Nat.add_mul]
    rw [this]
    exact c1.add (c2.more hl)

/-! the quotient -/
theorem quot_mid {dv n : Nat} (hn : 0 < n) : (2 * (dv / n) + (dv % n != 0).toNat) * n ≤ 2 * dv + n ∧ 2 * dv ≤ (2 * (dv / n) + (dv % n != 0).toNat) * n + n := by
  have h1 := Nat.div_add_mod dv n
  have h2 := Nat.mod_lt dv hn
  generalize hq : dv / n = q at *
  generalize hr : dv % n = r at *
  by_cases h0 : r = 0
  · subst h0
    have e : (2 * q + ((0 : Nat) != 0).toNat) * n = 2 * (n * q) := by
      show (2 * q + 0) * n = _
      rw [Nat.add_zero, Nat.mul_assoc, Nat.mul_comm q]
    rw [e]; omega
  · have hb : (r != 0) = true := by simp [h0]
    have e : (2 * q + (r != 0).toNat) * n = 2 * (n * q) + n := by
      rw [hb]
      show (2 * q + 1) * n = _
      rw [Nat.add_mul, Nat.one_mul, Nat.mul_assoc, Nat.mul_comm q]
    rw [e]; omega
theorem fl_div {r s x y k l : Nat} (h1 : Fl r x k) (h2 : Fl s y l) (hx0 : 0 < x) (hy0 : 0 < y) (hx : x < 2 ^ 200) (hy : y < 2 ^ 200) (hk : k + l ≤ 17) :
    ∃ t m p, double.div r s = some t ∧ double.read t = .number false m p ∧ -1074 ≤ p ∧ p ≤ 1000 ∧ Close (W m p * y) (V x) (k + l + 2) := by
  obtain ⟨m, i, e1, i1, i2, c1⟩ := h1
  obtain ⟨n, j, e2, j1, j2, c2⟩ := h2
  have bx1 := V_lt hx
  have bx2 := V_ge hx0
  have by1 := V_lt hy
  have by2 := V_ge hy0
  have m1 : 2 ^ (KK + 1) ≤ W m i := half_le (a := KK + 1) bx2 (c1.symm.le2 (by omega))
  have n1 : 2 ^ (KK + 1) ≤ W n j := half_le (a := KK + 1) by2 (c2.symm.le2 (by omega))
  have n2 : W n j < 2 ^ (200 + (KK + 1 + 1) + 1) := dbl_lt (a := 200 + (KK + 1 + 1)) by1 (c2.le2 (by omega))
  have hpos : ∀ a : Nat, 0 < 2 ^ a := fun a => Nat.pow_pos (by omega)
  have hm : m ≠ 0 := by
    intro e; subst e
    have : W 0 i = 0 := Nat.zero_mul _
    have := hpos (KK + 1); omega
  have hn : n ≠ 0 := by
    intro e; subst e
    have : W 0 j = 0 := Nat.zero_mul _
    have := hpos (KK + 1); omega
  have ln := W_high (by omega) hn n2
  rw [KK_eq] at ln
  obtain ⟨more, hmore⟩ : ∃ more, more = 54 + n.log2 - m.log2 := ⟨_, rfl⟩
  obtain ⟨dv, hdv⟩ : ∃ dv, dv = m * 2 ^ more := ⟨_, rfl⟩
  obtain ⟨q, hq⟩ : ∃ q, q = 2 * (dv / n) + (dv % n != 0).toNat := ⟨_, rfl⟩
  obtain ⟨pl, hpl⟩ : ∃ pl : Int, pl = i - j - more - 1 := ⟨_, rfl⟩
  have hdiv : double.div r s = some (double.nearest false q pl) := by
    unfold Format.div
    rw [e1, e2]
    unfold Datum.quotient
    simp only [if_neg hn, frac_eq]
    rw [hq, hpl, hdv, hmore, Nat.shiftLeft_eq]
    rfl
  have hbig : 2 ^ 53 * n ≤ dv := by
    have a1 := log2_le hm
    have a2 := lt_log2 n
    have a3 : 2 ^ (54 + n.log2) ≤ m * 2 ^ more := by
      refine Nat.le_trans ?_ (Nat.mul_le_mul_right (2 ^ more) a1)
      rw [← Nat.pow_add]
      exact Nat.pow_le_pow_right (by omega) (by omega)
    have a4 : 2 ^ (54 + n.log2) = 2 ^ 53 * 2 ^ (n.log2 + 1) := by rw [← Nat.pow_add]; congr 1; omega
    rw [hdv]
    refine Nat.le_trans ?_ a3
    rw [a4]
    exact Nat.mul_le_mul_left _ (Nat.le_of_lt a2)
  have hmid := quot_mid (dv := dv) (n := n) (by omega)
  rw [← hq] at hmid
  have cq : Close (q * n) (2 * dv) 1 := by
    unfold Close D
    rw [Nat.pow_one, Nat.pow_one]
    have h53 : (2 : Nat) ^ 53 = 9007199254740992 := rfl
    rw [h53] at hbig
    generalize q * n = t at *
    omega
  have cw : Close (W q pl * W n j) (W m i * U) 1 := by
    have ea : W q pl * W n j = q * n * 2 ^ ((pl + SC).toNat + (j + SC).toNat) := by unfold W; rw [mul4, ← Nat.pow_add]
    have eb : W m i * U = 2 * dv * 2 ^ ((pl + SC).toNat + (j + SC).toNat) := by
      unfold W U
      rw [hdv, Nat.mul_assoc, ← Nat.pow_add]
      have : 2 * (m * 2 ^ more) = m * 2 ^ (more + 1) := by rw [Nat.pow_succ, Nat.mul_left_comm, Nat.mul_comm 2]
      rw [this, Nat.mul_assoc, ← Nat.pow_add]
      congr 2
      unfold SC
      omega
    rw [ea, eb]
    have := cq.mul (Close.refl (2 ^ ((pl + SC).toNat + (j + SC).toNat)))
    exact this
  have c3 : Close (W q pl * y) (V x) (k + l + 1) := by
    refine Close.cancel U_pos ?_
    have s1 : Close (W q pl * V y) (W q pl * W n j) (0 + l) := (Close.refl _).mul c2.symm
    have s2 : Close (W m i * U) (V x * U) (k + 0) := c1.mul (Close.refl _)
    have s3 := (s1.trans cw).trans s2
    rw [show W q pl * y * U = W q pl * V y from Nat.mul_assoc _ _ _]
    exact s3.more (by omega)
  have w1 : W q pl * y ≤ 2 * V x := c3.le2 (by omega)
  have w2 : V x ≤ 2 * (W q pl * y) := c3.symm.le2 (by omega)
  have w3 : W q pl < 2 ^ (200 + (KK + 1 + 1) + 1) := Nat.lt_of_le_of_lt (Nat.le_mul_of_pos_right _ hy0) (dbl_lt (a := 200 + (KK + 1 + 1)) bx1 w1)
  have w4 : 2 ^ (KM + 1) ≤ W q pl := by
    have g1 : 2 ^ (KK + 1) ≤ W q pl * y := half_le (a := KK + 1) bx2 w2
    have g2 : W q pl * y ≤ W q pl * 2 ^ 200 := Nat.mul_le_mul_left _ (Nat.le_of_lt hy)
    have g3 : 2 ^ (KM + 1) * 2 ^ 200 = 2 ^ (KK + 1) := by rw [← Nat.pow_add]; congr 1; rw [KK_eq, KM_eq]
    exact Nat.le_of_mul_le_mul_right (by rw [g3]; exact Nat.le_trans g1 g2) (hpos 200)
  have hq0 : q ≠ 0 := by
    intro e; rw [e] at w4
    have : W 0 pl = 0 := Nat.zero_mul _
    have := hpos (KM + 1); omega
  have hplo : -4000 ≤ pl := by omega
  obtain ⟨m', p', rd, _, p1, p2, c4⟩ := nearest_close q pl hq0 hplo (by have := W_low hplo w4; have := KM_eq; omega) (by have := W_high hplo hq0 w3; have := KK_eq; omega)
  refine ⟨_, m', p', hdiv, rd, p1, p2, ?_⟩
  have c5 : Close (W m' p' * y) (W q pl * y) (1 + 0) := c4.mul (Close.refl y)
  exact (c5.trans c3).more (by omega)

/-! cut to a whole number -/
theorem toInt_floor {r m : Nat} {p : Int} (h : double.read r = .number false m p) (hp : -1074 ≤ p) : ∃ g : Nat, (double.read r).toInt .zero = some (g : Int) ∧ g * U ≤ W m p ∧ W m p < (g + 1) * U := by
  refine ⟨m <<< p.toNat / 2 ^ (-p).toNat, ?_, ?_⟩
  · rw [h]
    unfold Datum.toInt Datum.integral
    simp only [cut_zero, signed, Bool.false_eq_true, if_false, Nat.shiftLeft_zero]
  · rw [Nat.shiftLeft_eq]
    by_cases h0 : 0 ≤ p
    · rw [show (-p).toNat = 0 by omega, Nat.pow_zero, Nat.div_one]
      have e : W m p = m * 2 ^ p.toNat * U := by
        unfold W U
        rw [Nat.mul_assoc, ← Nat.pow_add]
        congr 2
        unfold SC; omega
      rw [e]
      exact ⟨Nat.le_refl _, Nat.mul_lt_mul_of_pos_right (by omega) U_pos⟩
    · rw [show p.toNat = 0 by omega, Nat.pow_zero, Nat.mul_one]
      have e : U = 2 ^ (-p).toNat * 2 ^ (p + SC).toNat := by
        unfold U
        rw [← Nat.pow_add]
        congr 1
        unfold SC; omega
      have hg : 0 < 2 ^ (-p).toNat := Nat.pow_pos (by omega)
      have ht : 0 < 2 ^ (p + SC).toNat := Nat.pow_pos (by omega)
      have h1 := Nat.div_add_mod m (2 ^ (-p).toNat)
      have h2 := Nat.mod_lt m hg
      rw [e]
      unfold W
      rw [← Nat.mul_assoc, ← Nat.mul_assoc]
      refine ⟨Nat.mul_le_mul_right _ ?_, Nat.mul_lt_mul_of_pos_right ?_ ht⟩
      · rw [Nat.mul_comm]; omega
      · rw [Nat.add_mul, Nat.mul_comm]; omega
theorem pow12 : (D + 1) ^ 12 * 1099511627776 ≤ D ^ 12 * 1099511627777 := by decide
/-- The quotient of two words that are near t and d, cut to a whole number, is near t / d. -/
theorem guess {r s t d k l : Nat} (h1 : Fl r t k) (h2 : Fl s d l) (ht0 : 0 < t) (hd0 : 0 < d) (ht : t < 2 ^ 200) (hd : d < 2 ^ 200) (hk : k + l ≤ 10) (hq : t < 2147483648 * d) :
    ∃ (u g : Nat), double.div r s = some u ∧ (double.read u).toInt .zero = some (g : Int) ∧ g * d ≤ t + d ∧ t ≤ (g + 2) * d ∧ g ≤ 2147483648 := by
  obtain ⟨u, m, p, e, rd, p1, p2, c⟩ := fl_div h1 h2 ht0 hd0 ht hd (by omega)
  obtain ⟨g, hi, g1, g2⟩ := toInt_floor rd p1
  have c12 := c.more (by omega : k + l + 2 ≤ 12)
  obtain ⟨a1, a2⟩ := c12
  have hD : 0 < D ^ 12 := Nat.pow_pos D_pos
  have b1 : g * d * D ^ 12 ≤ t * (D + 1) ^ 12 := by
    refine Nat.le_of_mul_le_mul_right (c := U) ?_ U_pos
    have s1 : g * U * d ≤ W m p * d := Nat.mul_le_mul_right d g1
    have s2 := Nat.mul_le_mul_right (D ^ 12) s1
    have e1 : g * U * d * D ^ 12 = g * d * D ^ 12 * U := by rw [Nat.mul_right_comm g U d, Nat.mul_right_comm (g * d) U]
    have e2 : V t * (D + 1) ^ 12 = t * (D + 1) ^ 12 * U := by unfold V; rw [Nat.mul_right_comm]
    rw [← e1, ← e2]
    exact Nat.le_trans s2 a1
  have b2 : t * D ^ 12 ≤ (g + 1) * d * (D + 1) ^ 12 := by
    refine Nat.le_of_mul_le_mul_right (c := U) ?_ U_pos
    have s1 : W m p * d ≤ (g + 1) * U * d := Nat.mul_le_mul_right d (Nat.le_of_lt g2)
    have s2 := Nat.mul_le_mul_right ((D + 1) ^ 12) s1
    have e1 : (g + 1) * U * d * (D + 1) ^ 12 = (g + 1) * d * (D + 1) ^ 12 * U := by rw [Nat.mul_right_comm (g + 1) U d, Nat.mul_right_comm ((g + 1) * d) U]
    have e2 : V t * D ^ 12 = t * D ^ 12 * U := by unfold V; rw [Nat.mul_right_comm]
    rw [← e1, ← e2]
    exact Nat.le_trans a2 s2
  have key : ∀ a b : Nat, a * D ^ 12 ≤ b * (D + 1) ^ 12 → a * 1099511627776 ≤ b * 1099511627777 := by
    intro a b h
    refine Nat.le_of_mul_le_mul_right (c := D ^ 12) ?_ hD
    have s1 := Nat.mul_le_mul_right 1099511627776 h
    have s2 := Nat.mul_le_mul_left b pow12
    have e1 : a * 1099511627776 * D ^ 12 = a * D ^ 12 * 1099511627776 := Nat.mul_right_comm _ _ _
    have e2 : b * (D + 1) ^ 12 * 1099511627776 = b * ((D + 1) ^ 12 * 1099511627776) := Nat.mul_assoc _ _ _
    have e3 : b * (D ^ 12 * 1099511627777) = b * 1099511627777 * D ^ 12 := by rw [Nat.mul_comm (D ^ 12), Nat.mul_assoc]
    rw [e1, ← e3]
    rw [e2] at s1
    exact Nat.le_trans s1 s2
  have k1 := key _ _ b1
  have k2 := key _ _ b2
  have q1 : g * d ≤ t + d := by omega
  have q2 : g ≤ 2147483648 := by
    have : g * d < 2147483649 * d := by omega
    have := Nat.lt_of_mul_lt_mul_right this
    omega
  refine ⟨u, g, e, hi, q1, ?_, q2⟩
  have e1 : (g + 1) * d = g * d + d := by rw [Nat.add_mul, Nat.one_mul]
  have e2 : (g + 2) * d = g * d + 2 * d := Nat.add_mul _ _ _
  have e3 : g * d ≤ 2147483648 * d := Nat.mul_le_mul_right d q2
  rw [e1] at k2
  rw [e2]
  omega
end Go.Proofs.YtgchbbjhdeobpaaGreatDoor.Flo
