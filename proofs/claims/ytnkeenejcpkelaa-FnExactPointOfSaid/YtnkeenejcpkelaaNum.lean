/-
  Plain facts on natural numbers in base 1000000000: digits, values, the digit loops of sum, difference, product and quotient. No program is mentioned here.
-/
namespace Go.Proofs.Ytnkeenejcpkelaa.Num
set_option linter.unusedVariables false

/-- The base. -/
def B : Nat := 1000000000
theorem B_eq : B = 1000000000 := rfl
attribute [irreducible] B

/-- Digit i of n. -/
def dig (n i : Nat) : Nat := n / B ^ i % B
/-- The lowest k digits of n, the least first. -/
def low (k n : Nat) : List Nat := (List.range k).map (dig n)
/-- How many digits n has. -/
def lenF : Nat → Nat → Nat
  | 0, _ => 0
  | f + 1, n => if n = 0 then 0 else lenF f (n / B) + 1
def len (n : Nat) : Nat := lenF n n
/-- The digits of n. -/
def digs (n : Nat) : List Nat := low (len n) n
/-- The value of a list of digits. -/
def val : List Nat → Nat
  | [] => 0
  | d :: r => d + B * val r

theorem B_pos : 0 < B := by rw [B_eq]; decide
theorem B_gt : 1 < B := by rw [B_eq]; decide
theorem pow_pos (i : Nat) : 0 < B ^ i := Nat.pow_pos B_pos
theorem pow_le {i j : Nat} (h : i ≤ j) : B ^ i ≤ B ^ j := Nat.pow_le_pow_right B_pos h
theorem pow_lt {i j : Nat} (h : i < j) : B ^ i < B ^ j := Nat.pow_lt_pow_right B_gt h
theorem pow_succ' (i : Nat) : B ^ (i + 1) = B * B ^ i := by rw [Nat.pow_succ, Nat.mul_comm]

theorem dig_lt (n i : Nat) : dig n i < B := Nat.mod_lt _ B_pos
theorem dig_le (n i : Nat) : dig n i ≤ 999999999 := by have := dig_lt n i; simp only [B_eq] at this; omega
theorem low_length (k n : Nat) : (low k n).length = k := by simp [low]
theorem low_get (k n i : Nat) (h : i < k) : (low k n)[i]? = some (dig n i) := by simp [low, h]
theorem low_getD (k n i : Nat) (h : i < k) : (low k n).getD i 0 = dig n i := by simp [List.getD, low_get k n i h]
theorem low_zero (n : Nat) : low 0 n = [] := rfl
theorem low_succ (k n : Nat) : low (k + 1) n = low k n ++ [dig n k] := by simp [low, List.range_succ]

theorem lenF_spec : ∀ f n, n ≤ f → n < B ^ lenF f n ∧ (lenF f n ≠ 0 → B ^ (lenF f n - 1) ≤ n)
  | 0, n, h => by
    have : n = 0 := by omega
    subst this
    simp [lenF]
  | f + 1, n, h => by
    unfold lenF
    split
    · next h0 => subst h0; simp
    · next h0 =>
      have hq : n / B ≤ f := by
        have : n / B < n := Nat.div_lt_self (by omega) B_gt
        omega
      obtain ⟨h1, h2⟩ := lenF_spec f (n / B) hq
      have hdm := Nat.div_add_mod n B
      have hm := Nat.mod_lt n B_pos
      constructor
      · rw [pow_succ']
        have : B * (n / B + 1) ≤ B * B ^ lenF f (n / B) := Nat.mul_le_mul_left B h1
        rw [Nat.mul_add] at this
        omega
      · intro _
        simp only [Nat.add_sub_cancel]
        by_cases hl : lenF f (n / B) = 0
        · rw [hl]; simp; omega
        · have h3 := h2 hl
          have e : lenF f (n / B) = (lenF f (n / B) - 1) + 1 := by omega
          rw [e, pow_succ']
          have : B * B ^ (lenF f (n / B) - 1) ≤ B * (n / B) := Nat.mul_le_mul_left B h3
          omega
theorem lt_len (n : Nat) : n < B ^ len n := (lenF_spec n n (Nat.le_refl n)).1
theorem len_le_of (n : Nat) (h : len n ≠ 0) : B ^ (len n - 1) ≤ n := (lenF_spec n n (Nat.le_refl n)).2 h
theorem len_zero : len 0 = 0 := rfl
theorem len_eq_zero {n : Nat} : len n = 0 ↔ n = 0 := by
  constructor
  · intro h; have := lt_len n; rw [h] at this; simp at this; exact this
  · rintro rfl; rfl
theorem len_le_iff {n k : Nat} : len n ≤ k ↔ n < B ^ k := by
  constructor
  · intro h; exact Nat.lt_of_lt_of_le (lt_len n) (pow_le h)
  · intro h
    by_cases h0 : len n = 0
    · omega
    · have h1 := len_le_of n h0
      have h2 : B ^ (len n - 1) < B ^ k := Nat.lt_of_le_of_lt h1 h
      by_cases h3 : k ≤ len n - 1
      · have := pow_le h3; omega
      · omega
theorem lt_len_iff {n k : Nat} : k < len n ↔ B ^ k ≤ n := by
  have := @len_le_iff n k
  omega
theorem len_eq {n k : Nat} (h1 : n < B ^ k) (h2 : k ≠ 0 → B ^ (k - 1) ≤ n) : len n = k := by
  have a := len_le_iff.2 h1
  by_cases h0 : k = 0
  · omega
  · have := lt_len_iff.2 (h2 h0)
    omega
theorem len_mono {m n : Nat} (h : m ≤ n) : len m ≤ len n := len_le_iff.2 (Nat.lt_of_le_of_lt h (lt_len n))

theorem digs_length (n : Nat) : (digs n).length = len n := low_length _ _
theorem digs_zero : digs 0 = [] := rfl
theorem dig_big {n i : Nat} (h : n < B ^ i) : dig n i = 0 := by simp [dig, Nat.div_eq_of_lt h]
theorem dig_of_len {n i : Nat} (h : len n ≤ i) : dig n i = 0 := dig_big (len_le_iff.1 h)
theorem digs_getD (n i : Nat) : (digs n).getD i 0 = dig n i := by
  by_cases h : i < len n
  · exact low_getD _ _ _ h
  · rw [dig_of_len (by omega), List.getD_eq_getElem?_getD, List.getElem?_eq_none (by rw [digs_length]; omega)]; rfl
theorem digs_get (n i : Nat) (h : i < len n) : (digs n)[i]? = some (dig n i) := low_get _ _ _ h
theorem low_eq_digs {k n : Nat} (h1 : n < B ^ k) (h2 : k ≠ 0 → B ^ (k - 1) ≤ n) : low k n = digs n := by
  unfold digs; rw [len_eq h1 h2]
theorem top_pos {n : Nat} (h : n ≠ 0) : dig n (len n - 1) ≠ 0 := by
  have h0 : len n ≠ 0 := fun h' => h (len_eq_zero.1 h')
  have h1 := len_le_of n h0
  have h2 := lt_len n
  have e : B ^ len n = B * B ^ (len n - 1) := by
    have : len n = (len n - 1) + 1 := by omega
    rw [this, pow_succ']; simp
  unfold dig
  have h3 : n / B ^ (len n - 1) < B := by
    rw [Nat.div_lt_iff_lt_mul (pow_pos _)]; omega
  rw [Nat.mod_eq_of_lt h3]
  have : 1 ≤ n / B ^ (len n - 1) := (Nat.le_div_iff_mul_le (pow_pos _)).2 (by omega)
  omega

/-! values of lists -/
theorem val_append (l r : List Nat) : val (l ++ r) = val l + B ^ l.length * val r := by
  induction l with
  | nil => simp [val]
  | cons d l ih =>
    simp only [List.cons_append, val, ih, List.length_cons, pow_succ', Nat.mul_add, Nat.mul_assoc]
    omega
theorem val_lt {l : List Nat} (h : ∀ d ∈ l, d < B) : val l < B ^ l.length := by
  induction l with
  | nil => simp [val]
  | cons d l ih =>
    have h1 := h d (by simp)
    have h2 := ih fun x hx => h x (by simp [hx])
    simp only [val, List.length_cons, pow_succ']
    have : B * (val l + 1) ≤ B * B ^ l.length := Nat.mul_le_mul_left B h2
    rw [Nat.mul_add] at this
    omega
theorem mod_pow_succ (n k : Nat) : n % B ^ (k + 1) = n % B ^ k + B ^ k * dig n k := by
  unfold dig; rw [Nat.pow_succ, Nat.mod_mul]
theorem val_low (k n : Nat) : val (low k n) = n % B ^ k := by
  induction k with
  | zero => simp [low, val, Nat.mod_one]
  | succ k ih => rw [low_succ, val_append, ih, low_length, mod_pow_succ]; simp [val]
theorem val_digs (n : Nat) : val (digs n) = n := by unfold digs; rw [val_low, Nat.mod_eq_of_lt (lt_len n)]
theorem digs_inj {m n : Nat} (h : digs m = digs n) : m = n := by rw [← val_digs m, h, val_digs]
theorem dig_cons_zero {d v : Nat} (h : d < B) : dig (d + B * v) 0 = d := by
  unfold dig
  rw [Nat.pow_zero, Nat.div_one, Nat.add_mul_mod_self_left, Nat.mod_eq_of_lt h]
theorem dig_cons_succ {d v : Nat} (i : Nat) (h : d < B) : dig (d + B * v) (i + 1) = dig v i := by
  unfold dig
  rw [pow_succ', ← Nat.div_div_eq_div_mul, Nat.add_mul_div_left _ _ B_pos, Nat.div_eq_of_lt h, Nat.zero_add]
theorem low_cons {d v : Nat} (k : Nat) (h : d < B) : low (k + 1) (d + B * v) = d :: low k v := by
  apply List.ext_getElem?
  intro i
  cases i with
  | zero => rw [low_get _ _ _ (by omega), dig_cons_zero h]; rfl
  | succ i =>
    rw [List.getElem?_cons_succ]
    by_cases hi : i < k
    · rw [low_get _ _ _ (by omega), dig_cons_succ i h, low_get _ _ _ hi]
    · rw [List.getElem?_eq_none (by rw [low_length]; omega), List.getElem?_eq_none (by rw [low_length]; omega)]
theorem low_of_list : ∀ (l : List Nat), (∀ d ∈ l, d < B) → l = low l.length (val l)
  | [], _ => rfl
  | d :: l, h => by
    have h1 := h d (by simp)
    have h2 := low_of_list l fun x hx => h x (by simp [hx])
    have e : low (d :: l).length (val (d :: l)) = d :: low l.length (val l) := low_cons l.length h1
    rw [e, ← h2]
/-- A list of digits whose last is not 0 is the list of its value's digits. -/
theorem digs_of_list {l : List Nat} (h : ∀ d ∈ l, d < B) (hl : l ≠ [] → l.getD (l.length - 1) 0 ≠ 0) : l = digs (val l) := by
  have e := low_of_list l h
  by_cases h0 : l = []
  · subst h0; rfl
  · have hlen : 0 < l.length := List.length_pos_iff.2 h0
    have ht := hl h0
    rw [e] at ht
    simp only [low_length] at ht
    rw [low_getD _ _ _ (by omega)] at ht
    refine e.trans (low_eq_digs (val_lt h) fun _ => ?_)
    have : ¬ val l < B ^ (l.length - 1) := fun hlt => ht (dig_big hlt)
    omega

/-! comparison -/
theorem lt_of_len {x y : Nat} (h : len x < len y) : x < y := by
  have := lt_len x
  have h1 := lt_len_iff.1 h
  have := pow_le (Nat.le_refl (len x))
  omega
theorem div_pow_succ (x i : Nat) : x / B ^ i = B * (x / B ^ (i + 1)) + dig x i := by
  unfold dig
  rw [Nat.pow_succ, ← Nat.div_div_eq_div_mul]
  exact (Nat.div_add_mod _ _).symm
/-- The digits above i agree, digit i is smaller: the number is smaller. -/
theorem lt_of_dig {x y i : Nat} (he : x / B ^ (i + 1) = y / B ^ (i + 1)) (h : dig x i < dig y i) : x < y := by
  have h1 := div_pow_succ x i
  have h2 := div_pow_succ y i
  rw [he] at h1
  have : x / B ^ i < y / B ^ i := by omega
  exact Nat.lt_of_not_le fun hle => by have := Nat.div_le_div_right (c := B ^ i) hle; omega
theorem eq_div_step {x y i : Nat} (he : x / B ^ (i + 1) = y / B ^ (i + 1)) (h : dig x i = dig y i) : x / B ^ i = y / B ^ i := by
  rw [div_pow_succ x i, div_pow_succ y i, he, h]

/-! the loop of a sum -/
def carry (x y i : Nat) : Nat := (x % B ^ i + y % B ^ i) / B ^ i
theorem carry_zero (x y : Nat) : carry x y 0 = 0 := by simp [carry, Nat.mod_one]
theorem carry_le (x y i : Nat) : carry x y i ≤ 1 := by
  unfold carry
  have h1 := Nat.mod_lt x (pow_pos i)
  have h2 := Nat.mod_lt y (pow_pos i)
  have : (x % B ^ i + y % B ^ i) / B ^ i < 2 := by rw [Nat.div_lt_iff_lt_mul (pow_pos i)]; omega
  omega
theorem sum_div (x y i : Nat) : (x + y) / B ^ i = x / B ^ i + y / B ^ i + carry x y i := by
  unfold carry
  have h1 := Nat.div_add_mod x (B ^ i)
  have h2 := Nat.div_add_mod y (B ^ i)
  conv => lhs; rw [← h1, ← h2]
  rw [show B ^ i * (x / B ^ i) + x % B ^ i + (B ^ i * (y / B ^ i) + y % B ^ i) = (x % B ^ i + y % B ^ i) + B ^ i * (x / B ^ i + y / B ^ i) from by rw [Nat.mul_add]; omega]
  rw [Nat.add_mul_div_left _ _ (pow_pos i)]; omega
theorem sum_dig (x y i : Nat) : (dig x i + dig y i + carry x y i) % B = dig (x + y) i := by
  unfold dig; rw [sum_div]; simp only [B_eq]; omega
theorem sum_carry (x y i : Nat) : (dig x i + dig y i + carry x y i) / B = carry x y (i + 1) := by
  have h1 := sum_div x y i
  have h2 := sum_div x y (i + 1)
  have h3 := div_pow_succ x i
  have h4 := div_pow_succ y i
  have h5 := div_pow_succ (x + y) i
  have h6 := sum_dig x y i
  simp only [B_eq] at *
  omega
theorem sum_end {x y k : Nat} (hx : len x ≤ k) (hy : len y ≤ k) (hc : carry x y k = 0) : x + y < B ^ k := by
  have h1 := len_le_iff.1 hx
  have h2 := len_le_iff.1 hy
  unfold carry at hc
  rw [Nat.mod_eq_of_lt h1, Nat.mod_eq_of_lt h2] at hc
  exact (Nat.div_eq_zero_iff.1 hc).resolve_left (by have := pow_pos k; omega)
theorem sum_more {x y k : Nat} (h : k < len x ∨ k < len y ∨ 0 < carry x y k) : B ^ k ≤ x + y := by
  rcases h with h | h | h
  · have := lt_len_iff.1 h; omega
  · have := lt_len_iff.1 h; omega
  · unfold carry at h
    have h1 : 1 ≤ (x % B ^ k + y % B ^ k) / B ^ k := h
    have h2 := (Nat.le_div_iff_mul_le (pow_pos k)).1 h1
    have := Nat.mod_le x (B ^ k)
    have := Nat.mod_le y (B ^ k)
    omega
theorem sum_done {x y k : Nat} (hx : len x ≤ k) (hy : len y ≤ k) (hc : carry x y k = 0) (hp : k ≠ 0 → B ^ (k - 1) ≤ x + y) : low k (x + y) = digs (x + y) :=
  low_eq_digs (sum_end hx hy hc) hp

/-! the loop of a difference -/
def borrow (x y i : Nat) : Nat := if x % B ^ i < y % B ^ i then 1 else 0
theorem borrow_zero (x y : Nat) : borrow x y 0 = 0 := by simp [borrow, Nat.mod_one]
theorem borrow_le (x y i : Nat) : borrow x y i ≤ 1 := by unfold borrow; split <;> omega
theorem div_aux1 {b u v q : Nat} (hb : 0 < b) (h : u < v) (hv : v < b) : (b + u - v + b * q) / b = q := by
  rw [Nat.add_mul_div_left _ _ hb, Nat.div_eq_of_lt (by omega), Nat.zero_add]
theorem div_aux2 {b u v q : Nat} (hb : 0 < b) (hu : u < b) : (u - v + b * q) / b = q := by
  rw [Nat.add_mul_div_left _ _ hb, Nat.div_eq_of_lt (by omega), Nat.zero_add]
theorem diff_div {x y i : Nat} (h : y ≤ x) : (x - y) / B ^ i + y / B ^ i + borrow x y i = x / B ^ i := by
  have h1 := Nat.div_add_mod x (B ^ i)
  have h2 := Nat.div_add_mod y (B ^ i)
  have h3 := Nat.mod_lt x (pow_pos i)
  have h4 := Nat.mod_lt y (pow_pos i)
  have hq : y / B ^ i ≤ x / B ^ i := Nat.div_le_div_right h
  unfold borrow
  split
  · next hlt =>
    have hne : y / B ^ i ≠ x / B ^ i := fun e => by rw [e] at h2; omega
    obtain ⟨q, hq'⟩ : ∃ q, x / B ^ i = y / B ^ i + 1 + q := ⟨x / B ^ i - (y / B ^ i + 1), by omega⟩
    have e : x - y = (B ^ i + x % B ^ i - y % B ^ i) + B ^ i * q := by
      rw [hq', Nat.mul_add, Nat.mul_add, Nat.mul_one] at h1
      generalize B ^ i * q = Q at *
      generalize B ^ i * (y / B ^ i) = Y at *
      generalize B ^ i = b at *
      generalize x % b = u at *
      generalize y % b = v at *
      omega
    rw [e, div_aux1 (pow_pos i) hlt h4, hq']; omega
  · next hge =>
    obtain ⟨q, hq'⟩ : ∃ q, x / B ^ i = y / B ^ i + q := ⟨x / B ^ i - y / B ^ i, by omega⟩
    have e : x - y = (x % B ^ i - y % B ^ i) + B ^ i * q := by
      rw [hq', Nat.mul_add] at h1
      generalize B ^ i * q = Q at *
      generalize B ^ i * (y / B ^ i) = Y at *
      generalize B ^ i = b at *
      generalize x % b = u at *
      generalize y % b = v at *
      omega
    rw [e, div_aux2 (pow_pos i) h3, hq']; omega
theorem diff_step {x y : Nat} (i : Nat) (h : y ≤ x) :
    (dig y i + borrow x y i ≤ dig x i ∧ dig (x - y) i = dig x i - (dig y i + borrow x y i) ∧ borrow x y (i + 1) = 0) ∨
    (dig x i < dig y i + borrow x y i ∧ dig (x - y) i = B + dig x i - (dig y i + borrow x y i) ∧ borrow x y (i + 1) = 1) := by
  have h1 := diff_div (i := i) h
  have h2 := diff_div (i := i + 1) h
  have h3 := div_pow_succ x i
  have h4 := div_pow_succ y i
  have h5 := div_pow_succ (x - y) i
  have h6 := borrow_le x y i
  have h7 := borrow_le x y (i + 1)
  have h8 := dig_lt x i
  have h9 := dig_lt y i
  have h10 := dig_lt (x - y) i
  simp only [B_eq] at *
  omega

/-! the loop of a quotient by a digit -/
theorem quo_step (x n i : Nat) (hn : 0 < n) : ((x / B ^ (i + 1)) % n * B + dig x i) / n = (x / n) / B ^ i - B * ((x / n) / B ^ (i + 1)) ∧ ((x / B ^ (i + 1)) % n * B + dig x i) % n = (x / B ^ i) % n := by
  have h1 := div_pow_succ x i
  have h2 := Nat.div_add_mod (x / B ^ (i + 1)) n
  have e : x / B ^ i = ((x / B ^ (i + 1)) % n * B + dig x i) + n * (B * ((x / B ^ (i + 1)) / n)) := by
    rw [h1]
    conv => lhs; rw [← h2]
    rw [Nat.mul_add, Nat.mul_comm B (x / B ^ (i + 1) % n), Nat.mul_left_comm B n]
    omega
  have c : ∀ j, (x / n) / B ^ j = (x / B ^ j) / n := fun j => by rw [Nat.div_div_eq_div_mul, Nat.div_div_eq_div_mul, Nat.mul_comm]
  constructor
  · rw [c i, c (i + 1), e, Nat.add_mul_div_left _ _ hn, Nat.add_sub_cancel]
  · rw [e, Nat.add_mul_mod_self_left]
theorem quo_dig (x n i : Nat) (hn : 0 < n) : ((x / B ^ (i + 1)) % n * B + dig x i) / n = dig (x / n) i := by
  rw [(quo_step x n i hn).1]
  have := div_pow_succ (x / n) i
  omega
theorem quo_lt (x n i : Nat) (hn : 0 < n) : (x / B ^ (i + 1)) % n * B + dig x i < n * B := by
  have h1 := Nat.mod_lt (x / B ^ (i + 1)) hn
  have h2 := dig_lt x i
  have : (x / B ^ (i + 1) % n + 1) * B ≤ n * B := Nat.mul_le_mul_right B h1
  rw [Nat.add_mul] at this
  omega

end Go.Proofs.Ytnkeenejcpkelaa.Num
