/-
  Plain facts on double words: rounding to nearest stays within one part in 2^50; sums, products and quotients of numbers that are at least 0. No program is mentioned here.
-/
import Ieee.Arith
namespace Go.Proofs.Ytnkeenejcpkelaa.Flo
set_option linter.unusedVariables false
open Ieee

/-- The scale: values are counted in units of 2^-SC. -/
def SC : Int := 4000
/-- Rounding's part. -/
def D : Nat := 1125899906842624
/-- The value of m * 2^p. -/
def W (m : Nat) (p : Int) : Nat := m * 2 ^ (p + SC).toNat
/-- Two scaled values between which no more than k roundings lie. -/
def Close (x y k : Nat) : Prop := x * D ^ k ≤ y * (D + 1) ^ k ∧ y * D ^ k ≤ x * (D + 1) ^ k
theorem D_pos : 0 < D := by decide
theorem pow_D_le (k : Nat) : D ^ k ≤ (D + 1) ^ k := Nat.pow_le_pow_left (by omega) k
theorem Close.refl (x : Nat) : Close x x 0 := ⟨by simp, by simp⟩
theorem Close.symm {x y k : Nat} (h : Close x y k) : Close y x k := ⟨h.2, h.1⟩
theorem mul_rot {a b c d x y z : Nat} (h1 : x * a ≤ y * b) (h2 : y * c ≤ z * d) (hy : True) : x * (a * c) ≤ z * (b * d) := by
  have e1 : x * (a * c) = x * a * c := by rw [Nat.mul_assoc]
  have e2 : y * b * c = y * c * b := by rw [Nat.mul_right_comm]
  have e3 : z * (b * d) = z * d * b := by rw [Nat.mul_comm b d, Nat.mul_assoc]
  rw [e1, e3]
  exact Nat.le_trans (Nat.mul_le_mul_right c h1) (by rw [e2]; exact Nat.mul_le_mul_right b h2)
theorem Close.trans {x y z k l : Nat} (h1 : Close x y k) (h2 : Close y z l) : Close x z (k + l) := by
  unfold Close
  rw [Nat.pow_add, Nat.pow_add]
  refine ⟨mul_rot h1.1 h2.1 trivial, ?_⟩
  have := mul_rot h2.2 h1.2 trivial
  rw [Nat.mul_comm (D ^ k), Nat.mul_comm ((D + 1) ^ k)]
  exact this
theorem Close.more {x y k l : Nat} (h : Close x y k) (hl : k ≤ l) : Close x y l := by
  obtain ⟨d, rfl⟩ : ∃ d, l = k + d := ⟨l - k, by omega⟩
  have hp := pow_D_le d
  have step : ∀ {a b : Nat}, a * D ^ k ≤ b * (D + 1) ^ k → a * D ^ (k + d) ≤ b * (D + 1) ^ (k + d) := by
    intro a b h
    rw [Nat.pow_add, Nat.pow_add, ← Nat.mul_assoc, ← Nat.mul_assoc]
    exact Nat.mul_le_mul h hp
  exact ⟨step h.1, step h.2⟩
theorem Close.add {x y u v k : Nat} (h1 : Close x y k) (h2 : Close u v k) : Close (x + u) (y + v) k := by
  unfold Close
  rw [Nat.add_mul, Nat.add_mul, Nat.add_mul, Nat.add_mul]
  exact ⟨Nat.add_le_add h1.1 h2.1, Nat.add_le_add h1.2 h2.2⟩
theorem mul4 (a b c d : Nat) : a * b * (c * d) = a * c * (b * d) := by
  rw [Nat.mul_assoc, Nat.mul_assoc, Nat.mul_left_comm b c d]
theorem Close.mul {x y u v k l : Nat} (h1 : Close x y k) (h2 : Close u v l) : Close (x * u) (y * v) (k + l) := by
  unfold Close
  rw [Nat.pow_add, Nat.pow_add, mul4 x u (D ^ k), mul4 y v ((D + 1) ^ k), mul4 y v (D ^ k), mul4 x u ((D + 1) ^ k)]
  exact ⟨Nat.mul_le_mul h1.1 h2.1, Nat.mul_le_mul h1.2 h2.2⟩
theorem Close.cancel {x y c k : Nat} (hc : 0 < c) (h : Close (x * c) (y * c) k) : Close x y k := by
  unfold Close at *
  rw [Nat.mul_right_comm x c (D ^ k), Nat.mul_right_comm y c ((D + 1) ^ k), Nat.mul_right_comm y c (D ^ k), Nat.mul_right_comm x c ((D + 1) ^ k)] at h
  exact ⟨Nat.le_of_mul_le_mul_right h.1 hc, Nat.le_of_mul_le_mul_right h.2 hc⟩
theorem Close.zero {x k : Nat} (h : Close x 0 k) : x = 0 := by
  have := h.1
  rw [Nat.zero_mul] at this
  have hp : 0 < D ^ k := Nat.pow_pos D_pos
  rcases Nat.eq_zero_or_pos x with h0 | h0
  · exact h0
  · have := Nat.mul_pos h0 hp; omega

/-! cutting digits off -/
theorem gap_le {n drop : Nat} (h : drop ≤ n.log2 + 2) : 1 <<< min drop (n.log2 + 2) = 2 ^ drop := by
  rw [Nat.min_eq_left h, Nat.one_shiftLeft]
theorem cut_even (n drop : Nat) (h : drop ≤ n.log2 + 2) : ∃ b, b ≤ 1 ∧ Toward.even.cut false n drop = n / 2 ^ drop + b ∧ (n % 2 ^ drop = 0 → b = 0) := by
  unfold Toward.cut
  rw [gap_le h]
  have hp : 0 < 2 ^ drop := Nat.pow_pos (by omega)
  refine ⟨_, Bool.toNat_le _, rfl, fun h0 => ?_⟩
  rw [h0]
  have e1 : decide (2 ^ drop < 2 * 0) = false := by simp
  have e2 : (2 ^ drop == 2 * 0) = false := by simp
  simp
theorem lt_log2 (n : Nat) : n < 2 ^ (n.log2 + 1) := by
  rcases Nat.eq_zero_or_pos n with h | h
  · subst h; exact Nat.pow_pos (by omega)
  · exact (Nat.log2_lt (by omega)).1 (by omega)
theorem log2_le {n : Nat} (h : n ≠ 0) : 2 ^ n.log2 ≤ n := (Nat.le_log2 h).1 (Nat.le_refl _)
theorem cut_zero (n drop : Nat) : Toward.zero.cut false n drop = n / 2 ^ drop := by
  unfold Toward.cut
  by_cases h : drop ≤ n.log2 + 2
  · rw [gap_le h]; simp
  · rw [Nat.min_eq_right (by omega), Nat.one_shiftLeft]
    have h1 := lt_log2 n
    have h2 : 2 ^ (n.log2 + 1) ≤ 2 ^ (n.log2 + 2) := Nat.pow_le_pow_right (by omega) (by omega)
    have h3 : 2 ^ (n.log2 + 1) ≤ 2 ^ drop := Nat.pow_le_pow_right (by omega) (by omega)
    have e1 : n / 2 ^ (n.log2 + 2) = 0 := Nat.div_eq_of_lt (by omega)
    have e2 : n / 2 ^ drop = 0 := Nat.div_eq_of_lt (by omega)
    simp [e1, e2]

/-! reading a word that was written -/
theorem bin_eq : double.binade = 4503599627370496 := by decide
theorem inf_eq : double.infRung = 9218868437227405312 := by decide
theorem sign_eq : double.signWeight = 9223372036854775808 := by decide
theorem least_eq : double.leastPlace = -1074 := by decide
theorem frac_eq : double.fractionBits = 52 := rfl
theorem read_rung {e kept : Nat} (he : e ≤ 2040) (h1 : 4503599627370496 ≤ kept) (h2 : kept ≤ 9007199254740992) :
    ∃ m p, double.read (e * 4503599627370496 + kept) = .number false m p ∧ 0 < m ∧ -1074 ≤ p ∧ p ≤ 1000 ∧ W m p = W kept ((e : Int) - 1074) := by
  unfold Format.read
  simp only [bin_eq, inf_eq, sign_eq, least_eq]
  have a1 : (e * 4503599627370496 + kept) / 9223372036854775808 % 2 = 0 := by omega
  have a2 : (e * 4503599627370496 + kept) % 9223372036854775808 = e * 4503599627370496 + kept := Nat.mod_eq_of_lt (by omega)
  rw [a2, a1]
  rw [if_neg (by omega), if_pos (by omega)]
  by_cases h : kept = 9007199254740992
  · subst h
    have e1 : (e * 4503599627370496 + 9007199254740992) % 4503599627370496 = 0 := by omega
    have e2 : (e * 4503599627370496 + 9007199254740992) / 4503599627370496 = e + 2 := by omega
    rw [e1, e2]
    refine ⟨_, _, rfl, by omega, by omega, by omega, ?_⟩
    unfold W SC
    have : (-1074 + ((e + 2 - 1 : Nat) : Int) + 4000).toNat = ((e : Int) - 1074 + 4000).toNat + 1 := by omega
    rw [this, Nat.pow_succ]
    generalize 2 ^ ((e : Int) - 1074 + 4000).toNat = t
    omega
  · have e1 : (e * 4503599627370496 + kept) % 4503599627370496 = kept - 4503599627370496 := by omega
    have e2 : (e * 4503599627370496 + kept) / 4503599627370496 = e + 1 := by omega
    rw [e1, e2]
    refine ⟨_, _, rfl, by omega, by omega, by omega, ?_⟩
    have : 4503599627370496 + (kept - 4503599627370496) = kept := by omega
    rw [this]
    congr 1
theorem W_pow {m : Nat} {p : Int} (hp : -4000 ≤ p) (d : Nat) : W (m * 2 ^ d) p = W m (p + d) := by
  unfold W SC
  rw [Nat.mul_assoc, ← Nat.pow_add]
  congr 2
  omega
theorem nearest_close (mag : Nat) (place : Int) (h0 : mag ≠ 0) (hp : -4000 ≤ place) (hlo : -1000 ≤ place + (mag.log2 : Int)) (hhi : place + (mag.log2 : Int) ≤ 900) :
    ∃ m p, double.read (double.nearest false mag place) = .number false m p ∧ 0 < m ∧ -1074 ≤ p ∧ p ≤ 1000 ∧ Close (W m p) (W mag place) 1 := by
  have l1 := log2_le h0
  have l2 := lt_log2 mag
  unfold Format.nearest
  rw [if_neg h0]
  simp only [least_eq, frac_eq, bin_eq, inf_eq]
  rw [show max (place + (mag.log2 : Int) - ((52 : Nat) : Int)) (-1074) = place + (mag.log2 : Int) - 52 by omega]
  generalize hL : mag.log2 = L at *
  rw [show ((place : Int) + (L : Int) - 52 - -1074).toNat = ((place : Int) + (L : Int) - 52 + 1074).toNat by omega]
  obtain ⟨e, he⟩ : ∃ e : Nat, (e : Int) = place + L - 52 + 1074 := ⟨(place + L - 52 + 1074).toNat, by omega⟩
  rw [show (place + (L : Int) - 52 + 1074).toNat = e by omega]
  have key : ∀ kept, 4503599627370496 ≤ kept → kept ≤ 9007199254740992 → Close (W kept ((e : Int) - 1074)) (W mag place) 1 →
      ∃ m p, double.read (double.word false (min (e * 4503599627370496 + kept) 9218868437227405312)) = .number false m p ∧ 0 < m ∧ -1074 ≤ p ∧ p ≤ 1000 ∧ Close (W m p) (W mag place) 1 := by
    intro kept k1 k2 hc
    rw [Nat.min_eq_left (by omega)]
    obtain ⟨m, p, r, hm, q1, q2, hw⟩ := read_rung (e := e) (kept := kept) (by omega) k1 k2
    exact ⟨m, p, r, hm, q1, q2, by rw [hw]; exact hc⟩
  by_cases hle : L ≤ 52
  · have e1 : (place - (place + (L : Int) - 52)).toNat = 52 - L := by omega
    have e2 : (place + (L : Int) - 52 - place).toNat = 0 := by omega
    rw [e1, e2]
    obtain ⟨b, _, hb, hz⟩ := cut_even (mag <<< (52 - L)) 0 (by omega)
    have hb0 := hz (Nat.mod_one _)
    rw [hb, hb0, Nat.pow_zero, Nat.div_one, Nat.add_zero, Nat.shiftLeft_eq]
    have p1 : 2 ^ L * 2 ^ (52 - L) = 4503599627370496 := by rw [← Nat.pow_add, show L + (52 - L) = 52 by omega]
    have p2 : 2 ^ (L + 1) * 2 ^ (52 - L) = 9007199254740992 := by rw [← Nat.pow_add, show L + 1 + (52 - L) = 53 by omega]
    refine key _ (by rw [← p1]; exact Nat.mul_le_mul_right _ l1) (by rw [← p2]; exact Nat.mul_le_mul_right _ (Nat.le_of_lt l2)) ?_
    rw [W_pow (by omega), show (e : Int) - 1074 + ((52 - L : Nat) : Int) = place by omega]
    exact (Close.refl _).more (by omega)
  · have e1 : (place - (place + (L : Int) - 52)).toNat = 0 := by omega
    have e2 : (place + (L : Int) - 52 - place).toNat = L - 52 := by omega
    rw [e1, e2, Nat.shiftLeft_zero]
    obtain ⟨b, hb1, hb, _⟩ := cut_even mag (L - 52) (by omega)
    rw [hb]
    have p1 : 2 ^ L = 4503599627370496 * 2 ^ (L - 52) := by
      have : (4503599627370496 : Nat) = 2 ^ 52 := rfl
      rw [this, ← Nat.pow_add]; congr 1; omega
    have p2 : 2 ^ (L + 1) = 9007199254740992 * 2 ^ (L - 52) := by rw [Nat.pow_succ, p1]; omega
    have hg : 0 < 2 ^ (L - 52) := Nat.pow_pos (by omega)
    have hdm := Nat.div_add_mod mag (2 ^ (L - 52))
    have hml := Nat.mod_lt mag hg
    rw [p1] at l1
    rw [p2] at l2
    have k1 : 4503599627370496 ≤ mag / 2 ^ (L - 52) := (Nat.le_div_iff_mul_le hg).2 l1
    have k2 : mag / 2 ^ (L - 52) < 9007199254740992 := (Nat.div_lt_iff_lt_mul hg).2 l2
    refine key _ (by omega) (by omega) ?_
    have hw : W mag place * 1 = W mag place := Nat.mul_one _
    have ew : ∀ k, W k ((e : Int) - 1074) = W (k * 2 ^ (L - 52)) place := fun k => by rw [W_pow (by omega)]; congr 1; omega
    rw [ew]
    unfold Close W D
    generalize 2 ^ (place + SC).toNat = t
    rw [Nat.pow_one, Nat.pow_one]
    generalize hq : mag / 2 ^ (L - 52) = q at *
    generalize 2 ^ (L - 52) = g at *
    have hbg : (q + b) * g = g * q + b * g := by rw [Nat.add_mul, Nat.mul_comm]
    have hbg1 : b * g ≤ g := by have := Nat.mul_le_mul_right g hb1; omega
    have hgq : 4503599627370496 * g ≤ g * q := by rw [Nat.mul_comm]; exact Nat.mul_le_mul_left g k1
    rw [hbg]
    constructor
    · rw [Nat.mul_right_comm, Nat.mul_right_comm mag]
      refine Nat.mul_le_mul_right t ?_
      omega
    · rw [Nat.mul_right_comm, Nat.mul_right_comm (g * q + b * g)]
      refine Nat.mul_le_mul_right t ?_
      omega

/-! words that are near a natural number -/
def U : Nat := 2 ^ SC.toNat
def V (n : Nat) : Nat := n * U
def KK : Nat := 3998
def KM : Nat := 3798
theorem KK_eq : KK = 3998 := rfl
theorem KM_eq : KM = 3798 := rfl
attribute [irreducible] KK KM
theorem U_pos : 0 < U := Nat.pow_pos (by omega)
theorem W_zero (n : Nat) : W n 0 = V n := by unfold W V U; rw [Int.zero_add]
theorem W_eq_zero {m : Nat} {p : Int} (h : W m p = 0) : m = 0 := by
  unfold W at h
  rcases Nat.mul_eq_zero.1 h with h | h
  · exact h
  · have : 0 < 2 ^ (p + SC).toNat := Nat.pow_pos (by omega)
    omega
theorem twice20 : (D + 1) ^ 20 ≤ 2 * D ^ 20 := by decide
theorem Close.le2 {x y k : Nat} (h : Close x y k) (hk : k ≤ 20) : x ≤ 2 * y := by
  have h1 := (h.more hk).1
  have h2 : y * (D + 1) ^ 20 ≤ y * (2 * D ^ 20) := Nat.mul_le_mul_left y twice20
  have h3 : y * (2 * D ^ 20) = 2 * y * D ^ 20 := by rw [Nat.mul_left_comm, Nat.mul_assoc]
  exact Nat.le_of_mul_le_mul_right (Nat.le_trans h1 (by rw [← h3]; exact h2)) (Nat.pow_pos D_pos)
theorem pow_lt_of {a b : Nat} (h : 2 ^ a < 2 ^ b) : a < b := (Nat.pow_lt_pow_iff_right (by omega)).1 h
theorem W_low {m : Nat} {p : Int} (hp : -4000 ≤ p) {a : Nat} (h : 2 ^ (a + 1) ≤ W m p) : (a : Int) - 4000 ≤ p + (m.log2 : Int) := by
  have h1 := lt_log2 m
  have h2 : W m p < 2 ^ (m.log2 + 1 + (p + SC).toNat) := by
    unfold W; rw [Nat.pow_add]; exact Nat.mul_lt_mul_of_pos_right h1 (Nat.pow_pos (by omega))
  have h3 := pow_lt_of (Nat.lt_of_le_of_lt h h2)
  unfold SC at h3
  omega
theorem W_high {m : Nat} {p : Int} (hp : -4000 ≤ p) (hm : m ≠ 0) {a : Nat} (h : W m p < 2 ^ a) : p + (m.log2 : Int) < (a : Int) - 4000 := by
  have h1 := log2_le hm
  have h2 : 2 ^ (m.log2 + (p + SC).toNat) ≤ W m p := by
    unfold W; rw [Nat.pow_add]; exact Nat.mul_le_mul_right _ h1
  have h3 := pow_lt_of (Nat.lt_of_le_of_lt h2 h)
  unfold SC at h3
  omega
theorem U_eq : U = 2 ^ (KK + 1 + 1) := by unfold U; congr 1; rw [KK_eq]; rfl
theorem V_lt {n a : Nat} (h : n < 2 ^ a) : V n < 2 ^ (a + (KK + 1 + 1)) := by
  unfold V; rw [Nat.pow_add, ← U_eq]; exact Nat.mul_lt_mul_of_pos_right h U_pos
theorem V_ge {n : Nat} (h : 0 < n) : 2 ^ (KK + 1 + 1) ≤ V n := by
  unfold V; rw [← U_eq]; exact Nat.le_mul_of_pos_left U h
/-- The word r reads as a number that is near n: no more than k roundings lie between. -/
def Fl (r n k : Nat) : Prop := ∃ m p, double.read r = .number false m p ∧ -1074 ≤ p ∧ p ≤ 1000 ∧ Close (W m p) (V n) k
theorem half_le {a x y : Nat} (h : 2 ^ (a + 1) ≤ y) (h2 : y ≤ 2 * x) : 2 ^ a ≤ x := by rw [Nat.pow_succ] at h; omega
theorem dbl_lt {a x y : Nat} (h : y < 2 ^ a) (h2 : x ≤ 2 * y) : x < 2 ^ (a + 1) := by rw [Nat.pow_succ]; omega
theorem Close_zero_iff {x k : Nat} (h : Close x (V 0) k) : x = 0 := by
  have : V 0 = 0 := Nat.zero_mul _
  rw [this] at h; exact h.zero
theorem read_zero : double.read 0 = .number false 0 (-1074) := by decide
theorem nearest_zero (place : Int) : double.nearest false 0 place = 0 := by unfold Format.nearest; rw [if_pos rfl]; rfl
theorem fl_zero (k : Nat) : Fl 0 0 k := ⟨0, -1074, read_zero, by omega, by omega, by
  have e1 : W 0 (-1074) = 0 := Nat.zero_mul _
  have e2 : V 0 = 0 := Nat.zero_mul _
  rw [e1, e2]; exact (Close.refl 0).more (Nat.zero_le _)⟩
theorem fl_round {mag : Nat} {place : Int} {n k : Nat} (hp : -4000 ≤ place) (h : Close (W mag place) (V n) k) (hn : n < 2 ^ 200) (hk : k ≤ 19) : Fl (double.nearest false mag place) n (k + 1) := by
  rcases Nat.eq_zero_or_pos n with h0 | h0
  · subst h0
    have hm := W_eq_zero (Close_zero_iff h)
    subst hm
    rw [nearest_zero]; exact fl_zero _
  · have b1 := V_lt hn
    have b2 := V_ge h0
    have c1 := h.le2 (by omega)
    have c2 := h.symm.le2 (by omega)
    have d1 : 2 ^ (KK + 1) ≤ W mag place := half_le (a := KK + 1) b2 c2
    have d2 : W mag place < 2 ^ (200 + (KK + 1 + 1) + 1) := dbl_lt (a := 200 + (KK + 1 + 1)) b1 c1
    have hm : mag ≠ 0 := by
      intro e; subst e
      have : W 0 place = 0 := Nat.zero_mul _
      rw [this] at d1
      have : 0 < 2 ^ (KK + 1) := Nat.pow_pos (by omega)
      omega
    obtain ⟨m, p, r, _, p1, p2, c⟩ := nearest_close mag place hm hp (by have := W_low hp d1; have := KK_eq; omega) (by have := W_high hp hm d2; have := KK_eq; omega)
    exact ⟨m, p, r, p1, p2, by rw [Nat.add_comm]; exact c.trans h⟩
theorem fl_of (n : Nat) (hn : n < 2 ^ 200) : Fl (double.nearest false n 0) n 1 :=
  fl_round (k := 0) (by omega) (by rw [W_zero]; exact Close.refl _) hn (by omega)
theorem W_mul {m n : Nat} {i j : Int} (hi : -1074 ≤ i) (hj : -1074 ≤ j) : W (m * n) (i + j) * U = W m i * W n j := by
  unfold W U
  rw [mul4, ← Nat.pow_add, Nat.mul_assoc, ← Nat.pow_add]
  congr 2
  unfold SC
  omega
theorem V_mul (x y : Nat) : V (x * y) * U = V x * V y := by unfold V; rw [mul4, Nat.mul_assoc]
theorem fl_mul {r s x y k l : Nat} (h1 : Fl r x k) (h2 : Fl s y l) (hn : x * y < 2 ^ 200) (hk : k + l ≤ 19) : ∃ t, double.mul r s = some t ∧ Fl t (x * y) (k + l + 1) := by
  obtain ⟨m, i, e1, i1, i2, c1⟩ := h1
  obtain ⟨n, j, e2, j1, j2, c2⟩ := h2
  refine ⟨_, ?_, fl_round (mag := m * n) (place := i + j) (by omega) ?_ hn hk⟩
  · unfold Format.mul
    rw [e1, e2]; rfl
  · refine Close.cancel U_pos ?_
    rw [W_mul i1 j1, V_mul]
    exact c1.mul c2
theorem W_base {m : Nat} {i b : Int} (hb : -4000 ≤ b) (h : b ≤ i) : W (m <<< (i - b).toNat) b = W m i := by
  rw [Nat.shiftLeft_eq, W_pow hb]; congr 1; omega
theorem W_add (m n : Nat) (p : Int) : W (m + n) p = W m p + W n p := by unfold W; rw [Nat.add_mul]
theorem sum_pos (m n : Nat) (i j : Int) : (Datum.number false m i).sum (.number false n j) = some (.number false (m <<< (i - min i j).toNat + n <<< (j - min i j).toNat) (min i j)) := by
  unfold Datum.sum
  simp only [signed, Bool.false_eq_true, if_false, Bool.and_self]
  have e : ((m <<< (i - min i j).toNat : Nat) : Int) + ((n <<< (j - min i j).toNat : Nat) : Int) = ((m <<< (i - min i j).toNat + n <<< (j - min i j).toNat : Nat) : Int) := by rw [Int.natCast_add]
  rw [e]
  generalize m <<< (i - min i j).toNat + n <<< (j - min i j).toNat = t
  have h1 : (if ((t : Nat) : Int) = 0 then false else decide (((t : Nat) : Int) < 0)) = false := by
    split
    · rfl
    · exact decide_eq_false (by omega)
  rw [h1, Int.natAbs_natCast]
theorem fl_add {r s x y k l : Nat} (h1 : Fl r x k) (h2 : Fl s y l) (hn : x + y < 2 ^ 200) (hl : l ≤ k) (hk : k ≤ 19) : ∃ t, double.add r s = some t ∧ Fl t (x + y) (k + 1) := by
  obtain ⟨m, i, e1, i1, i2, c1⟩ := h1
  obtain ⟨n, j, e2, j1, j2, c2⟩ := h2
  refine ⟨_, ?_, fl_round (mag := m <<< (i - min i j).toNat + n <<< (j - min i j).toNat) (place := min i j) (by omega) ?_ hn hk⟩
  · unfold Format.add
    rw [e1, e2, sum_pos]; rfl
  · rw [W_add, W_base (by omega) (by omega), W_base (by omega) (by omega)]
    have : V (x + y) = V x + V y := by unfold V; rw [Nat.add_mul]
    rw [this]
    exact c1.add (c2.more hl)

/-! the quotient -/
theorem quot_mid {dv n : Nat} (hn : 0 < n) : (2 * (dv / n) + (dv % n != 0).toNat) * n ≤ 2 * dv + n ∧ 2 * dv ≤ (2 * (dv / n) + (dv % n != 0).toNat) * n + n := by
  have h1 := Nat.div_add_mod dv n
  have h2 := Nat.mod_lt dv hn
  generalize hq : dv / n = q at *
  generalize hr : dv % n = r at *
  by_cases h0 : r = 0
  · subst h0
    have e : (2 * q + ((0 : Nat) != 0).toNat) * n = 2 * (n * q) := by
      show (2 * q + 0) * n = _
      rw [Nat.add_zero, Nat.mul_assoc, Nat.mul_comm q]
    rw [e]; omega
  · have hb : (r != 0) = true := by simp [h0]
    have e : (2 * q + (r != 0).toNat) * n = 2 * (n * q) + n := by
      rw [hb]
      show (2 * q + 1) * n = _
      rw [Nat.add_mul, Nat.one_mul, Nat.mul_assoc, Nat.mul_comm q]
    rw [e]; omega
theorem fl_div {r s x y k l : Nat} (h1 : Fl r x k) (h2 : Fl s y l) (hx0 : 0 < x) (hy0 : 0 < y) (hx : x < 2 ^ 200) (hy : y < 2 ^ 200) (hk : k + l ≤ 17) :
    ∃ t m p, double.div r s = some t ∧ double.read t = .number false m p ∧ -1074 ≤ p ∧ p ≤ 1000 ∧ Close (W m p * y) (V x) (k + l + 2) := by
  obtain ⟨m, i, e1, i1, i2, c1⟩ := h1
  obtain ⟨n, j, e2, j1, j2, c2⟩ := h2
  have bx1 := V_lt hx
  have bx2 := V_ge hx0
  have by1 := V_lt hy
  have by2 := V_ge hy0
  have m1 : 2 ^ (KK + 1) ≤ W m i := half_le (a := KK + 1) bx2 (c1.symm.le2 (by omega))
  have n1 : 2 ^ (KK + 1) ≤ W n j := half_le (a := KK + 1) by2 (c2.symm.le2 (by omega))
  have n2 : W n j < 2 ^ (200 + (KK + 1 + 1) + 1) := dbl_lt (a := 200 + (KK + 1 + 1)) by1 (c2.le2 (by omega))
  have hpos : ∀ a : Nat, 0 < 2 ^ a := fun a => Nat.pow_pos (by omega)
  have hm : m ≠ 0 := by
    intro e; subst e
    have : W 0 i = 0 := Nat.zero_mul _
    have := hpos (KK + 1); omega
  have hn : n ≠ 0 := by
    intro e; subst e
    have : W 0 j = 0 := Nat.zero_mul _
    have := hpos (KK + 1); omega
  have ln := W_high (by omega) hn n2
  rw [KK_eq] at ln
  obtain ⟨more, hmore⟩ : ∃ more, more = 54 + n.log2 - m.log2 := ⟨_, rfl⟩
  obtain ⟨dv, hdv⟩ : ∃ dv, dv = m * 2 ^ more := ⟨_, rfl⟩
  obtain ⟨q, hq⟩ : ∃ q, q = 2 * (dv / n) + (dv % n != 0).toNat := ⟨_, rfl⟩
  obtain ⟨pl, hpl⟩ : ∃ pl : Int, pl = i - j - more - 1 := ⟨_, rfl⟩
  have hdiv : double.div r s = some (double.nearest false q pl) := by
    unfold Format.div
    rw [e1, e2]
    unfold Datum.quotient
    simp only [if_neg hn, frac_eq]
    rw [hq, hpl, hdv, hmore, Nat.shiftLeft_eq]
    rfl
  have hbig : 2 ^ 53 * n ≤ dv := by
    have a1 := log2_le hm
    have a2 := lt_log2 n
    have a3 : 2 ^ (54 + n.log2) ≤ m * 2 ^ more := by
      refine Nat.le_trans ?_ (Nat.mul_le_mul_right (2 ^ more) a1)
      rw [← Nat.pow_add]
      exact Nat.pow_le_pow_right (by omega) (by omega)
    have a4 : 2 ^ (54 + n.log2) = 2 ^ 53 * 2 ^ (n.log2 + 1) := by rw [← Nat.pow_add]; congr 1; omega
    rw [hdv]
    refine Nat.le_trans ?_ a3
    rw [a4]
    exact Nat.mul_le_mul_left _ (Nat.le_of_lt a2)
  have hmid := quot_mid (dv := dv) (n := n) (by omega)
  rw [← hq] at hmid
  have cq : Close (q * n) (2 * dv) 1 := by
    unfold Close D
    rw [Nat.pow_one, Nat.pow_one]
    have h53 : (2 : Nat) ^ 53 = 9007199254740992 := rfl
    rw [h53] at hbig
    generalize q * n = t at *
    omega
  have cw : Close (W q pl * W n j) (W m i * U) 1 := by
    have ea : W q pl * W n j = q * n * 2 ^ ((pl + SC).toNat + (j + SC).toNat) := by unfold W; rw [mul4, ← Nat.pow_add]
    have eb : W m i * U = 2 * dv * 2 ^ ((pl + SC).toNat + (j + SC).toNat) := by
      unfold W U
      rw [hdv, Nat.mul_assoc, ← Nat.pow_add]
      have : 2 * (m * 2 ^ more) = m * 2 ^ (more + 1) := by rw [Nat.pow_succ, Nat.mul_left_comm, Nat.mul_comm 2]
      rw [this, Nat.mul_assoc, ← Nat.pow_add]
      congr 2
      unfold SC
      omega
    rw [ea, eb]
    have := cq.mul (Close.refl (2 ^ ((pl + SC).toNat + (j + SC).toNat)))
    exact this
  have c3 : Close (W q pl * y) (V x) (k + l + 1) := by
    refine Close.cancel U_pos ?_
    have s1 : Close (W q pl * V y) (W q pl * W n j) (0 + l) := (Close.refl _).mul c2.symm
    have s2 : Close (W m i * U) (V x * U) (k + 0) := c1.mul (Close.refl _)
    have s3 := (s1.trans cw).trans s2
    rw [show W q pl * y * U = W q pl * V y from Nat.mul_assoc _ _ _]
    exact s3.more (by omega)
  have w1 : W q pl * y ≤ 2 * V x := c3.le2 (by omega)
  have w2 : V x ≤ 2 * (W q pl * y) := c3.symm.le2 (by omega)
  have w3 : W q pl < 2 ^ (200 + (KK + 1 + 1) + 1) := Nat.lt_of_le_of_lt (Nat.le_mul_of_pos_right _ hy0) (dbl_lt (a := 200 + (KK + 1 + 1)) bx1 w1)
  have w4 : 2 ^ (KM + 1) ≤ W q pl := by
    have g1 : 2 ^ (KK + 1) ≤ W q pl * y := half_le (a := KK + 1) bx2 w2
    have g2 : W q pl * y ≤ W q pl * 2 ^ 200 := Nat.mul_le_mul_left _ (Nat.le_of_lt hy)
    have g3 : 2 ^ (KM + 1) * 2 ^ 200 = 2 ^ (KK + 1) := by rw [← Nat.pow_add]; congr 1; rw [KK_eq, KM_eq]
    exact Nat.le_of_mul_le_mul_right (by rw [g3]; exact Nat.le_trans g1 g2) (hpos 200)
  have hq0 : q ≠ 0 := by
    intro e; rw [e] at w4
    have : W 0 pl = 0 := Nat.zero_mul _
    have := hpos (KM + 1); omega
  have hplo : -4000 ≤ pl := by omega
  obtain ⟨m', p', rd, _, p1, p2, c4⟩ := nearest_close q pl hq0 hplo (by have := W_low hplo w4; have := KM_eq; omega) (by have := W_high hplo hq0 w3; have := KK_eq; omega)
  refine ⟨_, m', p', hdiv, rd, p1, p2, ?_⟩
  have c5 : Close (W m' p' * y) (W q pl * y) (1 + 0) := c4.mul (Close.refl y)
  exact (c5.trans c3).more (by omega)

/-! cut to a whole number -/
theorem toInt_floor {r m : Nat} {p : Int} (h : double.read r = .number false m p) (hp : -1074 ≤ p) : ∃ g : Nat, (double.read r).toInt .zero = some (g : Int) ∧ g * U ≤ W m p ∧ W m p < (g + 1) * U := by
  refine ⟨m <<< p.toNat / 2 ^ (-p).toNat, ?_, ?_⟩
  · rw [h]
    unfold Datum.toInt Datum.integral
    simp only [cut_zero, signed, Bool.false_eq_true, if_false, Nat.shiftLeft_zero]
  · rw [Nat.shiftLeft_eq]
    by_cases h0 : 0 ≤ p
    · rw [show (-p).toNat = 0 by omega, Nat.pow_zero, Nat.div_one]
      have e : W m p = m * 2 ^ p.toNat * U := by
        unfold W U
        rw [Nat.mul_assoc, ← Nat.pow_add]
        congr 2
        unfold SC; omega
      rw [e]
      exact ⟨Nat.le_refl _, Nat.mul_lt_mul_of_pos_right (by omega) U_pos⟩
    · rw [show p.toNat = 0 by omega, Nat.pow_zero, Nat.mul_one]
      have e : U = 2 ^ (-p).toNat * 2 ^ (p + SC).toNat := by
        unfold U
        rw [← Nat.pow_add]
        congr 1
        unfold SC; omega
      have hg : 0 < 2 ^ (-p).toNat := Nat.pow_pos (by omega)
      have ht : 0 < 2 ^ (p + SC).toNat := Nat.pow_pos (by omega)
      have h1 := Nat.div_add_mod m (2 ^ (-p).toNat)
      have h2 := Nat.mod_lt m hg
      rw [e]
      unfold W
      rw [← Nat.mul_assoc, ← Nat.mul_assoc]
      refine ⟨Nat.mul_le_mul_right _ ?_, Nat.mul_lt_mul_of_pos_right ?_ ht⟩
      · rw [Nat.mul_comm]; omega
      · rw [Nat.add_mul, Nat.mul_comm]; omega
theorem pow12 : (D + 1) ^ 12 * 1099511627776 ≤ D ^ 12 * 1099511627777 := by decide
/-- The quotient of two words that are near t and d, cut to a whole number, is near t / d. -/
theorem guess {r s t d k l : Nat} (h1 : Fl r t k) (h2 : Fl s d l) (ht0 : 0 < t) (hd0 : 0 < d) (ht : t < 2 ^ 200) (hd : d < 2 ^ 200) (hk : k + l ≤ 10) (hq : t < 2147483648 * d) :
    ∃ (u g : Nat), double.div r s = some u ∧ (double.read u).toInt .zero = some (g : Int) ∧ g * d ≤ t + d ∧ t ≤ (g + 2) * d ∧ g ≤ 2147483648 := by
  obtain ⟨u, m, p, e, rd, p1, p2, c⟩ := fl_div h1 h2 ht0 hd0 ht hd (by omega)
  obtain ⟨g, hi, g1, g2⟩ := toInt_floor rd p1
  have c12 := c.more (by omega : k + l + 2 ≤ 12)
  obtain ⟨a1, a2⟩ := c12
  have hD : 0 < D ^ 12 := Nat.pow_pos D_pos
  have b1 : g * d * D ^ 12 ≤ t * (D + 1) ^ 12 := by
    refine Nat.le_of_mul_le_mul_right (c := U) ?_ U_pos
    have s1 : g * U * d ≤ W m p * d := Nat.mul_le_mul_right d g1
    have s2 := Nat.mul_le_mul_right (D ^ 12) s1
    have e1 : g * U * d * D ^ 12 = g * d * D ^ 12 * U := by rw [Nat.mul_right_comm g U d, Nat.mul_right_comm (g * d) U]
    have e2 : V t * (D + 1) ^ 12 = t * (D + 1) ^ 12 * U := by unfold V; rw [Nat.mul_right_comm]
    rw [← e1, ← e2]
    exact Nat.le_trans s2 a1
  have b2 : t * D ^ 12 ≤ (g + 1) * d * (D + 1) ^ 12 := by
    refine Nat.le_of_mul_le_mul_right (c := U) ?_ U_pos
    have s1 : W m p * d ≤ (g + 1) * U * d := Nat.mul_le_mul_right d (Nat.le_of_lt g2)
    have s2 := Nat.mul_le_mul_right ((D + 1) ^ 12) s1
    have e1 : (g + 1) * U * d * (D + 1) ^ 12 = (g + 1) * d * (D + 1) ^ 12 * U := by rw [Nat.mul_right_comm (g + 1) U d, Nat.mul_right_comm ((g + 1) * d) U]
    have e2 : V t * D ^ 12 = t * D ^ 12 * U := by unfold V; rw [Nat.mul_right_comm]
    rw [← e1, ← e2]
    exact Nat.le_trans a2 s2
  have key : ∀ a b : Nat, a * D ^ 12 ≤ b * (D + 1) ^ 12 → a * 1099511627776 ≤ b * 1099511627777 := by
    intro a b h
    refine Nat.le_of_mul_le_mul_right (c := D ^ 12) ?_ hD
    have s1 := Nat.mul_le_mul_right 1099511627776 h
    have s2 := Nat.mul_le_mul_left b pow12
    have e1 : a * 1099511627776 * D ^ 12 = a * D ^ 12 * 1099511627776 := Nat.mul_right_comm _ _ _
    have e2 : b * (D + 1) ^ 12 * 1099511627776 = b * ((D + 1) ^ 12 * 1099511627776) := Nat.mul_assoc _ _ _
    have e3 : b * (D ^ 12 * 1099511627777) = b * 1099511627777 * D ^ 12 := by rw [Nat.mul_comm (D ^ 12), Nat.mul_assoc]
    rw [e1, ← e3]
    rw [e2] at s1
    exact Nat.le_trans s1 s2
  have k1 := key _ _ b1
  have k2 := key _ _ b2
  have q1 : g * d ≤ t + d := by omega
  have q2 : g ≤ 2147483648 := by
    have : g * d < 2147483649 * d := by omega
    have := Nat.lt_of_mul_lt_mul_right this
    omega
  refine ⟨u, g, e, hi, q1, ?_, q2⟩
  have e1 : (g + 1) * d = g * d + d := by rw [Nat.add_mul, Nat.one_mul]
  have e2 : (g + 2) * d = g * d + 2 * d := Nat.add_mul _ _ _
  have e3 : g * d ≤ 2147483648 * d := Nat.mul_le_mul_right d q2
  rw [e1] at k2
  rw [e2]
  omega
end Go.Proofs.Ytnkeenejcpkelaa.Flo
