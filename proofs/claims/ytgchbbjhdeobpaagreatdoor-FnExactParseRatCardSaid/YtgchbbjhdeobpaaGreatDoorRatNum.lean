import Derived.Test.YtgchbbjhdeobpaaGreatDoorBigMake
import Derived.Test.YtgchbbjhdeobpaaGreatDoorGcd
/-
  Fractions as pairs of a numerator and a denominator; (0, 0) stands for the value that is not valid.
-/
namespace Go.Proofs.YtgchbbjhdeobpaaGreatDoor
set_option linter.unusedVariables false
open Go.RowKit Num

abbrev Fr := Int × Nat
def normF (v : Fr) : Prop := v = (0, 0) ∨ (0 < v.2 ∧ len (magZ v.1) ≤ 24 ∧ len v.2 ≤ 24 ∧ Nat.gcd (magZ v.1) v.2 = 1)
/-- In lowest terms, or (0, 0) where a part is too long. -/
def mkF (z : Int) (d : Nat) : Fr :=
  if d = 0 then (0, 0)
  else if len (magZ z / Nat.gcd (magZ z) d) ≤ 24 ∧ len (d / Nat.gcd (magZ z) d) ≤ 24 then (signed (sgnZ z) (magZ z / Nat.gcd (magZ z) d), d / Nat.gcd (magZ z) d)
  else (0, 0)
def addF (a b : Fr) : Fr := mkF (a.1 * b.2 + b.1 * a.2) (a.2 * b.2)
def mulF (a b : Fr) : Fr := mkF (a.1 * b.1) (a.2 * b.2)
def negF (a : Fr) : Fr := (-a.1, a.2)
def subF (a b : Fr) : Fr := addF a (negF b)
def divF (a b : Fr) : Fr := mkF (signed (sgnZ a.1 != sgnZ b.1) (magZ a.1 * b.2)) (a.2 * magZ b.1)
def cmpF (a b : Fr) : Int := cmpZ (a.1 * b.2) (b.1 * a.2)
def sgnF (a : Fr) : Int := if a.1 < 0 then -1 else if a.1 = 0 then 0 else 1
def minF (a b : Fr) : Fr := if a.2 = 0 ∨ b.2 = 0 then (0, 0) else if cmpF a b ≤ 0 then a else b
def maxF (a b : Fr) : Fr := if a.2 = 0 ∨ b.2 = 0 then (0, 0) else if 0 ≤ cmpF a b then a else b

theorem mag_zero : magZ 0 = 0 := rfl
theorem len_mag0 : len (magZ 0) = 0 := len_zero
theorem gcd_pos {x d : Nat} (h : 0 < d) : 0 < Nat.gcd x d := Nat.gcd_pos_of_pos_right _ h
theorem mkF_zero (z : Int) : mkF z 0 = (0, 0) := if_pos rfl
theorem mkF_yes {z : Int} {d : Nat} (hd : 0 < d) (h1 : len (magZ z / Nat.gcd (magZ z) d) ≤ 24) (h2 : len (d / Nat.gcd (magZ z) d) ≤ 24) :
    mkF z d = (signed (sgnZ z) (magZ z / Nat.gcd (magZ z) d), d / Nat.gcd (magZ z) d) := by
  unfold mkF; rw [if_neg (by omega), if_pos ⟨h1, h2⟩]
theorem mkF_no {z : Int} {d : Nat} (h : ¬ (len (magZ z / Nat.gcd (magZ z) d) ≤ 24 ∧ len (d / Nat.gcd (magZ z) d) ≤ 24)) : mkF z d = (0, 0) := by
  unfold mkF
  by_cases hd : d = 0
  · rw [if_pos hd]
  · rw [if_neg hd, if_neg h]
theorem mkF_norm (z : Int) (d : Nat) : normF (mkF z d) := by
  unfold mkF
  split
  · exact Or.inl rfl
  · split
    · next hd h =>
      have hg := gcd_pos (x := magZ z) (d := d) (by omega)
      refine Or.inr ⟨?_, ?_, h.2, ?_⟩
      · exact Nat.div_pos (Nat.le_of_dvd (by omega) (Nat.gcd_dvd_right _ _)) hg
      · simp only [mag_signed]; exact h.1
      · simp only [mag_signed]
        rw [Nat.gcd_div (Nat.gcd_dvd_left _ _) (Nat.gcd_dvd_right _ _), Nat.div_self hg]
    · exact Or.inl rfl
theorem norm_len {v : Fr} (h : normF v) : len (magZ v.1) ≤ 24 ∧ len v.2 ≤ 24 := by
  rcases h with h | h
  · subst h; exact ⟨by rw [len_mag0]; omega, by rw [len_zero]; omega⟩
  · exact ⟨h.2.1, h.2.2.1⟩
theorem norm_den {v : Fr} (h : normF v) (h0 : v.2 = 0) : v = (0, 0) := by
  rcases h with h | h
  · exact h
  · omega
theorem signed_neg_sgn {z : Int} {q : Nat} (h : z = 0 → q = 0) : signed (sgnZ (-z)) q = -signed (sgnZ z) q := by
  unfold signed sgnZ
  by_cases h0 : z = 0
  · have := h h0; subst this; subst h0; simp
  · by_cases h1 : z < 0
    · rw [if_neg (by simp; omega), if_pos (by simpa using h1)]; omega
    · rw [if_pos (by simp; omega), if_neg (by simpa using h1)]
theorem mkF_neg (z : Int) (d : Nat) : mkF (-z) d = negF (mkF z d) := by
  by_cases hd : d = 0
  · subst hd; rw [mkF_zero, mkF_zero]; rfl
  · by_cases h : len (magZ z / Nat.gcd (magZ z) d) ≤ 24 ∧ len (d / Nat.gcd (magZ z) d) ≤ 24
    · rw [mkF_yes (z := -z) (by omega) (by rw [mag_neg]; exact h.1) (by rw [mag_neg]; exact h.2), mkF_yes (by omega) h.1 h.2, mag_neg, signed_neg_sgn (by intro h0; subst h0; rw [mag_zero, Nat.zero_div])]
      rfl
    · rw [mkF_no (z := -z) (by rw [mag_neg]; exact h), mkF_no h]; rfl
theorem negF_norm {v : Fr} (h : normF v) : normF (negF v) := by
  rcases h with h | h
  · subst h; exact Or.inl rfl
  · refine Or.inr ⟨h.1, ?_, h.2.2.1, ?_⟩
    · show len (magZ (-v.1)) ≤ 24; rw [mag_neg]; exact h.2.1
    · show Nat.gcd (magZ (-v.1)) v.2 = 1; rw [mag_neg]; exact h.2.2.2
theorem addF_norm (a b : Fr) : normF (addF a b) := mkF_norm _ _
theorem subF_norm (a b : Fr) : normF (subF a b) := mkF_norm _ _
theorem mulF_norm (a b : Fr) : normF (mulF a b) := mkF_norm _ _
theorem divF_norm (a b : Fr) : normF (divF a b) := mkF_norm _ _
theorem minF_norm {a b : Fr} (ha : normF a) (hb : normF b) : normF (minF a b) := by
  unfold minF; split
  · exact Or.inl rfl
  · split <;> assumption
theorem maxF_norm {a b : Fr} (ha : normF a) (hb : normF b) : normF (maxF a b) := by
  unfold maxF; split
  · exact Or.inl rfl
  · split <;> assumption
theorem mulF_comm (a b : Fr) : mulF a b = mulF b a := by unfold mulF; rw [Int.mul_comm, Nat.mul_comm]
theorem subF_swap (a b : Fr) : subF a b = negF (subF b a) := by
  show mkF (a.1 * (b.2 : Int) + -b.1 * (a.2 : Int)) (a.2 * b.2) = negF (mkF (b.1 * (a.2 : Int) + -a.1 * (b.2 : Int)) (b.2 * a.2))
  rw [← mkF_neg, Nat.mul_comm a.2 b.2]
  congr 1
  rw [Int.neg_mul, Int.neg_mul]
  omega
theorem mulF_negs (a b : Fr) : mulF (negF a) (negF b) = mulF a b := by
  unfold mulF negF; simp only; rw [Int.neg_mul_neg]
theorem square_swap (a b : Fr) : mulF (subF a b) (subF a b) = mulF (subF b a) (subF b a) := by rw [subF_swap a b, mulF_negs]
theorem mkF_d0 {z : Int} {d : Nat} (h : d = 0) : mkF z d = (0, 0) := by subst h; exact mkF_zero z
theorem addF_no1 {a b : Fr} (h : a.2 = 0) : addF a b = (0, 0) := mkF_d0 (by rw [h, Nat.zero_mul])
theorem addF_no2 {a b : Fr} (h : b.2 = 0) : addF a b = (0, 0) := mkF_d0 (by rw [h, Nat.mul_zero])
theorem mulF_no1 {a b : Fr} (h : a.2 = 0) : mulF a b = (0, 0) := mkF_d0 (by rw [h, Nat.zero_mul])
theorem mulF_no2 {a b : Fr} (h : b.2 = 0) : mulF a b = (0, 0) := mkF_d0 (by rw [h, Nat.mul_zero])
theorem subF_no1 {a b : Fr} (h : a.2 = 0) : subF a b = (0, 0) := addF_no1 h
theorem subF_no2 {a b : Fr} (h : b.2 = 0) : subF a b = (0, 0) := addF_no2 h
theorem divF_no1 {a b : Fr} (h : a.2 = 0) : divF a b = (0, 0) := mkF_d0 (by rw [h, Nat.zero_mul])
theorem divF_no2 {a b : Fr} (h : b = (0, 0)) : divF a b = (0, 0) := mkF_d0 (by subst h; rw [mag_zero, Nat.mul_zero])
theorem minF_no1 {a b : Fr} (h : a.2 = 0) : minF a b = (0, 0) := if_pos (Or.inl h)
theorem minF_no2 {a b : Fr} (h : b.2 = 0) : minF a b = (0, 0) := if_pos (Or.inr h)
theorem maxF_no1 {a b : Fr} (h : a.2 = 0) : maxF a b = (0, 0) := if_pos (Or.inl h)
theorem maxF_no2 {a b : Fr} (h : b.2 = 0) : maxF a b = (0, 0) := if_pos (Or.inr h)
theorem cmpF_no1 {a b : Fr} (h : a = (0, 0)) : cmpF a b = 0 := by subst h; unfold cmpF cmpZ; simp
theorem cmpF_no2 {a b : Fr} (h : b = (0, 0)) : cmpF a b = 0 := by subst h; unfold cmpF cmpZ; simp

/-- A fraction that is valid. -/
def okR (b : Bool) (n : Nat) (f : Nat → Int) (m : Nat) (g : Nat → Int) : Prop := okB b n f ∧ okP m g ∧ 0 < m ∧ n ≤ 24 ∧ m ≤ 24 ∧ Nat.gcd (natX n f) (natX m g) = 1
open Classical in
/-- What a fraction stands for. -/
noncomputable def vR (b : Bool) (n : Nat) (f : Nat → Int) (m : Nat) (g : Nat → Int) : Fr := if okR b n f m g then (bigX b n f, natX m g) else (0, 0)
theorem vR_no {b : Bool} {n m : Nat} {f g : Nat → Int} (k : ¬ okR b n f m g) : vR b n f m g = (0, 0) := if_neg k
theorem okR_nat {w : World} {lo1 lo2 n c1 m c2 : Nat} {A1 A2 : Option Addr} {f g : Nat → Int} {b : Bool} (k : okR b n f m g) (h1 : Row w lo1 A1 n c1 f) (h2 : Row w lo2 A2 m c2 g) :
    ∃ x d, n = len x ∧ m = len d ∧ len x ≤ 24 ∧ len d ≤ 24 ∧ 0 < d ∧ (b = true → 0 < x) ∧ Nat.gcd x d = 1 ∧ vR b n f m g = (signed b x, d) ∧ NatS w lo1 A1 c1 x ∧ NatS w lo2 A2 c2 d := by
  have k' := k
  obtain ⟨k1, k2, k3, k4, k5, k6⟩ := k
  obtain ⟨x, e1, hx, hb, v1, s1⟩ := okB_nat k1 h1
  obtain ⟨d, e2, hd, v2, s2⟩ := row_nat h2 k2
  have hxv : natX n f = x := by
    have h := congrArg magZ v1
    unfold bigX at h
    rwa [mag_signed, mag_signed] at h
  refine ⟨x, d, e1, e2, by omega, by omega, pos_len (by omega), hb, by rw [← hxv, ← v2]; exact k6, ?_, s1, s2⟩
  rw [vR, if_pos k', v1, v2]
theorem okR_z {w : World} {lo1 lo2 n c1 m c2 : Nat} {A1 A2 : Option Addr} {f g : Nat → Int} {b : Bool} (k : okR b n f m g) (h1 : Row w lo1 A1 n c1 f) (h2 : Row w lo2 A2 m c2 g) :
    ∃ z d, b = sgnZ z ∧ n = len (magZ z) ∧ m = len d ∧ 0 < d ∧ normF (z, d) ∧ vR b n f m g = (z, d) ∧ NatS w lo1 A1 c1 (magZ z) ∧ NatS w lo2 A2 c2 d := by
  obtain ⟨x, d, e1, e2, hx, hd, h0, hb, hg, hv, s1, s2⟩ := okR_nat k h1 h2
  refine ⟨signed b x, d, ?_, by rw [mag_signed]; exact e1, e2, h0, Or.inr ⟨h0, by rw [mag_signed]; exact hx, hd, by rw [mag_signed]; exact hg⟩, hv, by rw [mag_signed]; exact s1, s2⟩
  rw [sgn_signed]
  cases b with
  | false => rfl
  | true => rw [decide_eq_true (hb rfl)]; rfl
theorem okR_of {b : Bool} {x d : Nat} (hx : len x ≤ 24) (hd : len d ≤ 24) (h0 : 0 < d) (hb : b = true → 0 < x) (hg : Nat.gcd x d = 1) : okR b (len x) (digI x) (len d) (digI d) :=
  ⟨okB_of (by omega) hb, okP_of (by omega), len_pos h0, hx, hd, by rw [natX_digI (by omega), natX_digI (by omega)]; exact hg⟩
theorem vR_nat {b : Bool} {x d : Nat} (hx : len x ≤ 24) (hd : len d ≤ 24) (h0 : 0 < d) (hb : b = true → 0 < x) (hg : Nat.gcd x d = 1) : vR b (len x) (digI x) (len d) (digI d) = (signed b x, d) := by
  rw [vR, if_pos (okR_of hx hd h0 hb hg), bigX_nat (by omega), natX_digI (by omega)]
theorem vR_norm (b : Bool) (n : Nat) (f : Nat → Int) (m : Nat) (g : Nat → Int) : normF (vR b n f m g) := by
  by_cases k : okR b n f m g
  · refine Or.inr ?_
    have h1 := natX_spec k.1.1
    have h2 := natX_spec k.2.1
    have k' := k
    obtain ⟨⟨k1, kb⟩, k2, k3, k4, k5, k6⟩ := k
    have e1 : len (natX n f) = n := h1.1.symm
    have e2 : len (natX m g) = m := h2.1.symm
    rw [vR, if_pos k']
    refine ⟨pos_len (by show 0 < len (natX m g); omega), ?_, by show len (natX m g) ≤ 24; omega, ?_⟩
    · show len (magZ (bigX b n f)) ≤ 24; rw [bigX, mag_signed]; omega
    · show Nat.gcd (magZ (bigX b n f)) (natX m g) = 1; rw [bigX, mag_signed]; exact k6
  · exact Or.inl (vR_no k)
theorem sgn_pos {z : Int} (h : sgnZ z = true) : 0 < magZ z := by
  have : z < 0 := by simpa [sgnZ] using h
  unfold magZ; omega
theorem vR_val {v : Fr} (h : normF v) : vR (sgnZ v.1) (len (magZ v.1)) (digI (magZ v.1)) (len v.2) (digI v.2) = v := by
  rcases h with h | h
  · subst h
    exact vR_no fun k => by have := k.2.2.1; rw [len_zero] at this; omega
  · rw [vR_nat h.2.1 h.2.2.1 h.1 sgn_pos h.2.2.2, signed_mag]
theorem vR_den {b : Bool} {n : Nat} {f : Nat → Int} {m : Nat} {g : Nat → Int} : (vR b n f m g).2 = 0 ↔ ¬ okR b n f m g := by
  constructor
  · intro h k
    rw [vR, if_pos k] at h
    have h2 := (natX_spec k.2.1).1
    have h3 := k.2.2.1
    have h4 : natX m g = 0 := h
    rw [h4, len_zero] at h2
    omega
  · intro k; rw [vR_no k]
theorem okR_val {v : Fr} (h : normF v) : okR (sgnZ v.1) (len (magZ v.1)) (digI (magZ v.1)) (len v.2) (digI v.2) ↔ 0 < v.2 := by
  have e := vR_val h
  have hd := vR_den (b := sgnZ v.1) (n := len (magZ v.1)) (f := digI (magZ v.1)) (m := len v.2) (g := digI v.2)
  rw [e] at hd
  constructor
  · intro k; exact Nat.pos_of_ne_zero fun h0 => hd.1 h0 k
  · intro h0; exact Classical.byContradiction fun k => by have := hd.2 k; omega
/-- An int as a fraction. -/
theorem int_norm {z : Int} (h : len (magZ z) ≤ 24) : normF (z, 1) := by
  refine Or.inr ⟨Nat.one_pos, h, ?_, Nat.gcd_one_right _⟩
  show len 1 ≤ 24
  have : len 1 = 1 := len_eq (by rw [Nat.pow_one, B_eq]; omega) (fun _ => by rw [Nat.sub_self, Nat.pow_zero]; omega)
  omega
def pointF (a b : Fr) : Fr × Fr := if a.2 = 0 ∨ b.2 = 0 then ((0, 0), (0, 0)) else (a, b)
theorem pointF_norm {a b : Fr} (ha : normF a) (hb : normF b) : normF (pointF a b).1 ∧ normF (pointF a b).2 := by
  unfold pointF; split
  · exact ⟨Or.inl rfl, Or.inl rfl⟩
  · exact ⟨ha, hb⟩
end Go.Proofs.YtgchbbjhdeobpaaGreatDoor
