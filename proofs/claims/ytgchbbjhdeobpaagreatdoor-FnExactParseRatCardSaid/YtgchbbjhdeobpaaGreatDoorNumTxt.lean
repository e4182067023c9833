import Derived.Test.YtgchbbjhdeobpaaGreatDoorInt
import Derived.Test.YtgchbbjhdeobpaaGreatDoorSplit0
import Derived.Test.YtgchbbjhdeobpaaGreatDoorText
import Derived.Lib.AtoiAllCases
/-
  Texts of ints read back: plain facts.
-/
namespace Go.Proofs.YtgchbbjhdeobpaaGreatDoor
set_option linter.unusedVariables false
open Go.RowKit

theorem digit_toNat {d : Nat} (h : d < 10) : (UInt8.ofNat (48 + d)).toNat = 48 + d := by
  simp
  omega
theorem parse_dec (k : Nat) : ∀ (u : Nat) (r : List UInt8), u < k → u < 18446744073709551616 → Lib.parseUint10 0 (Lib.decDigits u ++ r) = Lib.parseUint10 u r := by
  induction k with
  | zero => intro u r h; omega
  | succ k ih =>
    intro u r hk hu
    by_cases h : u < 10
    · rw [Lib.decDigits_one h]
      simp only [List.cons_append, List.nil_append, Lib.parseUint10, digit_toNat h]
      rw [if_pos (by omega), if_neg (by omega), if_neg (by omega)]
      congr 1
      omega
    · rw [dec_big h, List.append_assoc, ih (u / 10) _ (by omega) (by omega)]
      simp only [List.cons_append, List.nil_append, Lib.parseUint10, digit_toNat (show u % 10 < 10 by omega)]
      rw [if_pos (by omega), if_neg (by omega), if_neg (by omega)]
      congr 1
      omega
theorem dec_digits (k : Nat) : ∀ (u : Nat), u < k → ∀ c ∈ Lib.decDigits u, 48 ≤ c.toNat ∧ c.toNat ≤ 57 := by
  induction k with
  | zero => intro u h; omega
  | succ k ih =>
    intro u hk c hc
    by_cases h : u < 10
    · rw [Lib.decDigits_one h] at hc
      simp only [List.mem_singleton] at hc
      rw [hc, digit_toNat h]
      omega
    · rw [dec_big h, List.mem_append] at hc
      rcases hc with hc | hc
      · exact ih (u / 10) (by omega) c hc
      · simp only [List.mem_singleton] at hc
        rw [hc, digit_toNat (by omega)]
        omega
theorem dec_ne (u : Nat) : Lib.decDigits u ≠ [] := fun e => by
  have := decDigits_pos u
  rw [e] at this
  simp at this
theorem parseMag_dec {u : Nat} (hu : u < 18446744073709551616) : Lib.parseMag (Lib.decDigits u) = .ok u := by
  unfold Lib.parseMag
  rw [if_neg (dec_ne u)]
  have := parse_dec (u + 1) u [] (by omega) hu
  rw [List.append_nil] at this
  rw [this]
  rfl
theorem atoi_itoa (v : Int) (h0 : -9223372036854775808 ≤ v) (h1 : v ≤ 9223372036854775807) : Lib.atoiAll (Lib.itoa v) = .ok v := by
  unfold Lib.itoa
  by_cases h : v < 0
  · rw [if_pos h, Lib.atoiAll_minus, parseMag_dec (by omega)]
    unfold Lib.signed
    simp only
    rw [if_neg (by omega)]
    congr 1
    omega
  · rw [if_neg h]
    have hp := parseMag_dec (u := v.toNat) (by omega)
    have hd := dec_digits (v.toNat + 1) v.toNat (by omega)
    generalize hl : Lib.decDigits v.toNat = l at hp hd ⊢
    cases l with
    | nil => exact absurd hl (dec_ne _)
    | cons c r =>
      have := hd c (by simp)
      rw [Lib.atoiAll_plain c r (by omega) (by omega), hp]
      unfold Lib.signless
      simp only
      rw [if_neg (by omega)]
      congr 1
      omega
theorem txt_data (l : List UInt8) : (txt l).data.toList = l := by simp [txt]
theorem rFormatInt_data (v : Int) : (rFormatInt v).data.toList = Lib.itoa v := txt_data _
theorem rFormatInt_inj {v v' : Int} (h0 : -9223372036854775808 ≤ v ∧ v ≤ 9223372036854775807) (h1 : -9223372036854775808 ≤ v' ∧ v' ≤ 9223372036854775807) (h : rFormatInt v = rFormatInt v') : v = v' := by
  have e := congrArg (fun s => Lib.atoiAll s.data.toList) h
  simp only [rFormatInt_data] at e
  rw [atoi_itoa v h0.1 h0.2, atoi_itoa v' h1.1 h1.2] at e
  injection e
/-- The text is that of an int. -/
def okI (s : ByteArray) : Prop := ∃ v : Int, (-9223372036854775808 ≤ v ∧ v ≤ 9223372036854775807) ∧ rFormatInt v = s
open Classical in
noncomputable def rParseInt0 (s : ByteArray) : Int := if h : okI s then h.choose else 0
open Classical in
noncomputable def rParseInt1 (s : ByteArray) : Bool := decide (okI s)
open Classical in
theorem rParse_is {s : ByteArray} {v : Int} (h0 : -9223372036854775808 ≤ v ∧ v ≤ 9223372036854775807) (h : rFormatInt v = s) : rParseInt0 s = v ∧ rParseInt1 s = true := by
  have k : okI s := ⟨v, h0, h⟩
  refine ⟨?_, decide_eq_true k⟩
  unfold rParseInt0
  rw [dif_pos k]
  exact rFormatInt_inj k.choose_spec.1 h0 (k.choose_spec.2.trans h.symm)
open Classical in
theorem rParse_not {s : ByteArray} (h : ¬ okI s) : rParseInt0 s = 0 ∧ rParseInt1 s = false := ⟨by unfold rParseInt0; rw [dif_neg h], decide_eq_false h⟩
/-- The number that the first j bytes spell. -/
def dq (t : ByteArray) : Nat → Nat
  | 0 => 0
  | j + 1 => dq t j * 10 + ((bAt t j).toNat - 48)
theorem dq_mono (t : ByteArray) {i j : Nat} (h : i ≤ j) : dq t i ≤ dq t j := by
  induction h with
  | refl => exact Nat.le_refl _
  | step _ ih => exact Nat.le_trans ih (by rw [dq]; omega)
theorem dq_pre (l m : List UInt8) : ∀ j, j ≤ l.length → dq (txt (l ++ m)) j = dq (txt l) j
  | 0, _ => rfl
  | j + 1, h => by
    rw [dq, dq, dq_pre l m j (by omega)]
    congr 2
    unfold bAt
    rw [txt_data, txt_data, List.getD_eq_getElem?_getD, List.getD_eq_getElem?_getD, List.getElem?_append_left (by omega)]
theorem dq_dec (k : Nat) : ∀ u, u < k → dq (txt (Lib.decDigits u)) (Lib.decDigits u).length = u := by
  induction k with
  | zero => intro u h; omega
  | succ k ih =>
    intro u hk
    by_cases h : u < 10
    · rw [Lib.decDigits_one h]
      show dq (txt [UInt8.ofNat (48 + u)]) 1 = u
      rw [dq, dq]
      have e : bAt (txt [UInt8.ofNat (48 + u)]) 0 = UInt8.ofNat (48 + u) := rfl
      rw [e, digit_toNat h]
      omega
    · rw [dec_big h, List.length_append]
      show dq _ ((Lib.decDigits (u / 10)).length + 1) = u
      rw [dq, dq_pre _ _ _ (Nat.le_refl _), ih (u / 10) (by omega)]
      have e : bAt (txt (Lib.decDigits (u / 10) ++ [UInt8.ofNat (48 + u % 10)])) (Lib.decDigits (u / 10)).length = UInt8.ofNat (48 + u % 10) := by
        unfold bAt
        rw [txt_data, List.getD_eq_getElem?_getD, List.getElem?_append_right (Nat.le_refl _)]
        simp
      rw [e, digit_toNat (by omega)]
      omega
theorem txt_of (s : ByteArray) : txt s.data.toList = s := by
  unfold txt
  simp
theorem okI_cases {s : ByteArray} (h : okI s) : (∃ u : Nat, 1 ≤ u ∧ u ≤ 9223372036854775808 ∧ s.data.toList = 45 :: Lib.decDigits u ∧ rFormatInt (-(u : Int)) = s) ∨ (∃ u : Nat, u ≤ 9223372036854775807 ∧ s.data.toList = Lib.decDigits u ∧ rFormatInt (u : Int) = s) := by
  obtain ⟨v, hv, e⟩ := h
  have hd := rFormatInt_data v
  rw [e] at hd
  unfold Lib.itoa at hd
  by_cases hn : v < 0
  · rw [if_pos hn] at hd
    refine .inl ⟨v.natAbs, by omega, by omega, hd, ?_⟩
    rw [show -((v.natAbs : Nat) : Int) = v by omega]
    exact e
  · rw [if_neg hn] at hd
    refine .inr ⟨v.toNat, by omega, hd, ?_⟩
    rw [show ((v.toNat : Nat) : Int) = v by omega]
    exact e
theorem bAt_cons {s : ByteArray} {c : UInt8} {l : List UInt8} (h : s.data.toList = c :: l) : bAt s 0 = c := by
  unfold bAt
  rw [h]
  rfl
theorem ext1 {s : ByteArray} {c : UInt8} {l : List UInt8} (h : s.data.toList = c :: l) : s.extract 1 s.size = txt l := by
  have hs : s.size = l.length + 1 := by
    have : s.size = s.data.toList.length := rfl
    rw [this, h]
    rfl
  rw [← txt_of (s.extract 1 s.size)]
  congr 1
  rw [ByteArray.data_extract, Array.toList_extract, h, hs]
  simp
theorem pos_ok {s : ByteArray} (h : okI s) (h0 : ¬ (bAt s 0).toNat = 45) : ∃ u : Nat, u ≤ 9223372036854775807 ∧ s = txt (Lib.decDigits u) ∧ rFormatInt (u : Int) = s := by
  rcases okI_cases h with ⟨u, _, _, hd, _⟩ | ⟨u, hu, hd, he⟩
  · exact absurd (by rw [bAt_cons hd]; rfl) h0
  · exact ⟨u, hu, by rw [← hd, txt_of], he⟩
theorem neg_ok {s : ByteArray} (h : okI s) (h0 : (bAt s 0).toNat = 45) : ∃ u : Nat, u ≤ 9223372036854775808 ∧ s.extract 1 s.size = txt (Lib.decDigits u) ∧ rFormatInt (-(u : Int)) = s := by
  rcases okI_cases h with ⟨u, _, hu, hd, he⟩ | ⟨u, _, hd, _⟩
  · exact ⟨u, hu, ext1 hd, he⟩
  · exfalso
    have hh := dec_digits (u + 1) u (by omega)
    generalize hl : Lib.decDigits u = l at hd hh
    cases l with
    | nil => exact dec_ne u hl
    | cons c r =>
      rw [bAt_cons hd] at h0
      have := hh c (by simp)
      omega
theorem dec_size {u : Nat} (h : u ≤ 9223372036854775808) : (txt (Lib.decDigits u)).size ≤ 19 ∧ 0 < (txt (Lib.decDigits u)).size := by
  rw [txt_size]
  refine ⟨?_, decDigits_pos u⟩
  rw [Lib.decDigits_length]
  rcases Nat.lt_or_ge 19 (Lib.nDigits u) with hh | hh
  · exfalso
    have h10 : 10 ^ 19 ≤ u := by
      rcases Nat.lt_or_ge u (10 ^ 19) with hx | hx
      · exfalso
        have : ∀ (k : Nat) (u : Nat), u < 10 ^ (k + 1) → Lib.nDigits u ≤ k + 1 := by
          intro k
          induction k with
          | zero => intro u hu; rw [Lib.nDigits_small (by omega)]; omega
          | succ k ih =>
            intro u hu
            by_cases hs : u < 10
            · rw [Lib.nDigits_small hs]; omega
            · rw [Lib.nDigits_big hs]
              have := ih (u / 10) (by rw [Nat.pow_succ] at hu; omega)
              omega
        have := this 18 u hx
        omega
      · exact hx
    omega
  · exact hh
theorem dec_isDigits (u : Nat) : inR (txt (Lib.decDigits u)) 48 57 := by
  intro k hk
  have hm : (txt (Lib.decDigits u))[k] ∈ Lib.decDigits u := by
    rw [bAt_eq _ k hk]
    unfold bAt
    rw [txt_data, List.getD_eq_getElem?_getD, List.getElem?_eq_getElem (by rw [txt_size] at hk; exact hk)]
    exact List.getElem_mem _
  have := dec_digits (u + 1) u (by omega) _ hm
  omega
theorem dec_rIsDigits {u : Nat} (h : u ≤ 9223372036854775808) : rIsDigits (txt (Lib.decDigits u)) = true := by
  unfold rIsDigits
  rw [inB_yes (dec_isDigits u), Bool.and_true]
  have := (dec_size h).2
  exact decide_eq_true (by omega)
theorem dec_dq {u : Nat} : dq (txt (Lib.decDigits u)) (txt (Lib.decDigits u)).size = u := by
  rw [txt_size]
  exact dq_dec (u + 1) u (by omega)
end Go.Proofs.YtgchbbjhdeobpaaGreatDoor
