import Derived.Test.YtgchbbjhdeobpaaGreatDoorNatTxt
import Derived.Test.YtgchbbjhdeobpaaGreatDoorNumTxt
import Derived.Test.YtgchbbjhdeobpaaGreatDoorParse
/-
  A natural number's text reads back as the number: a plain law.
-/
namespace Go.Proofs.YtgchbbjhdeobpaaGreatDoor
set_option linter.unusedVariables false
open Go.RowKit Num

/-- The value of digits, behind what has been read. -/
def vF (a : Nat) (l : List UInt8) : Nat := l.foldl (fun a c => a * 10 + (c.toNat - 48)) a
theorem vF_nil (a : Nat) : vF a [] = a := by unfold vF; rw [List.foldl_nil]
theorem vF_cons (a : Nat) (c : UInt8) (l : List UInt8) : vF a (c :: l) = vF (a * 10 + (c.toNat - 48)) l := by unfold vF; rw [List.foldl_cons]
attribute [irreducible] vF
theorem vF_app (l m : List UInt8) : ∀ a, vF a (l ++ m) = vF (vF a l) m := by
  induction l with
  | nil => intro a; rw [vF_nil]; rfl
  | cons c l ih => intro a; rw [List.cons_append, vF_cons, vF_cons, ih]
theorem vF_base (l : List UInt8) : ∀ a, vF a l = a * 10 ^ l.length + vF 0 l := by
  induction l with
  | nil => intro a; rw [vF_nil, vF_nil]; simp
  | cons c l ih =>
    intro a
    rw [vF_cons, vF_cons, ih, ih (0 * 10 + (c.toNat - 48)), List.length_cons, Nat.pow_succ, Nat.add_mul, Nat.zero_mul, Nat.zero_add]
    have e : a * 10 * 10 ^ l.length = a * (10 ^ l.length * 10) := by rw [Nat.mul_assoc, Nat.mul_comm 10]
    omega
theorem vF_dec (k : Nat) : ∀ u, u < k → vF 0 (Lib.decDigits u) = u := by
  induction k with
  | zero => intro u h; omega
  | succ k ih =>
    intro u hk
    by_cases h : u < 10
    · rw [Lib.decDigits_one h, vF_cons, vF_nil, digit_toNat h]
      omega
    · rw [dec_big h, vF_app, ih (u / 10) (by omega), vF_cons, vF_nil, digit_toNat (by omega)]
      omega
theorem vF_zeros (l : List UInt8) : ∀ k, vF 0 (List.replicate k 48 ++ l) = vF 0 l
  | 0 => rfl
  | k + 1 => by
    rw [List.replicate_succ, List.cons_append, vF_cons]
    exact vF_zeros l k
theorem dv_vF (l : List UInt8) : ∀ n, n ≤ l.length → dv (txt l) 0 n = vF 0 (l.take n)
  | 0, _ => by rw [List.take_zero, vF_nil]; rfl
  | n + 1, h => by
    have hn : n < (txt l).size := by rw [txt_size]; omega
    rw [dv, dv_vF l n (by omega), List.take_succ_eq_append_getElem (by omega), vF_app, vF_cons, vF_nil]
    unfold chr
    rw [Nat.zero_add, dif_pos hn, bAt_eq _ n hn]
    have e : bAt (txt l) n = l[n] := by
      unfold bAt
      rw [txt_data, List.getD_eq_getElem?_getD, List.getElem?_eq_getElem (by omega)]
      rfl
    rw [e]
    omega
theorem dv_all (s : ByteArray) : dv s 0 s.size = vF 0 s.data.toList := by
  have e1 : s.size = s.data.toList.length := rfl
  have h := dv_vF s.data.toList s.data.toList.length (Nat.le_refl _)
  rw [txt_of, List.take_length] at h
  rw [e1]
  exact h
def dgs (l : List UInt8) : Prop := ∀ c ∈ l, 48 ≤ c.toNat ∧ c.toNat ≤ 57
theorem dgs_app {l m : List UInt8} (h1 : dgs l) (h2 : dgs m) : dgs (l ++ m) := fun c hc => by
  rcases List.mem_append.1 hc with h | h
  · exact h1 c h
  · exact h2 c h
theorem dgs_inR {s : ByteArray} (h : dgs s.data.toList) : inR s 48 57 := fun k hk => by
  have hm : s[k] ∈ s.data.toList := by rw [bAt_eq s k hk]; unfold bAt; rw [List.getD_eq_getElem?_getD, List.getElem?_eq_getElem (by exact hk)]; exact List.getElem_mem _
  have := h _ hm
  omega
theorem dec_len {u : Nat} (h : u ≤ 999999999) : (Lib.decDigits u).length ≤ 9 := by
  have h1 : ∀ (k : Nat) (u : Nat), u < 10 ^ (k + 1) → Lib.nDigits u ≤ k + 1 := by
    intro k
    induction k with
    | zero => intro u hu; rw [Lib.nDigits_small (by omega)]; omega
    | succ k ih =>
      intro u hu
      by_cases hs : u < 10
      · rw [Lib.nDigits_small hs]; omega
      · rw [Lib.nDigits_big hs]
        have := ih (u / 10) (by rw [Nat.pow_succ] at hu; omega)
        omega
  rw [Lib.decDigits_length]
  exact h1 8 u (by omega)
theorem fi_data (u : Nat) : (rFormatInt (u : Int)).data.toList = Lib.decDigits u := by
  rw [rFormatInt_data]
  unfold Lib.itoa
  rw [if_neg (by omega)]
  rfl
theorem pad_data {u : Nat} (h : u ≤ 999999999) : ∃ k, (rPadZeros (rFormatInt (u : Int)) 9).data.toList = List.replicate k 48 ++ Lib.decDigits u ∧ k + (Lib.decDigits u).length = 9 := by
  have hl := dec_len h
  have hs : (rFormatInt (u : Int)).size = (Lib.decDigits u).length := by
    have e : (rFormatInt (u : Int)).size = (rFormatInt (u : Int)).data.toList.length := rfl
    rw [e, fi_data]
  refine ⟨9 - (Lib.decDigits u).length, ?_, by omega⟩
  unfold rPadZeros
  rw [if_pos (by omega), hs, show ((9 : Int) - ((Lib.decDigits u).length : Int)).toNat = 9 - (Lib.decDigits u).length by omega]
  unfold padB
  rw [fi_data]
theorem dec_head {u : Nat} (h : 0 < u) : ∃ c r, Lib.decDigits u = c :: r ∧ ¬ c.toNat = 48 := by
  have : ∀ k u, u < k → 0 < u → ∃ c r, Lib.decDigits u = c :: r ∧ ¬ c.toNat = 48 := by
    intro k
    induction k with
    | zero => intro u h; omega
    | succ k ih =>
      intro u hk hu
      by_cases h : u < 10
      · refine ⟨_, [], Lib.decDigits_one h, ?_⟩
        rw [digit_toNat h]
        omega
      · obtain ⟨c, r, e, hc⟩ := ih (u / 10) (by omega) (by omega)
        exact ⟨c, r ++ [UInt8.ofNat (48 + u % 10)], by rw [dec_big h, e]; rfl, hc⟩
  exact this (u + 1) u (by omega) h
theorem fT_facts {x n : Nat} (hn : n = len x) (h0 : 0 < x) : ∀ k, k + 1 ≤ n → (∃ c r, (fT (digI x) n (k + 1)).data.toList = c :: r ∧ ¬ c.toNat = 48) ∧ dgs (fT (digI x) n (k + 1)).data.toList ∧ (fT (digI x) n (k + 1)).size ≤ 9 * (k + 1) ∧ vF 0 (fT (digI x) n (k + 1)).data.toList = x / B ^ (n - (k + 1))
  | 0, h => by
    have ht := top_pos (n := x) (by omega)
    rw [← hn] at ht
    have hle := dig_le x (n - 1)
    have e : fT (digI x) n (0 + 1) = rFormatInt ((dig x (n - 1) : Nat) : Int) := fT_one (digI x) n
    have hd := fi_data (dig x (n - 1))
    rw [e, hd]
    refine ⟨dec_head (by omega), dec_digits (dig x (n - 1) + 1) _ (by omega), ?_, ?_⟩
    · have hl := dec_len hle
      have e2 : (rFormatInt ((dig x (n - 1) : Nat) : Int)).size = (rFormatInt ((dig x (n - 1) : Nat) : Int)).data.toList.length := rfl
      rw [e2, hd]
      omega
    · rw [vF_dec (dig x (n - 1) + 1) _ (by omega), div_pow_succ x (n - (0 + 1)), show n - (0 + 1) + 1 = n by omega, Nat.div_eq_of_lt (by rw [hn]; exact lt_len x), Nat.mul_zero, Nat.zero_add, show n - (0 + 1) = n - 1 by omega]
  | k + 1, h => by
    obtain ⟨⟨c, r, e1, hc⟩, h2, h3, h4⟩ := fT_facts hn h0 k (by omega)
    have hst : fT (digI x) n (k + 1 + 1) = fT (digI x) n (k + 1) ++ rPadZeros (rFormatInt ((dig x (n - (k + 1) - 1) : Nat) : Int)) 9 := fT_step (digI x) (m := n - (k + 1) - 1) (by omega) (by omega)
    have hle := dig_le x (n - (k + 1) - 1)
    obtain ⟨z, hp, hz⟩ := pad_data hle
    rw [hst, ByteArray.data_append, Array.toList_append, hp]
    refine ⟨⟨c, _, by rw [e1]; rfl, hc⟩, dgs_app h2 (dgs_app (fun a ha => ?_) (dec_digits (dig x (n - (k + 1) - 1) + 1) _ (by omega))), ?_, ?_⟩
    · rw [List.eq_of_mem_replicate ha]
      decide
    · rw [ByteArray.size_append]
      have e2 : (rPadZeros (rFormatInt ((dig x (n - (k + 1) - 1) : Nat) : Int)) 9).size = (rPadZeros (rFormatInt ((dig x (n - (k + 1) - 1) : Nat) : Int)) 9).data.toList.length := rfl
      rw [e2, hp, List.length_append, List.length_replicate]
      omega
    · rw [vF_app, vF_base, h4, vF_zeros, vF_dec (dig x (n - (k + 1) - 1) + 1) _ (by omega), List.length_append, List.length_replicate, hz, div_pow_succ x (n - (k + 1 + 1)), show n - (k + 1 + 1) + 1 = n - (k + 1) by omega, show n - (k + 1) - 1 = n - (k + 1 + 1) by omega, Nat.mul_comm]
      rw [B_eq]
theorem okN_of {s : ByteArray} (h1 : dgs s.data.toList) (h0 : 0 < s.size) (h2 : s.size ≤ 540) (h3 : ¬ (1 < s.size ∧ c0 s = 48)) : okN s := by
  refine ⟨?_, h2, h3⟩
  unfold rIsDigits
  rw [inB_yes (dgs_inR h1), Bool.and_true]
  exact decide_eq_true (by omega)
/-- THE LAW: the text of a natural number reads back as the number. -/
theorem parse_format {x : Nat} (h : len x ≤ 60) : rParseNat (rFormatNat (len x) (digI x)) = x ∧ rParseNat1 (rFormatNat (len x) (digI x)) = true := by
  have hok := okP_of h
  by_cases h0 : x = 0
  · subst h0
    have e : rFormatNat (len 0) (digI 0) = ⟨#[48]⟩ := by unfold rFormatNat; rw [if_pos hok, if_pos len_zero]
    have e1 : (⟨#[48]⟩ : ByteArray).size = 1 := rfl
    rw [e]
    have k := okN_of (s := ⟨#[48]⟩) (fun c hc => by simp at hc; rw [hc]; decide) (by omega) (by omega) (by omega)
    refine ⟨?_, (rParse_yes k).2⟩
    rw [(rParse_yes k).1, dv_all]
    show vF 0 [48] = 0
    rw [vF_cons, vF_nil]
    rfl
  · have hn : ¬ len x = 0 := fun e => h0 (len_eq_zero.1 e)
    have e : rFormatNat (len x) (digI x) = fT (digI x) (len x) (len x) := by unfold rFormatNat; rw [if_pos hok, if_neg hn]
    obtain ⟨⟨c, r, e1, hc⟩, h2, h3, h4⟩ := fT_facts (n := len x) rfl (by omega) (len x - 1) (by omega)
    rw [show len x - 1 + 1 = len x by omega] at e1 h2 h3 h4
    have es : (fT (digI x) (len x) (len x)).size = (fT (digI x) (len x) (len x)).data.toList.length := rfl
    have hpos : 0 < (fT (digI x) (len x) (len x)).size := by rw [es, e1]; simp
    have k := okN_of h2 hpos (by omega) (fun hh => by
      have hcc : c0 (fT (digI x) (len x) (len x)) = c.toNat := by
        unfold c0
        rw [dif_pos hpos, bAt_eq _ 0 hpos, bAt_cons e1]
      exact hc (by rw [← hcc]; exact hh.2))
    rw [e]
    refine ⟨?_, (rParse_yes k).2⟩
    rw [(rParse_yes k).1, dv_all, h4]
    simp
end Go.Proofs.YtgchbbjhdeobpaaGreatDoor
