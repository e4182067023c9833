import Derived.Test.YtgchbbjhdeobpaaGreatDoorDecLaw
import Derived.Test.YtgchbbjhdeobpaaGreatDoorParseBig
import Derived.Test.YtgchbbjhdeobpaaGreatDoorBigTxt
import Derived.Lib.IndexLaws
/-
  A big integer's text reads back as the big integer: a plain law.
-/
namespace Go.Proofs.YtgchbbjhdeobpaaGreatDoor
set_option linter.unusedVariables false
open Go.RowKit Num

/-- The texts of a natural number, of a big integer. -/
noncomputable def txN (x : Nat) : ByteArray := rFormatNat (len x) (digI x)
noncomputable def txZ (z : Int) : ByteArray := bigT (sgnZ z) (len (magZ z)) (digI (magZ z))
theorem txN_ok {x : Nat} (h : len x ≤ 60) : okN (txN x) ∧ rParseNat (txN x) = x := by
  have hp := parse_format h
  refine ⟨?_, hp.1⟩
  by_cases k : okN (txN x)
  · exact k
  · have h2 := (rParse_no k).2
    unfold txN at h2
    rw [hp.2] at h2
    cases h2
theorem inR_mem {s : ByteArray} (h : inR s 48 57) {c : UInt8} (hc : c ∈ s.data.toList) : 48 ≤ c.toNat ∧ c.toNat ≤ 57 := by
  obtain ⟨k, hk, e⟩ := List.mem_iff_getElem.1 hc
  have hs : k < s.size := hk
  have hh := h k hs
  have e2 : s[k] = c := e
  rw [e2] at hh
  omega
theorem txN_mem {x : Nat} (h : len x ≤ 60) {c : UInt8} (hc : c ∈ (txN x).data.toList) : 48 ≤ c.toNat ∧ c.toNat ≤ 57 := inR_mem (okN_in (txN_ok h).1).1 hc
theorem txZ_neg {z : Int} (h : z < 0) : (txZ z).data.toList = 45 :: (txN (magZ z)).data.toList := by
  unfold txZ bigT sgnZ
  rw [if_pos (decide_eq_true h), ByteArray.data_append, Array.toList_append]
  rfl
theorem txZ_pos {z : Int} (h : ¬ z < 0) : txZ z = txN (magZ z) := by
  unfold txZ bigT sgnZ
  rw [if_neg (by simpa using h)]
  rfl
theorem txZ_mem {z : Int} (h : len (magZ z) ≤ 60) {c : UInt8} (hc : c ∈ (txZ z).data.toList) : c.toNat = 45 ∨ (48 ≤ c.toNat ∧ c.toNat ≤ 57) := by
  by_cases hz : z < 0
  · rw [txZ_neg hz] at hc
    rcases List.mem_cons.1 hc with hc | hc
    · exact .inl (by rw [hc]; rfl)
    · exact .inr (txN_mem h hc)
  · rw [txZ_pos hz] at hc
    exact .inr (txN_mem h hc)
/-- THE LAW: a big integer's text reads back. -/
theorem parse_big {z : Int} (h : len (magZ z) ≤ 60) : zParseBigInt (txZ z) = z ∧ rParseBigInt1 (txZ z) = true := by
  have hN := txN_ok h
  have hin := okN_in hN.1
  by_cases hz : z < 0
  · have hd := txZ_neg hz
    have hsz : 0 < (txZ z).size := by
      have e : (txZ z).size = (txZ z).data.toList.length := rfl
      rw [e, hd]
      simp
    have hneg : negS (txZ z) = true := by
      rw [neg_at hsz, bAt_eq _ 0 hsz, bAt_cons hd]
      rfl
    have ht : tS (txZ z) = txN (magZ z) := by rw [tS_neg hneg, ext1 hd, txt_of]
    have k : okZ (txZ z) := by
      unfold okZ
      rw [ht, hN.2]
      exact ⟨hN.1, fun _ => by unfold magZ; omega⟩
    refine ⟨?_, (zParse_yes k).2⟩
    rw [(zParse_yes k).1, hneg, ht, hN.2]
    unfold signed magZ
    rw [if_pos rfl]
    omega
  · have he := txZ_pos hz
    have hneg : negS (txZ z) = false := by
      rw [he, neg_at hin.2]
      have := hin.1 0 hin.2
      exact decide_eq_false (by omega)
    have ht : tS (txZ z) = txN (magZ z) := by rw [tS_pos hneg, he]
    have k : okZ (txZ z) := by
      unfold okZ
      rw [ht, hneg]
      exact ⟨hN.1, fun hh => by cases hh⟩
    refine ⟨?_, (zParse_yes k).2⟩
    rw [(zParse_yes k).1, hneg, ht, hN.2]
    unfold signed magZ
    rw [if_neg (by decide)]
    omega
theorem txZ_nocut {z : Int} (hz : len (magZ z) ≤ 60) : Lib.indexByte (txZ z).data.toList 47 = -1 := by
  rcases (by have := Lib.indexByte_ge (txZ z).data.toList 47; omega : Lib.indexByte (txZ z).data.toList 47 = -1 ∨ 0 ≤ Lib.indexByte (txZ z).data.toList 47) with h | h
  · exact h
  · obtain ⟨i, hi⟩ : ∃ i : Nat, Lib.indexByte (txZ z).data.toList 47 = (i : Int) := ⟨(Lib.indexByte (txZ z).data.toList 47).toNat, by omega⟩
    have hs := Lib.indexByte_some hi
    obtain ⟨hl, e⟩ := List.getElem?_eq_some_iff.1 hs.1
    have := txZ_mem hz (e ▸ List.getElem_mem hl)
    have e47 : (47 : UInt8).toNat = 47 := rfl
    omega
theorem txZ_inj {z z' : Int} (h : len (magZ z) ≤ 60) (h' : len (magZ z') ≤ 60) (e : txZ z = txZ z') : z = z' := by
  rw [← (parse_big h).1, e, (parse_big h').1]
theorem txN_inj {x x' : Nat} (h : len x ≤ 60) (h' : len x' ≤ 60) (e : txN x = txN x') : x = x' := by
  rw [← (txN_ok h).2, e, (txN_ok h').2]
end Go.Proofs.YtgchbbjhdeobpaaGreatDoor
