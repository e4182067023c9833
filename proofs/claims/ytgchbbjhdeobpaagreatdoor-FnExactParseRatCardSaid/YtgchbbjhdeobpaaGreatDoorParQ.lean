import Derived.Test.YtgchbbjhdeobpaaGreatDoorDecQ
import Derived.Test.YtgchbbjhdeobpaaGreatDoorRatArgs
/-
  Which text reads back as which fraction: a plain law.
-/
namespace Go.Proofs.YtgchbbjhdeobpaaGreatDoor
set_option linter.unusedVariables false
open Go.RowKit Num
/-- A text that is a valid fraction's. -/
def okQ (s : ByteArray) : Prop := ∃ (z : Int) (d : Nat), normF (z, d) ∧ 0 < d ∧ txQ z d = s
open Classical in
noncomputable def vParseRat (s : ByteArray) : Fr := if h : okQ s then (h.choose, h.choose_spec.choose) else (0, 0)
open Classical in
noncomputable def rParseRat1 (s : ByteArray) : Bool := decide (okQ s)
theorem txQ_inj {z z' : Int} {d d' : Nat} (n1 : normF (z, d)) (n2 : normF (z', d')) (h : txQ z d = txQ z' d') : z = z' ∧ d = d' := by
  have l1 := norm_len n1
  have l2 := norm_len n2
  simp only at l1 l2
  by_cases e1 : d = 1
  · subst e1
    by_cases e2 : d' = 1
    · subst e2
      rw [txQ_one, txQ_one] at h
      exact ⟨txZ_inj (by omega) (by omega) h, rfl⟩
    · have hc := txQ_cut (z := z') (d := d') (by omega) (by omega) e2
      rw [← h, txQ_one] at hc
      have := hc.index
      rw [txZ_nocut (by omega)] at this
      omega
  · have hc := txQ_cut (z := z) (d := d) (by omega) (by omega) e1
    by_cases e2 : d' = 1
    · subst e2
      rw [h, txQ_one] at hc
      have := hc.index
      rw [txZ_nocut (by omega)] at this
      omega
    · have hc2 := txQ_cut (z := z') (d := d') (by omega) (by omega) e2
      rw [h] at hc
      have a := hc.split
      rw [hc2.split] at a
      injection a with a1 a2
      injection a2 with a2 _
      exact ⟨(txZ_inj (by omega) (by omega) a1).symm, (txN_inj (by omega) (by omega) a2).symm⟩
open Classical in
theorem pq_is {s : ByteArray} {z : Int} {d : Nat} (n1 : normF (z, d)) (p1 : 0 < d) (h : txQ z d = s) : vParseRat s = (z, d) ∧ rParseRat1 s = true := by
  have k : okQ s := ⟨z, d, n1, p1, h⟩
  have hs := k.choose_spec.choose_spec
  have e := txQ_inj hs.1 n1 (hs.2.2.trans h.symm)
  refine ⟨?_, decide_eq_true k⟩
  have e2 : vParseRat s = (k.choose, k.choose_spec.choose) := dif_pos k
  rw [e2]
  exact Prod.ext e.1 e.2
open Classical in
theorem pq_not {s : ByteArray} (h : ¬ okQ s) : vParseRat s = (0, 0) ∧ rParseRat1 s = false :=
  ⟨by unfold vParseRat; rw [dif_neg h], decide_eq_false h⟩
theorem vParseRat_norm (s : ByteArray) : normF (vParseRat s) := by
  by_cases k : okQ s
  · obtain ⟨z, d, n1, p1, h⟩ := k
    rw [(pq_is n1 p1 h).1]
    exact n1
  · rw [(pq_not k).1]
    exact .inl rfl
/-- FormatRat of what was read: empty, or a text of a valid fraction. -/
theorem fmt_val {z : Int} {d : Nat} (n1 : normF (z, d)) (p1 : 0 < d) : rFormatRat (sgnZ z) (len (magZ z)) (digI (magZ z)) (len d) (digI d) = txQ z d := if_pos ((okR_val n1).2 p1)
theorem val_of_okR {z : Int} {d : Nat} (hz : len (magZ z) ≤ 60) (hd : len d ≤ 60) (k : okR (sgnZ z) (len (magZ z)) (digI (magZ z)) (len d) (digI d)) : normF (z, d) ∧ 0 < d := by
  obtain ⟨k1, k2, k3, k4, k5, k6⟩ := k
  rw [natX_digI hz, natX_digI hd] at k6
  have p := pos_len k3
  exact ⟨.inr ⟨p, k4, k5, k6⟩, p⟩
end Go.Proofs.YtgchbbjhdeobpaaGreatDoor
