import Derived.Test.YtgchbbjhdeobpaaGreatDoorDecBig
import Derived.Test.YtgchbbjhdeobpaaGreatDoorRatTxt
import Derived.Test.YtgchbbjhdeobpaaGreatDoorCut
/-
  A fraction's text parts at its slash: a plain law.
-/
namespace Go.Proofs.YtgchbbjhdeobpaaGreatDoor
set_option linter.unusedVariables false
open Go.RowKit Num
/-- The text of a fraction. -/
noncomputable def txQ (z : Int) (d : Nat) : ByteArray := ratT (sgnZ z) (len (magZ z)) (digI (magZ z)) (len d) (digI d)
theorem txQ_one {z : Int} : txQ z 1 = txZ z := by
  unfold txQ ratT txZ
  rw [if_pos (natX_digI (by have : len 1 ≤ 1 := len_le_iff.2 (by rw [Nat.pow_one, B_eq]; omega); omega))]
theorem txQ_cut {z : Int} {d : Nat} (hz : len (magZ z) ≤ 60) (hd : len d ≤ 60) (h1 : ¬ d = 1) : Cut2 (txQ z d) 47 (txZ z) (txN d) := by
  have e : txQ z d = txZ z ++ ⟨#[47]⟩ ++ txN d := by
    unfold txQ ratT
    rw [if_neg (by rw [natX_digI hd]; exact h1)]
    rfl
  have e47 : (47 : UInt8).toNat = 47 := rfl
  refine ⟨?_, fun hc => ?_, fun hc => ?_⟩
  · rw [e, ByteArray.data_append, ByteArray.data_append, Array.toList_append, Array.toList_append]
    simp
  · have := txZ_mem hz hc
    omega
  · have := txN_mem hd hc
    omega
end Go.Proofs.YtgchbbjhdeobpaaGreatDoor
