import Derived.BigQuiet
import Derived.ChangeOld
import Derived.Deep.OwnRows
import Derived.Deep.QuietTactic
import Derived.JoinedOf
import Derived.KernelRfl
import Derived.Laws.IdiomStrings
import Derived.Lib.Bytealg
import Derived.Lib.Hide
import Derived.Lib.ItoaNum
import Derived.Lib.Join
import Derived.Lib.SmallJoins
import Derived.OpenShut
import Derived.ProofKit
import Derived.ShutString
import Derived.Test.YtgchbbjhdeobpaaGreatDoorRows
import Derived.WalkKit
import Derived.WalkLawsBesides
import Derived.WalkSpells
import Ieee.Arith
import Derived.Test.YtgchbbjhdeobpaaGreatDoorW1
import Derived.Test.YtgchbbjhdeobpaaGreatDoorW2
import Derived.Test.YtgchbbjhdeobpaaGreatDoorW3
import Derived.Test.YtgchbbjhdeobpaaGreatDoorW4
import Derived.Test.YtgchbbjhdeobpaaGreatDoorW9
import Derived.Test.YtgchbbjhdeobpaaGreatDoorW10
/- What the claim's proof reaches of: Split0. -/
namespace Go.Proofs.YtgchbbjhdeobpaaGreatDoor
set_option linter.unusedVariables false
open Go.RowKit

/-- The byte at i. -/
def bAt (s : ByteArray) (i : Nat) : UInt8 := s.data.toList.getD i 0
theorem bAt_eq (s : ByteArray) (i : Nat) (h : i < s.size) : s[i] = bAt s i := by
  unfold bAt
  rw [List.getD_eq_getElem?_getD, List.getElem?_eq_getElem (by exact h)]
  rfl
def hasB (y : ByteArray) (c : UInt8) : Bool := y.data.toList.contains c
/-- The pieces behind i bytes, and where the next one begins. -/
def spl (s y : ByteArray) : Nat → List ByteArray × Nat
  | 0 => ([], 0)
  | i + 1 => if hasB y (bAt s i) = true then ((spl s y i).1 ++ [s.extract (spl s y i).2 i], i + 1) else spl s y i
theorem spl_hit {s y : ByteArray} {i : Nat} (h : hasB y (bAt s i) = true) : spl s y (i + 1) = ((spl s y i).1 ++ [s.extract (spl s y i).2 i], i + 1) := by rw [spl, if_pos h]
theorem spl_miss {s y : ByteArray} {i : Nat} (h : hasB y (bAt s i) = false) : spl s y (i + 1) = spl s y i := by rw [spl, if_neg (by rw [h]; decide)]
def rSplitAny (s y : ByteArray) : List ByteArray := (spl s y s.size).1 ++ [s.extract (spl s y s.size).2 s.size]
/-! joined again -/
end Go.Proofs.YtgchbbjhdeobpaaGreatDoor
