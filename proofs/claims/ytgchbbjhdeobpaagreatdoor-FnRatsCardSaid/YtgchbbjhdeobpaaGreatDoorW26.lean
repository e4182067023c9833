import Derived.BigQuiet
import Derived.ChangeOld
import Derived.Deep.DeepCutAuto
import Derived.Deep.DrawnRows
import Derived.Deep.OwnRows
import Derived.Deep.QuietTactic
import Derived.Deep.RegionHeld3
import Derived.JoinedOf
import Derived.KernelRfl
import Derived.LaidLaws
import Derived.LaidMore
import Derived.Laws.IdiomStrings
import Derived.Lay
import Derived.Lib.AppendIntMem
import Derived.Lib.Hide
import Derived.Lib.ItoaLen
import Derived.Lib.ItoaNum
import Derived.Lib.SmallJoins
import Derived.MakeChecks
import Derived.OpenShut
import Derived.ProofKit
import Derived.SevenTiedAt
import Derived.ShutString
import Derived.Stop.LaidErr
import Derived.Test.YtgchbbjhdeobpaaGreatDoorCards
import Derived.Test.YtgchbbjhdeobpaaGreatDoorRows
import Derived.Test.YtgchbbjhdeobpaaGreatDoorShelf
import Derived.Test.YtgchbbjhdeobpaaGreatDoorTie
import Derived.WalkKit
import Derived.WalkLawsBesides
import Derived.WalkSpells
import Ieee.Arith
import Derived.Test.YtgchbbjhdeobpaaGreatDoorW1
import Derived.Test.YtgchbbjhdeobpaaGreatDoorW2
import Derived.Test.YtgchbbjhdeobpaaGreatDoorW3
import Derived.Test.YtgchbbjhdeobpaaGreatDoorW4
import Derived.Test.YtgchbbjhdeobpaaGreatDoorW9
import Derived.Test.YtgchbbjhdeobpaaGreatDoorW10
import Derived.Test.YtgchbbjhdeobpaaGreatDoorW19
/- What the claim's proof reaches of: Know. -/
namespace Go.Proofs.YtgchbbjhdeobpaaGreatDoor
set_option linter.unusedVariables false
open Go.RowKit Go.ChangeShapes Go.WideShapes Go.ChangeAt
theorem kt_of {a b : String × DataW Unit} {r : List (String × DataW Unit)} {W : World} (h : laidMet Tryz.prog (a :: b :: ("internal/strconv.uint64pow10", Rows.laid_internal_strconv_uint64pow10) :: r) W) : KT W :=
  Lib.tabIs_of_head (n := 20) (zs := Lib.pow10Tab) (k := .u64) (g := 1) (t := 132) (e := 122) (by kernel_rfl) (by kernel_rfl) Tryz.underlying132 Tryz.underlying122 (by kernel_rfl) (by kernel_rfl) h.tail.tail
end Go.Proofs.YtgchbbjhdeobpaaGreatDoor
