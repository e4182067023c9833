import Derived.Test.YtgchbbjhdeobpaaGreatDoorInt
import Derived.Test.YtgchbbjhdeobpaaGreatDoorTie
import Derived.Test.YtgchbbjhdeobpaaGreatDoorCards
import Derived.LaidLaws
import Derived.MakeChecks
import Derived.Lay
import Derived.LaidMore
import Derived.Stop.LaidErr
import Derived.SevenTiedAt
/-
  What a card's listed variables give a walk.
-/
namespace Go.Proofs.YtgchbbjhdeobpaaGreatDoor
set_option linter.unusedVariables false
open Go.RowKit Go.ChangeShapes Go.WideShapes Go.ChangeAt
theorem kt_of {a b : String × DataW Unit} {r : List (String × DataW Unit)} {W : World} (h : laidMet Tryz.prog (a :: b :: ("internal/strconv.uint64pow10", Rows.laid_internal_strconv_uint64pow10) :: r) W) : KT W :=
  Lib.tabIs_of_head (n := 20) (zs := Lib.pow10Tab) (k := .u64) (g := 1) (t := 132) (e := 122) (by kernel_rfl) (by kernel_rfl) Tryz.underlying132 Tryz.underlying122 (by kernel_rfl) (by kernel_rfl) h.tail.tail
end Go.Proofs.YtgchbbjhdeobpaaGreatDoor
