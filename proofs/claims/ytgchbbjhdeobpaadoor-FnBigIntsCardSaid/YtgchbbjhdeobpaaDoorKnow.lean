import Derived.Test.YtgchbbjhdeobpaaDoorInt
import Derived.Test.YtgchbbjhdeobpaaDoorTie
import Derived.Test.YtgchbbjhdeobpaaDoorCards
import Derived.LaidLaws
import Derived.MakeChecks
import Derived.Lay
import Derived.LaidMore
import Derived.Stop.LaidErr
import Derived.SevenTiedAt
/-
  What a card's listed variables give a walk.
-/
namespace Go.Proofs.YtgchbbjhdeobpaaDoor
set_option linter.unusedVariables false
open Go.RowKit Go.ChangeShapes Go.WideShapes Go.ChangeAt
theorem kt_of {a b : String × DataW Unit} {r : List (String × DataW Unit)} {W : World} (h : laidMet Tryd.prog (a :: b :: ("internal/strconv.uint64pow10", Rows.laid_internal_strconv_uint64pow10) :: r) W) : KT W :=
  Lib.tabIs_of_head (n := 20) (zs := Lib.pow10Tab) (k := .u64) (g := 0) (t := 108) (e := 97) (by kernel_rfl) (by kernel_rfl) Tryd.underlying108 Tryd.underlying97 (by kernel_rfl) (by kernel_rfl) h.tail.tail
end Go.Proofs.YtgchbbjhdeobpaaDoor
