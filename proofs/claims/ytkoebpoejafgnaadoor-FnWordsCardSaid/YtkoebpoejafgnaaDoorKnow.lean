import Derived.Test.YtkoebpoejafgnaaDoorInt
import Derived.Test.YtkoebpoejafgnaaDoorTie
import Derived.Test.YtkoebpoejafgnaaDoorCards
import Derived.LaidLaws
import Derived.MakeChecks
import Derived.Lay
import Derived.LaidMore
import Derived.Stop.LaidErr
import Derived.SevenTiedAt
/-
  What a card's listed variables give a walk.
-/
namespace Go.Proofs.YtkoebpoejafgnaaDoor
set_option linter.unusedVariables false
open Go.RowKit Go.ChangeShapes Go.WideShapes Go.ChangeAt
theorem kt_of {a b : String × DataW Unit} {r : List (String × DataW Unit)} {W : World} (h : laidMet Tryd.prog (a :: b :: ("internal/strconv.uint64pow10", Rows.laid_internal_strconv_uint64pow10) :: r) W) : KT W :=
  Lib.tabIs_of_head (n := 20) (zs := Lib.pow10Tab) (k := .u64) (g := 3) (t := 176) (e := 154) (by kernel_rfl) (by kernel_rfl) Tryd.underlying176 Tryd.underlying154 (by kernel_rfl) (by kernel_rfl) h.tail.tail
end Go.Proofs.YtkoebpoejafgnaaDoor
