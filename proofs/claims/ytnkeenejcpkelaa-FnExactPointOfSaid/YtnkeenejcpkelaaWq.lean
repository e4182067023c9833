/-
  'Nothing old has turned', shown step by step without laying anything open: for worlds behind many stores.
-/
import Derived.Test.YtnkeenejcpkelaaWk
namespace Go.Proofs.Ytnkeenejcpkelaa
set_option linter.unusedVariables false
open Go.RowKit Num
theorem oldB {B : Nat} {a w : World} (h : Below B a w := by repeat' (first | (with_reducible exact Below.refl _ _) | (with_reducible assumption) | (with_reducible refine below_drewN ?_ _) | (with_reducible refine Below.drew ?_) | (with_reducible refine Below.alloc ?_ (by first | omega | (simp <;> omega)) _) | (with_reducible refine Below.setCell ?_ (by first | (simp <;> omega) | (simp <;> done) | omega) _))) : Below B a w := h
end Go.Proofs.Ytnkeenejcpkelaa
