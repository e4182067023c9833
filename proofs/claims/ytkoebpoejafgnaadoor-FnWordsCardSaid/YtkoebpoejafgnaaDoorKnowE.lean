import Derived.Test.YtkoebpoejafgnaaDoorKnow
import Derived.Test.YtkoebpoejafgnaaDoorIntPar
/-
  What a card's listed errors give a walk.
-/
namespace Go.Proofs.YtkoebpoejafgnaaDoor
set_option linter.unusedVariables false
open Go.RowKit Go.ChangeShapes Go.WideShapes Go.ChangeAt
theorem star_es : "*" ++ "errors.errorString" = "*errors.errorString" := by decide
theorem row_es (u : TypeId) (h : Tryd.prog.typeName? 3 u = some "*errors.errorString") : u = 185 :=
  typeName_ptr_named (nm := "errors.errorString") (by rw [star_es]; kernel_rfl) (by kernel_rfl) (by decide) u (by rw [star_es]; exact h)
theorem ke_of {a b c : String × DataW Unit} {r : List (String × DataW Unit)} {W : World} (h : laidMet Tryd.prog (a :: b :: c :: ("strconv.ErrRange", Rows.laid_strconv_ErrRange) :: ("strconv.ErrSyntax", Rows.laid_strconv_ErrSyntax) :: r) W) : KE W := by
  obtain ⟨a1, s1, hv1, _⟩ := laid_sentinel h.tail.tail.tail (g := 1) (by kernel_rfl) (ti := 96) (by kernel_rfl) Tryd.underlying96 row_es Tryd.underlying185 Tryd.underlying187 rfl rfl Tryd.underlying9 (by kernel_rfl) (by kernel_rfl)
  obtain ⟨a2, s2, hv2, _⟩ := laid_sentinel h.tail.tail.tail.tail (g := 0) (by kernel_rfl) (ti := 96) (by kernel_rfl) Tryd.underlying96 row_es Tryd.underlying185 Tryd.underlying187 rfl rfl Tryd.underlying9 (by kernel_rfl) (by kernel_rfl)
  exact ⟨⟨_, _, hv2⟩, _, _, hv1⟩
end Go.Proofs.YtkoebpoejafgnaaDoor
