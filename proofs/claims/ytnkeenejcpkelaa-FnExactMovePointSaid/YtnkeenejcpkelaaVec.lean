import Derived.Test.YtnkeenejcpkelaaNatA
/-
  Vectors: copying one, both IsValidVec's.
-/
namespace Go.Proofs.Ytnkeenejcpkelaa
set_option linter.unusedVariables false
open Go.RowKit

set_option maxRecDepth 100000 in
set_option maxHeartbeats 1000000 in
theorem toVec_any (a b : Int) (w : World) :
    Calls Try.prog 39 #[.agg #[.int .i64 a, .int .i64 b]] w fun e w' => e = .returned (.agg #[.int .i64 a, .int .i64 b]) ∧ Old w w' := by
  go_enter Try.func39, Try.ntmps39
  go_wp2
  exact bodyPost_ret (v := .agg #[.int .i64 a, .int .i64 b]) (by simp [results, Try.results39, go_sem]) rfl ⟨rfl, oldA⟩
open Classical in
noncomputable def rIsValidVec (a b : Int) : Bool := decide ((-1000 ≤ a ∧ a ≤ 1000) ∧ (-1000 ≤ b ∧ b ≤ 1000))
open Classical in
theorem rIsValidVec_yes {a b : Int} (h1 : -1000 ≤ a ∧ a ≤ 1000) (h2 : -1000 ≤ b ∧ b ≤ 1000) : rIsValidVec a b = true := decide_eq_true ⟨h1, h2⟩
open Classical in
theorem rIsValidVec_no1 {a b : Int} (h1 : ¬ (-1000 ≤ a ∧ a ≤ 1000)) : rIsValidVec a b = false := decide_eq_false fun h => h1 h.1
open Classical in
theorem rIsValidVec_no2 {a b : Int} (h1 : ¬ (-1000 ≤ b ∧ b ≤ 1000)) : rIsValidVec a b = false := decide_eq_false fun h => h1 h.2
end Go.Proofs.Ytnkeenejcpkelaa
