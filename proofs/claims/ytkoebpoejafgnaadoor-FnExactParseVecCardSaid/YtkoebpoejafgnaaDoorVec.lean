import Derived.Test.YtkoebpoejafgnaaDoorNatA
/-
  Vectors: copying one, both IsValidVec's.
-/
namespace Go.Proofs.YtkoebpoejafgnaaDoor
set_option linter.unusedVariables false
open Go.RowKit

set_option maxRecDepth 100000 in
set_option maxHeartbeats 1000000 in
theorem toVec_any (a b : Int) (w : World) :
    Calls Tryd.prog 23 #[.agg #[.int .i64 a, .int .i64 b]] w fun e w' => e = .returned (.agg #[.int .i64 a, .int .i64 b]) ∧ Old w w' := by
  go_enter Tryd.func23, Tryd.ntmps23
  go_wp2
  exact bodyPost_ret (v := .agg #[.int .i64 a, .int .i64 b]) (by simp [results, Tryd.results23, go_sem]) rfl ⟨rfl, oldA⟩
open Classical in
noncomputable def rIsValidVec (a b : Int) : Bool := decide ((-1000 ≤ a ∧ a ≤ 1000) ∧ (-1000 ≤ b ∧ b ≤ 1000))
open Classical in
theorem rIsValidVec_yes {a b : Int} (h1 : -1000 ≤ a ∧ a ≤ 1000) (h2 : -1000 ≤ b ∧ b ≤ 1000) : rIsValidVec a b = true := decide_eq_true ⟨h1, h2⟩
open Classical in
theorem rIsValidVec_no1 {a b : Int} (h1 : ¬ (-1000 ≤ a ∧ a ≤ 1000)) : rIsValidVec a b = false := decide_eq_false fun h => h1 h.1
open Classical in
theorem rIsValidVec_no2 {a b : Int} (h1 : ¬ (-1000 ≤ b ∧ b ≤ 1000)) : rIsValidVec a b = false := decide_eq_false fun h => h1 h.2
set_option maxRecDepth 100000 in
set_option maxHeartbeats 1000000 in
theorem spec_IsValidVec (a b : Int) (w : World) (_ : -9223372036854775808 ≤ a ∧ a ≤ 9223372036854775807) (_ : -9223372036854775808 ≤ b ∧ b ≤ 9223372036854775807) :
    Calls Tryd.prog 71 #[.agg #[.int .i64 a, .int .i64 b]] w fun e w' => e = .returned (.bool (rIsValidVec a b)) ∧ Old w w' := by
  by_cases h1 : -1000 ≤ a ∧ a ≤ 1000
  · by_cases h2 : -1000 ≤ b ∧ b ≤ 1000
    · have Hr := Lib.hid (rIsValidVec_yes h1 h2)
      have H1 := Lib.hid h1
      have H2 := Lib.hid h2
      clear h1 h2
      go_enter Tryd.func71, Tryd.ntmps71
      go_wp2_with fail
      refine (l01In_yes _ _ _ _ H1.out.1 H1.out.2).mono ?_
      rintro e w' ⟨rfl, rfl⟩
      go_wp2_with fail
      refine (l01In_yes _ _ _ _ H2.out.1 H2.out.2).mono ?_
      rintro e w' ⟨rfl, rfl⟩
      go_wp2
      go_ret
      exact ⟨by rw [Hr.out]; rfl, oldA⟩
    · have Hr := Lib.hid (rIsValidVec_no2 (a := a) h2)
      have H1 := Lib.hid h1
      have H2 := Lib.hid h2
      clear h1 h2
      go_enter Tryd.func71, Tryd.ntmps71
      go_wp2_with fail
      refine (l01In_yes _ _ _ _ H1.out.1 H1.out.2).mono ?_
      rintro e w' ⟨rfl, rfl⟩
      go_wp2_with fail
      refine (l01In_no _ _ _ _ (by have := H2.out; omega)).mono ?_
      rintro e w' ⟨rfl, rfl⟩
      go_wp2
      go_ret
      exact ⟨by rw [Hr.out]; rfl, oldA⟩
  · have Hr := Lib.hid (rIsValidVec_no1 (b := b) h1)
    have H1 := Lib.hid h1
    clear h1
    go_enter Tryd.func71, Tryd.ntmps71
    go_wp2_with fail
    refine (l01In_no _ _ _ _ (by have := H1.out; omega)).mono ?_
    rintro e w' ⟨rfl, rfl⟩
    go_wp2
    go_ret
    exact ⟨by rw [Hr.out]; rfl, oldA⟩
set_option maxRecDepth 100000 in
set_option maxHeartbeats 1000000 in
theorem isVec_any (a b : Int) (w : World) :
    Calls Tryd.prog 72 #[.agg #[.int .i64 a, .int .i64 b]] w fun e w' => e = .returned (.bool (rIsValidVec a b)) ∧ Old w w' := by
  by_cases h1 : -1000 ≤ a ∧ a ≤ 1000
  · by_cases h2 : -1000 ≤ b ∧ b ≤ 1000
    · have Hr := Lib.hid (rIsValidVec_yes h1 h2)
      have H1 := Lib.hid h1
      have H2 := Lib.hid h2
      clear h1 h2
      go_enter Tryd.func72, Tryd.ntmps72
      go_wp2_with fail
      refine (within_yes _ _ _ _ H1.out.1 H1.out.2).mono ?_
      rintro e w' ⟨rfl, rfl⟩
      go_wp2_with fail
      refine (within_yes _ _ _ _ H2.out.1 H2.out.2).mono ?_
      rintro e w' ⟨rfl, rfl⟩
      go_wp2
      go_ret
      exact ⟨by rw [Hr.out]; rfl, oldA⟩
    · have Hr := Lib.hid (rIsValidVec_no2 (a := a) h2)
      have H1 := Lib.hid h1
      have H2 := Lib.hid h2
      clear h1 h2
      go_enter Tryd.func72, Tryd.ntmps72
      go_wp2_with fail
      refine (within_yes _ _ _ _ H1.out.1 H1.out.2).mono ?_
      rintro e w' ⟨rfl, rfl⟩
      go_wp2_with fail
      refine (within_no _ _ _ _ (by have := H2.out; omega)).mono ?_
      rintro e w' ⟨rfl, rfl⟩
      go_wp2
      go_ret
      exact ⟨by rw [Hr.out]; rfl, oldA⟩
  · have Hr := Lib.hid (rIsValidVec_no1 (b := b) h1)
    have H1 := Lib.hid h1
    clear h1
    go_enter Tryd.func72, Tryd.ntmps72
    go_wp2_with fail
    refine (within_no _ _ _ _ (by have := H1.out; omega)).mono ?_
    rintro e w' ⟨rfl, rfl⟩
    go_wp2
    go_ret
    exact ⟨by rw [Hr.out]; rfl, oldA⟩
end Go.Proofs.YtkoebpoejafgnaaDoor
