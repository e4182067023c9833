import Derived.Test.YtgchbbjhdeobpaaGreatDoorArgs
/-
  The helpers of the laws on big integers: their size, copying, comparing, marking, looking at the marks.
-/
namespace Go.Proofs.YtgchbbjhdeobpaaGreatDoor
set_option linter.unusedVariables false
open Go.RowKit Num

set_option maxRecDepth 100000 in
set_option maxHeartbeats 1000000 in
theorem eqBigInt_yes (b : Bool) (A1 A2 : Option Addr) (n c1 c2 : Nat) (f g : Nat → Int) (lo1 lo2 : Nat) (w : World) (h1 : Row w lo1 A1 n c1 f) (h2 : Row w lo2 A2 n c2 g) (he : ∀ j, j < n → f j = g j) (hn : n ≤ 1048576) :
    Calls Tryz.prog 30 #[.agg #[.bool b, .slice A1 n c1], .agg #[.bool b, .slice A2 n c2]] w fun e w' => e = .returned (.bool true) ∧ Old w w' := by
  have He := Lib.hid he
  clear he
  go_enter Tryz.func30, Tryz.ntmps30
  go_wp2_with fail
  refine (eqIntS_yes A1 A2 n c1 c2 f g lo1 lo2 _ (h1.below (B := w.heap.size) oldA (Nat.le_refl _)) (h2.below (B := w.heap.size) oldA (Nat.le_refl _)) He.out hn).mono ?_
  rintro e w1 ⟨rfl, o1⟩
  go_wp2
  go_ret
  exact ⟨rfl, Below.trans (b := _) oldA (Below.mono o1 (by simp <;> omega))⟩
set_option maxRecDepth 100000 in
set_option maxHeartbeats 1000000 in
theorem markBigInt_any (b : Bool) (A : Option Addr) (n c : Nat) (f : Nat → Int) (lo : Nat) (m : Int) (w : World) (h : Row w lo A n c f) (hn : n ≤ 1048576) (hk0 : 0 ≤ m) (hk1 : m ≤ 1000000000) :
    Calls Tryz.prog 32 #[.agg #[.bool b, .slice A n c], .int .i64 m] w fun e w' => e = .returned (.int .i64 (m + n)) ∧ Row w' lo A n c (fun j => m + j) ∧ w.grownBy w' (rowOf A n) := by
  go_enter Tryz.func32, Tryz.ntmps32
  go_wp2_with fail
  refine (markIntS_any A n c f lo m _ (h.below (B := w.heap.size) oldA (Nat.le_refl _)) hn hk0 hk1).mono ?_
  rintro e w1 ⟨rfl, r1, g1⟩
  go_wp2
  go_ret
  exact ⟨rfl, r1, World.grownBy.trans (World.grownBy_alloc _ _ _) g1⟩
set_option maxRecDepth 100000 in
set_option maxHeartbeats 1000000 in
theorem heldBigInt_yes (b : Bool) (A : Option Addr) (n c : Nat) (f : Nat → Int) (lo : Nat) (k : Int) (w : World) (h : Row w lo A n c f) (he : ∀ j, j < n → f j = k + j) (hn : n ≤ 1048576) (hk0 : 0 ≤ k) (hk1 : k ≤ 1000000000) :
    Calls Tryz.prog 34 #[.agg #[.bool b, .slice A n c], .int .i64 k] w fun e w' => e = .returned (.int .i64 (k + n)) ∧ Old w w' := by
  have He := Lib.hid he
  clear he
  go_enter Tryz.func34, Tryz.ntmps34
  go_wp2_with fail
  refine (heldIntS_yes A n c f lo k _ (h.below (B := w.heap.size) oldA (Nat.le_refl _)) He.out hn hk0 hk1).mono ?_
  rintro e w' ⟨rfl, rfl⟩
  go_wp2
  go_ret
  exact ⟨rfl, oldA⟩
end Go.Proofs.YtgchbbjhdeobpaaGreatDoor
