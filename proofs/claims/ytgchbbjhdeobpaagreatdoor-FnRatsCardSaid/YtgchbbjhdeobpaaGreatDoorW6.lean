import Derived.BigQuiet
import Derived.Deep.OwnRows
import Derived.Deep.QuietTactic
import Derived.Lib.Hide
import Derived.Lib.Strings
import Derived.Test.YtgchbbjhdeobpaaGreatDoorRows
import Derived.WalkKit
import Derived.WalkLawsBesides
import Derived.WalkSpells
import Ieee.Arith
import Derived.Test.YtgchbbjhdeobpaaGreatDoorW1
import Derived.Test.YtgchbbjhdeobpaaGreatDoorW3
import Derived.Test.YtgchbbjhdeobpaaGreatDoorW4
/- What the claim's proof reaches of: Text. -/
namespace Go.Proofs.YtgchbbjhdeobpaaGreatDoor
set_option linter.unusedVariables false
open Go.RowKit

/-- All bytes lie in a range. -/
def inR (s : ByteArray) (lo hi : Int) : Prop := ∀ (k : Nat) (h : k < s.size), lo ≤ ((s[k]).toNat : Int) ∧ ((s[k]).toNat : Int) ≤ hi
/-- .. from the first k on it has been seen. -/
def inRk (s : ByteArray) (lo hi : Int) (k : Nat) : Prop := ∀ (j : Nat) (h : j < s.size), j < k → lo ≤ ((s[j]).toNat : Int) ∧ ((s[j]).toNat : Int) ≤ hi
theorem inRk_zero (s : ByteArray) (lo hi : Int) : inRk s lo hi 0 := fun j _ hj => by omega
theorem inRk_succ {s : ByteArray} {lo hi : Int} {k : Nat} (h : inRk s lo hi k) (hk : k < s.size) (h1 : lo ≤ ((s[k]).toNat : Int)) (h2 : ((s[k]).toNat : Int) ≤ hi) : inRk s lo hi (k + 1) := fun j hj hlt => by
  by_cases e : j = k
  · subst e; exact ⟨h1, h2⟩
  · exact h j hj (by omega)
theorem inRk_all {s : ByteArray} {lo hi : Int} {k : Nat} (h : inRk s lo hi k) (hk : ¬ k < s.size) : inR s lo hi := fun j hj => h j hj (by omega)
open Classical in
noncomputable def inB (s : ByteArray) (lo hi : Int) : Bool := decide (inR s lo hi)
theorem inB_yes {s : ByteArray} {lo hi : Int} (h : inR s lo hi) : inB s lo hi = true := by simp [inB, h]
theorem inB_no {s : ByteArray} {lo hi : Int} (h : ¬ inR s lo hi) : inB s lo hi = false := by simp [inB, h]
noncomputable def rIsDigits (s : ByteArray) : Bool := decide (s.size ≠ 0) && inB s 48 57

theorem text_ne {s : ByteArray} (h : ¬ s.size = 0) : s.toList.isEmpty = false := by
  rw [ByteArray.toList_eq]
  cases hl : s.data.toList with
  | nil => exact absurd (by rw [Lib.size_eq, hl]; rfl) h
  | cons _ _ => rfl
theorem text_empty {s : ByteArray} (h : s.size = 0) : s = ByteArray.empty := by
  obtain ⟨d⟩ := s
  have : d = #[] := Array.eq_empty_of_size_eq_zero h
  subst this
  rfl
set_option maxRecDepth 100000 in
set_option maxHeartbeats 1000000 in
theorem areOf_any (s : ByteArray) (lo hi : Int) (w : World) (b : s.size ≤ maxLen) :
    Calls Tryz.prog 86 #[.string s, .int .u8 lo, .int .u8 hi] w fun e w' => e = .returned (.bool (inB s lo hi)) ∧ w = w' := by
  unfold maxLen at b
  go_enter Tryz.func86, Tryz.ntmps86
  go_wp2
  go_loop [10] (fun i => ∃ k : Nat, k ≤ s.size ∧ i = .int .i64 (k : Int) ∧ inRk s lo hi k) (fun i => s.size - (intOf i).toNat)
  case atStart => exact ⟨0, Nat.zero_le _, rfl, inRk_zero _ _ _⟩
  case round =>
    obtain ⟨k, hk, rfl, hR⟩ := hrel
    by_cases hlt : k < s.size
    · by_cases h1 : ((s[k]).toNat : Int) < lo
      · have Hr := Lib.hid (inB_no (s := s) (lo := lo) (hi := hi) fun h => by have := h k hlt; omega)
        go_wp2
        go_ret
        exact ⟨by rw [Hr.out]; rfl, rfl⟩
      · by_cases h2 : hi < ((s[k]).toNat : Int)
        · have Hr := Lib.hid (inB_no (s := s) (lo := lo) (hi := hi) fun h => by have := h k hlt; omega)
          go_wp2
          go_ret
          exact ⟨by rw [Hr.out]; rfl, rfl⟩
        · have hR2 := inRk_succ hR hlt (by omega) (by omega)
          go_wp2
          go_round
          case rel => exact ⟨k + 1, by omega, by go_num, hR2⟩
          case measure => simp [intOf]; omega
    · have Hr := Lib.hid (inB_yes (inRk_all hR hlt))
      go_wp2
      go_ret
      exact ⟨by rw [Hr.out]; rfl, rfl⟩
theorem impl_IsDigits (s : ByteArray) (w : World) (b : s.size ≤ maxLen) :
    Calls Tryz.prog 58 #[.string s] w fun e w' => e = .returned (.bool (rIsDigits s)) ∧ Old w w' := by
  by_cases h0 : s.size = 0
  · obtain rfl : s = ByteArray.empty := text_empty h0
    have Hr : Hid (rIsDigits ByteArray.empty = false) := Lib.hid (by simp [rIsDigits])
    go_enter Tryz.func58, Tryz.ntmps58
    go_wp2
    go_ret
    exact ⟨by rw [Hr.out]; rfl, Old.refl w⟩
  · have Hr : Hid (rIsDigits s = inB s 48 57) := Lib.hid (by simp [rIsDigits, h0])
    have hne : s.toList.isEmpty = false := by
      exact text_ne h0
    rw [Hr.out]
    clear h0 Hr
    go_enter Tryz.func58, Tryz.ntmps58
    go_wp2_with (go_at_call 86; refine (areOf_any s 48 57 _ b).mono ?_; rintro e w' ⟨rfl, rfl⟩)
    go_ret
    exact ⟨rfl, Old.refl _⟩
end Go.Proofs.YtgchbbjhdeobpaaGreatDoor
