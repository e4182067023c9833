import Derived.BigQuiet
import Derived.Deep.OwnRows
import Derived.Deep.QuietTactic
import Derived.Lib.Hide
import Derived.Lib.Strings
import Derived.Test.YtgchbbjhdeobpaaGreatDoorRows
import Derived.Test.YtgchbbjhdeobpaaGreatDoorShelf
import Derived.WalkKit
import Derived.WalkLawsBesides
import Derived.WalkSpells
import Ieee.Arith
import Derived.Test.YtgchbbjhdeobpaaGreatDoorW1
import Derived.Test.YtgchbbjhdeobpaaGreatDoorW3
import Derived.Test.YtgchbbjhdeobpaaGreatDoorW4
import Derived.Test.YtgchbbjhdeobpaaGreatDoorW6
/- What the claim's proof reaches of: Pad. -/
namespace Go.Proofs.YtgchbbjhdeobpaaGreatDoor
set_option linter.unusedVariables false
open Go.RowKit

/-- k zeros ahead of s. -/
def padB (k : Nat) (s : ByteArray) : ByteArray := ⟨(List.replicate k 48 ++ s.data.toList).toArray⟩
theorem padB_size (k : Nat) (s : ByteArray) : (padB k s).size = k + s.size := by
  have e : (padB k s).size = (List.replicate k (48 : UInt8) ++ s.data.toList).length := rfl
  rw [e, List.length_append, List.length_replicate]
  rfl
theorem padB_zero (s : ByteArray) : padB 0 s = s := by unfold padB; simp
theorem padB_cat (k : Nat) (s : ByteArray) : (⟨(List.replicate k 48).toArray⟩ : ByteArray) ++ s = padB k s := by
  apply ByteArray.ext
  rw [ByteArray.data_append]
  unfold padB
  apply Array.ext'
  simp
def rPadZeros (s : ByteArray) (a : Int) : ByteArray := if a ≤ 2000 then padB (a - s.size).toNat s else s
theorem rep48 : ∀ k : Nat, Lib.repeatL (⟨#[48]⟩ : ByteArray).data.toList k = List.replicate k 48
  | 0 => rfl
  | k + 1 => by rw [Lib.repeatL, rep48 k, List.replicate_succ]; rfl
theorem repeat_zero (k : Nat) (w : World) (hk : 0 < k) (hk2 : k ≤ 2000) :
    Calls Tryz.prog 118 #[.string ⟨#[48]⟩, .int .i64 (k : Int)] w fun e w' => e = .returned (.string ⟨(List.replicate k 48).toArray⟩) ∧ Old w w' := by
  by_cases h1 : k = 1
  · subst h1
    exact (Tryz.strings_Repeat_one ⟨#[48]⟩ w).mono fun e w' h => ⟨h.1, by rw [h.2]; exact Old.refl w⟩
  · have hs : (⟨#[48]⟩ : ByteArray).size = 1 := rfl
    refine (Tryz.strings_Repeat_main ⟨#[48]⟩ k w (by omega) (by omega) (by rw [hs]; omega) (by rw [hs]; omega)).mono fun e w' h => ⟨?_, h.2⟩
    rw [h.1]
    exact congrArg (fun l : List UInt8 => Ending.returned (.string ⟨l.toArray⟩)) (rep48 k)
set_option maxRecDepth 100000 in
set_option maxHeartbeats 1000000 in
theorem impl_PadZeros (s : ByteArray) (a : Int) (w : World) (b : s.size ≤ maxLen) (ba : -9223372036854775808 ≤ a ∧ a ≤ 9223372036854775807) :
    Calls Tryz.prog 94 #[.string s, .int .i64 a] w fun e w' => e = .returned (.string (rPadZeros s a)) ∧ Old w w' := by
  unfold maxLen at b
  have b1 := ba.1
  have b2 := ba.2
  clear ba
  by_cases h : a ≤ 2000
  · by_cases hlt : (s.size : Int) < a
    · obtain ⟨k, hk⟩ : ∃ k : Nat, a - s.size = (k : Int) := ⟨(a - s.size).toNat, by omega⟩
      have HR : Hid (rPadZeros s a = padB k s) := Lib.hid (by rw [rPadZeros, if_pos h, hk]; rfl)
      have h2 : ¬ a ≤ (s.size : Int) := by omega
      have h3 : ¬ 2000 < a := by omega
      have HK := Lib.hid hk
      have hk0 : 0 < k := by omega
      have hk2 : k ≤ 2000 := by omega
      clear hk
      go_enter Tryz.func94, Tryz.ntmps94
      go_wp2_with fail
      rw [HK.out]
      refine (repeat_zero k _ hk0 hk2).mono ?_
      rintro e w1 ⟨rfl, o1⟩
      go_wp2
      go_ret
      exact ⟨by rw [HR.out, ← padB_cat]; rfl, o1⟩
    · have HR : Hid (rPadZeros s a = s) := Lib.hid (by rw [rPadZeros, if_pos h, show (a - (s.size : Int)).toNat = 0 by omega, padB_zero])
      have h2 : a ≤ (s.size : Int) := by omega
      go_enter Tryz.func94, Tryz.ntmps94
      go_wp2
      go_ret
      exact ⟨by rw [HR.out]; rfl, Old.refl w⟩
  · have HR : Hid (rPadZeros s a = s) := Lib.hid (if_neg h)
    have h3 : 2000 < a := by omega
    by_cases hlt : (s.size : Int) < a
    · have h2 : ¬ a ≤ (s.size : Int) := by omega
      go_enter Tryz.func94, Tryz.ntmps94
      go_wp2
      go_ret
      exact ⟨by rw [HR.out]; rfl, Old.refl w⟩
    · have h2 : a ≤ (s.size : Int) := by omega
      go_enter Tryz.func94, Tryz.ntmps94
      go_wp2
      go_ret
      exact ⟨by rw [HR.out]; rfl, Old.refl w⟩
end Go.Proofs.YtgchbbjhdeobpaaGreatDoor
