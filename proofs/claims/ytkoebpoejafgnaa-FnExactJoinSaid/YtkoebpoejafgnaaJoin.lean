import Derived.Test.YtkoebpoejafgnaaSplit0
import Derived.Test.YtkoebpoejafgnaaShelf
/-
  Texts joined: both Join's.
-/
namespace Go.Proofs.Ytkoebpoejafgnaa
set_option linter.unusedVariables false
open Go.RowKit
def szJ : Value → Nat | .string t => t.size | _ => 0
set_option maxRecDepth 100000 in
set_option maxHeartbeats 1000000 in
theorem spec_Join (y : ByteArray) (A : Option Addr) (n c : Nat) (f : Nat → ByteArray) (lo : Nat) (w : World) (by_ : y.size ≤ 1048576) (h : SRow w lo A n c f) (hn : n + tot f n ≤ 1048576) :
    Calls Try.prog 12 #[.slice A n c, .string y] w fun e w' => e = .returned (.string (jn f y n)) ∧ Old w w' := by
  have hn1 : n ≤ 1048576 := by omega
  go_enter Try.func12, Try.ntmps12
  go_wp2
  go_loop [5, 10] (fun v i => ∃ k : Nat, k ≤ n ∧ i = .int .i64 (k : Int) ∧ v = .string (jn f y k)) (fun _ i => n - (intOf i).toNat)
  case atStart => exact ⟨0, Nat.zero_le _, rfl, rfl⟩
  case round =>
    obtain ⟨k, hk, rfl, rfl⟩ := hrel
    have hs := jn_size f y k
    have hm := tot_mono f hk
    have hky : k * y.size ≤ 1048576 * 1048576 := Nat.mul_le_mul (by omega) by_
    have hsz : (jn f y k).size ≤ 1099512676352 := by omega
    have HS := Lib.hid hs
    by_cases hlt : k < n
    · obtain ⟨b, o, rfl, _, _, _, hc⟩ := h.2 (by omega)
      have hx := hc k hlt
      have hm2 := tot_mono f (show k + 1 ≤ n by omega)
      have ht : tot f (k + 1) = tot f k + (f k).size := rfl
      have hfs : (f k).size ≤ 1048576 := by omega
      have hsz2 : (jn f y k ++ y).size ≤ 1099513724928 := by rw [ByteArray.size_append]; omega
      clear hc hm2 ht hs hm hky
      by_cases hk0 : 0 < k
      · have HJ : Hid (jn f y (k + 1) = jn f y k ++ y ++ f k) := Lib.hid (by rw [jn, if_pos hk0])
        go_wp2
        go_round
        case rel => exact ⟨k + 1, by omega, by go_num, by rw [HJ.out]⟩
        case measure => simp [intOf]; omega
      · have HJ : Hid (jn f y (k + 1) = jn f y k ++ f k) := Lib.hid (by rw [jn, if_neg hk0])
        go_wp2
        go_round
        case rel => exact ⟨k + 1, by omega, by go_num, by rw [HJ.out]⟩
        case measure => simp [intOf]; omega
    · have e : k = n := by omega
      subst e
      clear hs hm hky
      go_wp2
      go_ret
      exact ⟨rfl, Old.refl w⟩
theorem jn_length (f : Nat → ByteArray) (y : ByteArray) (n : Nat) : (Lib.join (strsOf f n) y.data.toList).length = (jn f y n).size := by
  rw [← jn_data]
  rfl
def rowL (f : Nat → ByteArray) (n : Nat) : List ByteArray := (List.range n).map f
theorem rowL_len (f : Nat → ByteArray) (n : Nat) : (rowL f n).length = n := by simp [rowL]
theorem rowL_get {f : Nat → ByteArray} {n j : Nat} {x : ByteArray} (h : (rowL f n)[j]? = some x) : j < n ∧ x = f j := by
  unfold rowL at h
  rw [List.getElem?_map] at h
  obtain ⟨i, hi, e⟩ := Option.map_eq_some_iff.1 h
  obtain ⟨hlt, e2⟩ := List.getElem?_eq_some_iff.1 hi
  simp at hlt e2
  subst e2
  exact ⟨hlt, e.symm⟩
theorem rowL_data (f : Nat → ByteArray) (n : Nat) : (rowL f n).map (·.data.toList) = strsOf f n := by
  unfold rowL strsOf
  rw [List.map_map]
  rfl
theorem join_any (y : ByteArray) (A : Option Addr) (n c : Nat) (f : Nat → ByteArray) (lo : Nat) (w : World) (by_ : y.size ≤ 1048576) (h : SRow w lo A n c f) (hn : n + tot f n ≤ 1048576) :
    Calls Try.prog 26 #[.slice A n c, .string y] w fun e w' => e = .returned (.string (jn f y n)) ∧ Old w w' := by
  by_cases h0 : 0 < n
  · obtain ⟨b, o, rfl, _, hs, _, hc⟩ := h.2 h0
    have hky : n * y.size ≤ 1048576 * 1048576 := Nat.mul_le_mul (by omega) by_
    have hj := jn_size f y n
    have hh := Try.strings_Join b o c (rowL f n) y w (fun j x hx => by obtain ⟨h1, rfl⟩ := rowL_get hx; exact hc j h1) hs (by rw [rowL_len]; omega) (by rw [rowL_len]; exact h.1)
      (by rw [rowL_data, jn_length]; omega)
    rw [rowL_len, rowL_data, jn_eq] at hh
    exact hh
  · obtain rfl : n = 0 := by omega
    refine (Try.strings_Join_none A c y w).mono fun e w' hh => ?_
    obtain ⟨rfl, rfl⟩ := hh
    exact ⟨rfl, Old.refl _⟩
set_option maxRecDepth 100000 in
set_option maxHeartbeats 1000000 in
theorem impl_Join (y : ByteArray) (A : Option Addr) (n c : Nat) (f : Nat → ByteArray) (lo : Nat) (w : World) (by_ : y.size ≤ 1048576) (h : SRow w lo A n c f) (hn : n + tot f n ≤ 1048576) :
    Calls Try.prog 14 #[.slice A n c, .string y] w fun e w' => e = .returned (.string (jn f y n)) ∧ Old w w' := by
  go_enter Try.func14, Try.ntmps14
  go_wp2_with fail
  refine (join_any y A n c f lo _ by_ h hn).mono ?_
  rintro e w1 ⟨rfl, o1⟩
  go_wp2
  go_ret
  exact ⟨rfl, o1⟩
end Go.Proofs.Ytkoebpoejafgnaa
