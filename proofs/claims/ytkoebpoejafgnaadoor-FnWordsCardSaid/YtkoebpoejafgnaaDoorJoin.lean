import Derived.Test.YtkoebpoejafgnaaDoorSplit0
import Derived.Test.YtkoebpoejafgnaaDoorShelf
/-
  Texts joined: both Join's.
-/
namespace Go.Proofs.YtkoebpoejafgnaaDoor
set_option linter.unusedVariables false
open Go.RowKit
def szJ : Value → Nat | .string t => t.size | _ => 0
theorem jn_length (f : Nat → ByteArray) (y : ByteArray) (n : Nat) : (Lib.join (strsOf f n) y.data.toList).length = (jn f y n).size := by
  rw [← jn_data]
  rfl
def rowL (f : Nat → ByteArray) (n : Nat) : List ByteArray := (List.range n).map f
theorem rowL_len (f : Nat → ByteArray) (n : Nat) : (rowL f n).length = n := by simp [rowL]
theorem rowL_get {f : Nat → ByteArray} {n j : Nat} {x : ByteArray} (h : (rowL f n)[j]? = some x) : j < n ∧ x = f j := by
  unfold rowL at h
  rw [List.getElem?_map] at h
  obtain ⟨i, hi, e⟩ := Option.map_eq_some_iff.1 h
  obtain ⟨hlt, e2⟩ := List.getElem?_eq_some_iff.1 hi
  simp at hlt e2
  subst e2
  exact ⟨hlt, e.symm⟩
theorem rowL_data (f : Nat → ByteArray) (n : Nat) : (rowL f n).map (·.data.toList) = strsOf f n := by
  unfold rowL strsOf
  rw [List.map_map]
  rfl
theorem join_any (y : ByteArray) (A : Option Addr) (n c : Nat) (f : Nat → ByteArray) (lo : Nat) (w : World) (by_ : y.size ≤ 1048576) (h : SRow w lo A n c f) (hn : n + tot f n ≤ 1048576) :
    Calls Tryd.prog 115 #[.slice A n c, .string y] w fun e w' => e = .returned (.string (jn f y n)) ∧ Old w w' := by
  by_cases h0 : 0 < n
  · obtain ⟨b, o, rfl, _, hs, _, hc⟩ := h.2 h0
    have hky : n * y.size ≤ 1048576 * 1048576 := Nat.mul_le_mul (by omega) by_
    have hj := jn_size f y n
    have hh := Tryd.strings_Join b o c (rowL f n) y w (fun j x hx => by obtain ⟨h1, rfl⟩ := rowL_get hx; exact hc j h1) hs (by rw [rowL_len]; omega) (by rw [rowL_len]; exact h.1)
      (by rw [rowL_data, jn_length]; omega)
    rw [rowL_len, rowL_data, jn_eq] at hh
    exact hh
  · obtain rfl : n = 0 := by omega
    refine (Tryd.strings_Join_none A c y w).mono fun e w' hh => ?_
    obtain ⟨rfl, rfl⟩ := hh
    exact ⟨rfl, Old.refl _⟩
set_option maxRecDepth 100000 in
set_option maxHeartbeats 1000000 in
theorem impl_Join (y : ByteArray) (A : Option Addr) (n c : Nat) (f : Nat → ByteArray) (lo : Nat) (w : World) (by_ : y.size ≤ 1048576) (h : SRow w lo A n c f) (hn : n + tot f n ≤ 1048576) :
    Calls Tryd.prog 64 #[.slice A n c, .string y] w fun e w' => e = .returned (.string (jn f y n)) ∧ Old w w' := by
  go_enter Tryd.func64, Tryd.ntmps64
  go_wp2_with fail
  refine (join_any y A n c f lo _ by_ h hn).mono ?_
  rintro e w1 ⟨rfl, o1⟩
  go_wp2
  go_ret
  exact ⟨rfl, o1⟩
end Go.Proofs.YtkoebpoejafgnaaDoor
