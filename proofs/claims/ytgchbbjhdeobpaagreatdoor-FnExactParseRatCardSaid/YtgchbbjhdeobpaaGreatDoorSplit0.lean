import Derived.Test.YtgchbbjhdeobpaaGreatDoorStr
import Derived.Lib.Join
import Derived.Lib.Bytealg
/-
  Texts cut at bytes and joined again: plain facts.
-/
namespace Go.Proofs.YtgchbbjhdeobpaaGreatDoor
set_option linter.unusedVariables false
open Go.RowKit

/-- The byte at i. -/
def bAt (s : ByteArray) (i : Nat) : UInt8 := s.data.toList.getD i 0
theorem bAt_eq (s : ByteArray) (i : Nat) (h : i < s.size) : s[i] = bAt s i := by
  unfold bAt
  rw [List.getD_eq_getElem?_getD, List.getElem?_eq_getElem (by exact h)]
  rfl
def hasB (y : ByteArray) (c : UInt8) : Bool := y.data.toList.contains c
/-- The pieces behind i bytes, and where the next one begins. -/
def spl (s y : ByteArray) : Nat → List ByteArray × Nat
  | 0 => ([], 0)
  | i + 1 => if hasB y (bAt s i) = true then ((spl s y i).1 ++ [s.extract (spl s y i).2 i], i + 1) else spl s y i
theorem spl_hit {s y : ByteArray} {i : Nat} (h : hasB y (bAt s i) = true) : spl s y (i + 1) = ((spl s y i).1 ++ [s.extract (spl s y i).2 i], i + 1) := by rw [spl, if_pos h]
theorem spl_miss {s y : ByteArray} {i : Nat} (h : hasB y (bAt s i) = false) : spl s y (i + 1) = spl s y i := by rw [spl, if_neg (by rw [h]; decide)]
theorem spl_le (s y : ByteArray) : ∀ i, (spl s y i).2 ≤ i ∧ (spl s y i).1.length ≤ i
  | 0 => ⟨Nat.le_refl _, Nat.le_refl _⟩
  | i + 1 => by
    have := spl_le s y i
    by_cases h : hasB y (bAt s i) = true
    · rw [spl_hit h]
      simp only [List.length_append, List.length_cons, List.length_nil]
      omega
    · rw [spl_miss (by simpa using h)]
      omega
def rSplitAny (s y : ByteArray) : List ByteArray := (spl s y s.size).1 ++ [s.extract (spl s y s.size).2 s.size]
theorem rSplitAny_len (s y : ByteArray) : (rSplitAny s y).length ≤ s.size + 1 := by
  have := spl_le s y s.size
  simp only [rSplitAny, List.length_append, List.length_cons, List.length_nil]
  omega
/-- None of the first k bytes of y is c. -/
def noneB (y : ByteArray) (c : UInt8) (k : Nat) : Prop := ∀ j (h : j < y.size), j < k → y[j] ≠ c
theorem noneB_zero (y : ByteArray) (c : UInt8) : noneB y c 0 := fun j _ hj => by omega
theorem noneB_succ {y : ByteArray} {c : UInt8} {k : Nat} (h : noneB y c k) (hk : k < y.size) (hne : y[k] ≠ c) : noneB y c (k + 1) := fun j hj hlt => by
  by_cases e : j = k
  · subst e; exact hne
  · exact h j hj (by omega)
theorem hasB_no {y : ByteArray} {c : UInt8} {k : Nat} (h : noneB y c k) (hk : ¬ k < y.size) : hasB y c = false := by
  unfold hasB
  rw [Bool.eq_false_iff]
  intro hc
  rw [List.contains_iff_mem] at hc
  obtain ⟨j, hj, e⟩ := List.mem_iff_getElem.1 hc
  exact h j hj (by have : j < y.size := hj; omega) e
theorem hasB_yes {y : ByteArray} {c : UInt8} {k : Nat} (hk : k < y.size) (e : y[k] = c) : hasB y c = true := by
  unfold hasB
  rw [List.contains_iff_mem]
  exact List.mem_iff_getElem.2 ⟨k, hk, e⟩
theorem indexByte_has : ∀ (l : List UInt8) (c : UInt8), (0 ≤ Lib.indexByte l c) ↔ l.contains c = true
  | [], c => by simp [Lib.indexByte]
  | b :: l, c => by
    have ih := indexByte_has l c
    have hg := Lib.indexByte_ge l c
    rw [Lib.indexByte]
    by_cases e : b = c
    · subst e; simp
    · have e' : ¬ (b == c) = true := by simpa using e
      rw [if_neg e']
      have hb : (b :: l).contains c = l.contains c := by
        rw [List.contains_cons]
        have : (c == b) = false := by
          simp
          exact fun h => e h.symm
        rw [this, Bool.false_or]
      rw [hb, ← ih]
      by_cases e1 : Lib.indexByte l c = -1
      · rw [if_pos (by rw [e1]; rfl), e1]
      · rw [if_neg (by simpa using e1)]
        omega
theorem hasB_index (y : ByteArray) (c : UInt8) : (0 ≤ Lib.indexByte y.data.toList c) ↔ hasB y c = true := indexByte_has _ _

/-! joined again -/
def tot (f : Nat → ByteArray) : Nat → Nat
  | 0 => 0
  | k + 1 => tot f k + (f k).size
theorem tot_mono (f : Nat → ByteArray) {a b : Nat} (h : a ≤ b) : tot f a ≤ tot f b := by
  induction h with
  | refl => exact Nat.le_refl _
  | step _ ih => exact Nat.le_trans ih (by rw [tot]; omega)
def jn (f : Nat → ByteArray) (y : ByteArray) : Nat → ByteArray
  | 0 => ByteArray.empty
  | k + 1 => (if 0 < k then jn f y k ++ y else jn f y k) ++ f k
theorem jn_size (f : Nat → ByteArray) (y : ByteArray) : ∀ k, (jn f y k).size ≤ tot f k + k * y.size
  | 0 => by simp [jn, tot]
  | k + 1 => by
    have ih := jn_size f y k
    rw [jn, tot, Nat.succ_mul]
    split
    · rw [ByteArray.size_append, ByteArray.size_append]; omega
    · rw [ByteArray.size_append]; omega
def strsOf (f : Nat → ByteArray) (n : Nat) : List (List UInt8) := (List.range n).map fun j => (f j).data.toList
theorem strsOf_succ (f : Nat → ByteArray) (n : Nat) : strsOf f (n + 1) = strsOf f n ++ [(f n).data.toList] := by
  unfold strsOf
  rw [List.range_succ, List.map_append]
  rfl
theorem join_snoc (xs : List (List UInt8)) (x y : List UInt8) : Lib.join (xs ++ [x]) y = if xs = [] then x else Lib.join xs y ++ y ++ x := by
  cases xs with
  | nil => simp [Lib.join_one]
  | cons a r =>
    rw [if_neg (by simp), List.cons_append, Lib.join_cons, Lib.join_cons]
    simp [Lib.joinTail]
theorem jn_data (f : Nat → ByteArray) (y : ByteArray) : ∀ n, (jn f y n).data.toList = Lib.join (strsOf f n) y.data.toList
  | 0 => by simp [jn, strsOf, Lib.join_nil]
  | k + 1 => by
    have ih := jn_data f y k
    rw [strsOf_succ, join_snoc, jn]
    by_cases h : 0 < k
    · have hne : ¬ strsOf f k = [] := by
        intro e
        have : (strsOf f k).length = k := by simp [strsOf]
        rw [e] at this
        simp at this
        omega
      rw [if_pos h, if_neg hne, ByteArray.data_append, ByteArray.data_append, Array.toList_append, Array.toList_append, ih]
    · obtain rfl : k = 0 := by omega
      simp [jn, strsOf]
theorem jn_eq (f : Nat → ByteArray) (y : ByteArray) (n : Nat) : (⟨(Lib.join (strsOf f n) y.data.toList).toArray⟩ : ByteArray) = jn f y n := by
  rw [← jn_data]
end Go.Proofs.YtgchbbjhdeobpaaGreatDoor
