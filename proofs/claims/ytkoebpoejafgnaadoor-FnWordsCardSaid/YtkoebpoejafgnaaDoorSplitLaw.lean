import Derived.Test.YtkoebpoejafgnaaDoorCut
/-
  A text cut at a byte and joined by it is the text: a plain law.
-/
namespace Go.Proofs.YtkoebpoejafgnaaDoor
set_option linter.unusedVariables false
open Go.RowKit
def dat (l : List ByteArray) : List (List UInt8) := l.map (·.data.toList)
theorem dat_snoc (l : List ByteArray) (x : ByteArray) : dat (l ++ [x]) = dat l ++ [x.data.toList] := by simp [dat]
theorem ext_list (s : ByteArray) (f i : Nat) : (s.extract f i).data.toList = (s.data.toList.drop f).take (i - f) := by
  rw [ByteArray.data_extract, Array.toList_extract, List.extract_eq_take_drop]
theorem join_last (xs : List (List UInt8)) (x b y : List UInt8) : Lib.join (xs ++ [x ++ b]) y = Lib.join (xs ++ [x]) y ++ b := by
  rw [join_snoc, join_snoc]
  split <;> simp
theorem join_spl (s : ByteArray) (c : UInt8) : ∀ i, i ≤ s.size → Lib.join (dat ((spl s (oneC c) i).1 ++ [s.extract (spl s (oneC c) i).2 i])) [c] = s.data.toList.take i
  | 0, _ => by
    show Lib.join (dat ([] ++ [s.extract 0 0])) [c] = _
    rw [dat_snoc]
    show Lib.join [(s.extract 0 0).data.toList] [c] = _
    rw [Lib.join_one, ext_list]
    simp
  | i + 1, hi => by
    have ih := join_spl s c i (by omega)
    have hl : i < s.data.toList.length := hi
    have hle := (spl_le s (oneC c) i).1
    have hb : bAt s i = s.data.toList[i] := by
      unfold bAt
      rw [List.getD_eq_getElem?_getD, List.getElem?_eq_getElem hl]
      rfl
    have ht : s.data.toList.take (i + 1) = s.data.toList.take i ++ [s.data.toList[i]] := List.take_succ_eq_append_getElem hl
    by_cases h : hasB (oneC c) (bAt s i) = true
    · rw [spl_hit h]
      have hc : bAt s i = c := by rw [hasB_one] at h; exact of_decide_eq_true h
      show Lib.join (dat ((spl s (oneC c) i).1 ++ [s.extract (spl s (oneC c) i).2 i] ++ [s.extract (i + 1) (i + 1)])) [c] = _
      rw [dat_snoc, join_snoc, if_neg (by rw [dat_snoc]; simp), ih, ht, ← hb, hc, ext_list]
      simp
    · rw [spl_miss (by simpa using h)]
      have he : (s.extract (spl s (oneC c) i).2 (i + 1)).data.toList = (s.extract (spl s (oneC c) i).2 i).data.toList ++ [s.data.toList[i]] := by
        rw [ext_list, ext_list, show i + 1 - (spl s (oneC c) i).2 = (i - (spl s (oneC c) i).2) + 1 by omega, List.take_succ_eq_append_getElem (by rw [List.length_drop]; omega), List.getElem_drop]
        congr 3
        omega
      rw [dat_snoc, he, join_last, ← dat_snoc, ih, ht]
/-- THE LAW: what is cut at c and joined by c is the text. -/
theorem join_split (s : ByteArray) (c : UInt8) : Lib.join (dat (rSplitAny s (oneC c))) [c] = s.data.toList := by
  have h := join_spl s c s.size (Nat.le_refl _)
  unfold rSplitAny
  rw [h]
  exact List.take_of_length_le (Nat.le_refl _)
end Go.Proofs.YtkoebpoejafgnaaDoor
