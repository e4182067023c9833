import Derived.BigQuiet
import Derived.ChangeOld
import Derived.Deep.DeepCutAuto
import Derived.Deep.DrawnRows
import Derived.Deep.OwnRows
import Derived.Deep.QuietTactic
import Derived.Deep.RegionHeld3
import Derived.JoinedOf
import Derived.KernelRfl
import Derived.Laws.IdiomStrings
import Derived.Lib.AppendIntMem
import Derived.Lib.Bytealg
import Derived.Lib.Hide
import Derived.Lib.IndexLaws
import Derived.Lib.ItoaLen
import Derived.Lib.ItoaNum
import Derived.Lib.Join
import Derived.Lib.SmallJoins
import Derived.OpenShut
import Derived.ProofKit
import Derived.ShutString
import Derived.Test.YtgchbbjhdeobpaaGreatDoorRows
import Derived.Test.YtgchbbjhdeobpaaGreatDoorShelf
import Derived.WalkKit
import Derived.WalkLawsBesides
import Derived.WalkSpells
import Ieee.Arith
import Derived.Test.YtgchbbjhdeobpaaGreatDoorW1
import Derived.Test.YtgchbbjhdeobpaaGreatDoorW2
import Derived.Test.YtgchbbjhdeobpaaGreatDoorW3
import Derived.Test.YtgchbbjhdeobpaaGreatDoorW4
import Derived.Test.YtgchbbjhdeobpaaGreatDoorW9
import Derived.Test.YtgchbbjhdeobpaaGreatDoorW10
import Derived.Test.YtgchbbjhdeobpaaGreatDoorW13
import Derived.Test.YtgchbbjhdeobpaaGreatDoorW19
/- What the claim's proof reaches of: Cut. -/
namespace Go.Proofs.YtgchbbjhdeobpaaGreatDoor
set_option linter.unusedVariables false
open Go.RowKit
def oneC (c : UInt8) : ByteArray := ⟨#[c]⟩
set_option maxRecDepth 100000 in
set_option maxHeartbeats 1000000 in
theorem slcut_yes (s : ByteArray) (c : UInt8) (i : Nat) (w : World) (b : s.size ≤ 1048576) (h : Lib.indexByte s.data.toList c = (i : Int)) (hi : i < s.size) :
    Calls Tryz.prog 55 #[.string s, .string ⟨#[c]⟩] w fun e w' => e = .returned (.tuple #[.string (s.extract 0 i), .string (s.extract (i + 1) s.size), .bool true]) ∧ Old w w' := by
  have H := Lib.hid h
  have hs1 : (⟨#[c]⟩ : ByteArray).size = 1 := rfl
  have hw := w64 ((i : Int) + 1) (by omega) (by omega)
  clear h
  go_enter Tryz.func55, Tryz.ntmps55
  go_wp2_with fail
  refine (Tryz.stringslite_Index_one s c _).mono ?_
  rintro e w1 ⟨rfl, rfl⟩
  rw [H.out]
  go_wp2
  go_quiet (fail)
  go_wp2
  exact bodyPost_ret (v := .tuple #[.string (s.extract 0 i), .string (s.extract (i + 1) s.size), .bool true]) (by simp [results, Tryz.results55, go_sem]; try rfl) rfl ⟨rfl, below_drewN (Old.refl _) _⟩
set_option maxRecDepth 100000 in
set_option maxHeartbeats 1000000 in
theorem slcut_no (s : ByteArray) (c : UInt8) (w : World) (h : Lib.indexByte s.data.toList c = -1) :
    Calls Tryz.prog 55 #[.string s, .string ⟨#[c]⟩] w fun e w' => e = .returned (.tuple #[.string s, .string ByteArray.empty, .bool false]) ∧ Old w w' := by
  have H := Lib.hid h
  clear h
  go_enter Tryz.func55, Tryz.ntmps55
  go_wp2_with fail
  refine (Tryz.stringslite_Index_one s c _).mono ?_
  rintro e w1 ⟨rfl, rfl⟩
  rw [H.out]
  go_wp2
  exact bodyPost_ret (v := .tuple #[.string s, .string ByteArray.empty, .bool false]) (by simp [results, Tryz.results55, go_sem]; try rfl) rfl ⟨rfl, Old.refl _⟩
set_option maxRecDepth 100000 in
set_option maxHeartbeats 1000000 in
theorem cut_yes (s : ByteArray) (c : UInt8) (i : Nat) (w : World) (b : s.size ≤ 1048576) (h : Lib.indexByte s.data.toList c = (i : Int)) (hi : i < s.size) :
    Calls Tryz.prog 25 #[.string s, .string ⟨#[c]⟩] w fun e w' => e = .returned (.tuple #[.string (s.extract 0 i), .string (s.extract (i + 1) s.size), .bool true]) ∧ Old w w' := by
  have H := Lib.hid h
  clear h
  go_enter Tryz.func25, Tryz.ntmps25
  go_wp2_with fail
  refine (slcut_yes s c i _ b H.out hi).mono ?_
  rintro e w1 ⟨rfl, o1⟩
  go_wp2
  exact bodyPost_ret (v := .tuple #[.string (s.extract 0 i), .string (s.extract (i + 1) s.size), .bool true]) (by simp [results, Tryz.results25, go_sem]; try rfl) rfl ⟨rfl, o1⟩
set_option maxRecDepth 100000 in
set_option maxHeartbeats 1000000 in
theorem cut_no (s : ByteArray) (c : UInt8) (w : World) (h : Lib.indexByte s.data.toList c = -1) :
    Calls Tryz.prog 25 #[.string s, .string ⟨#[c]⟩] w fun e w' => e = .returned (.tuple #[.string s, .string ByteArray.empty, .bool false]) ∧ Old w w' := by
  have H := Lib.hid h
  clear h
  go_enter Tryz.func25, Tryz.ntmps25
  go_wp2_with fail
  refine (slcut_no s c _ H.out).mono ?_
  rintro e w1 ⟨rfl, o1⟩
  go_wp2
  exact bodyPost_ret (v := .tuple #[.string s, .string ByteArray.empty, .bool false]) (by simp [results, Tryz.results25, go_sem]; try rfl) rfl ⟨rfl, o1⟩
/-! plain facts -/
theorem hasB_one (c b : UInt8) : hasB (oneC c) b = decide (b = c) := by
  unfold hasB oneC
  simp
theorem index_found {s : ByteArray} {c : UInt8} {i : Nat} (h : Lib.indexByte s.data.toList c = (i : Int)) : i < s.size ∧ bAt s i = c ∧ ∀ k, k < i → bAt s k ≠ c := by
  have hs := Lib.indexByte_some h
  obtain ⟨hi, e⟩ := List.getElem?_eq_some_iff.1 hs.1
  refine ⟨hi, ?_, fun k hk e2 => hs.2 k hk ?_⟩
  · unfold bAt
    rw [List.getD_eq_getElem?_getD, hs.1]
    rfl
  · have hkl : k < s.data.toList.length := by omega
    unfold bAt at e2
    rw [List.getD_eq_getElem?_getD, List.getElem?_eq_getElem hkl] at e2
    rw [List.getElem?_eq_getElem hkl]
    exact congrArg some e2
/-- s is a, the byte c, b; and c is in neither. -/
def Cut2 (s : ByteArray) (c : UInt8) (a b : ByteArray) : Prop := s.data.toList = a.data.toList ++ c :: b.data.toList ∧ c ∉ a.data.toList ∧ c ∉ b.data.toList
theorem Cut2.size {s a b : ByteArray} {c : UInt8} (h : Cut2 s c a b) : s.size = a.size + 1 + b.size := by
  have e : s.size = s.data.toList.length := rfl
  rw [e, h.1, List.length_append, List.length_cons]
  have e1 : a.size = a.data.toList.length := rfl
  have e2 : b.size = b.data.toList.length := rfl
  omega
theorem Cut2.left {s a b : ByteArray} {c : UInt8} (h : Cut2 s c a b) : s.extract 0 a.size = a := by
  apply ByteArray.ext
  apply Array.ext'
  rw [ByteArray.data_extract, Array.toList_extract, h.1]
  have e1 : a.size = a.data.toList.length := rfl
  rw [e1]
  simp
theorem Cut2.right {s a b : ByteArray} {c : UInt8} (h : Cut2 s c a b) : s.extract (a.size + 1) s.size = b := by
  apply ByteArray.ext
  apply Array.ext'
  have e1 : a.size = a.data.toList.length := rfl
  have e2 : b.size = b.data.toList.length := rfl
  rw [ByteArray.data_extract, Array.toList_extract, h.size, h.1, List.extract_eq_take_drop, e1, e2]
  have e3 : (a.data.toList ++ c :: b.data.toList).drop (a.data.toList.length + 1) = b.data.toList := by rw [List.drop_append]; simp
  rw [e3]
  exact List.take_of_length_le (by omega)
theorem Cut2.at {s a b : ByteArray} {c : UInt8} (h : Cut2 s c a b) : bAt s a.size = c := by
  unfold bAt
  rw [h.1, List.getD_eq_getElem?_getD]
  have e1 : a.size = a.data.toList.length := rfl
  rw [e1]
  simp
theorem Cut2.lo {s a b : ByteArray} {c : UInt8} (h : Cut2 s c a b) {i : Nat} (hi : i < a.size) : bAt s i ≠ c := by
  intro e
  unfold bAt at e
  have e1 : a.size = a.data.toList.length := rfl
  rw [h.1, List.getD_eq_getElem?_getD, List.getElem?_append_left (by omega), List.getElem?_eq_getElem (by omega)] at e
  exact h.2.1 (e ▸ List.getElem_mem _)
theorem Cut2.hi {s a b : ByteArray} {c : UInt8} (h : Cut2 s c a b) {i : Nat} (hi : a.size < i) (hs : i < s.size) : bAt s i ≠ c := by
  intro e
  unfold bAt at e
  have e1 : a.size = a.data.toList.length := rfl
  have e2 : b.size = b.data.toList.length := rfl
  have e3 := h.size
  rw [h.1, List.getD_eq_getElem?_getD, List.getElem?_append_right (by omega)] at e
  obtain ⟨k, hk⟩ : ∃ k, i - a.data.toList.length = k + 1 := ⟨i - a.data.toList.length - 1, by omega⟩
  rw [hk, List.getElem?_cons_succ, List.getElem?_eq_getElem (by omega)] at e
  exact h.2.2 (e ▸ List.getElem_mem _)
theorem Cut2.index {s a b : ByteArray} {c : UInt8} (h : Cut2 s c a b) : Lib.indexByte s.data.toList c = (a.size : Int) := by
  have e1 : a.size = a.data.toList.length := rfl
  rcases (by omega : Lib.indexByte s.data.toList c < 0 ∨ 0 ≤ Lib.indexByte s.data.toList c) with hh | hh
  · have hg := Lib.indexByte_ge s.data.toList c
    have hn := Lib.indexByte_none (l := s.data.toList) (c := c) (by omega) a.size
    exfalso
    apply hn
    rw [h.1, e1]
    simp
  · obtain ⟨i, hi⟩ : ∃ i : Nat, Lib.indexByte s.data.toList c = (i : Int) := ⟨(Lib.indexByte s.data.toList c).toNat, by omega⟩
    have hf := index_found hi
    rw [hi]
    rcases Nat.lt_trichotomy i a.size with hl | hl | hl
    · exact absurd hf.2.1 (h.lo hl)
    · rw [hl]
    · exact absurd h.at (hf.2.2 a.size hl)
theorem Cut2.split {s a b : ByteArray} {c : UInt8} (h : Cut2 s c a b) : rSplitAny s (oneC c) = [a, b] := by
  have h1 : ∀ i, i ≤ a.size → spl s (oneC c) i = ([], 0) := by
    intro i
    induction i with
    | zero => intro _; rfl
    | succ i ih =>
      intro hi
      rw [spl_miss (by rw [hasB_one]; exact decide_eq_false (h.lo (by omega))), ih (by omega)]
  have h2 : spl s (oneC c) (a.size + 1) = ([s.extract 0 a.size], a.size + 1) := by
    rw [spl_hit (by rw [hasB_one]; exact decide_eq_true h.at), h1 a.size (Nat.le_refl _)]
    rfl
  have h3 : ∀ i, a.size + 1 + i ≤ s.size → spl s (oneC c) (a.size + 1 + i) = ([s.extract 0 a.size], a.size + 1) := by
    intro i
    induction i with
    | zero => intro _; exact h2
    | succ i ih =>
      intro hi
      rw [show a.size + 1 + (i + 1) = (a.size + 1 + i) + 1 by omega, spl_miss (by rw [hasB_one]; exact decide_eq_false (h.hi (by omega) (by omega))), ih (by omega)]
  unfold rSplitAny
  have hs := h.size
  have h4 := h3 b.size (by omega)
  rw [← hs] at h4
  rw [h4]
  simp only [h.left, h.right, List.cons_append, List.nil_append]
end Go.Proofs.YtgchbbjhdeobpaaGreatDoor
