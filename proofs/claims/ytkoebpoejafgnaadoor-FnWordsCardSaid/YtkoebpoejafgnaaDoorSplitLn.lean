import Derived.Test.YtkoebpoejafgnaaDoorCut
import Derived.Test.YtkoebpoejafgnaaDoorText
/-
  strings.Split at one byte; both SplitLines'.
-/
namespace Go.Proofs.YtkoebpoejafgnaaDoor
set_option linter.unusedVariables false
open Go.RowKit
theorem ext_at (s : ByteArray) (f i : Nat) (h : f + i < s.size) : bAt (s.extract f s.size) i = bAt s (f + i) := by
  have e1 : s.size = s.data.toList.length := rfl
  unfold bAt
  rw [ByteArray.data_extract, Array.toList_extract, List.extract_eq_take_drop, e1, List.getD_eq_getElem?_getD, List.getD_eq_getElem?_getD, List.take_of_length_le (by rw [List.length_drop]; omega), List.getElem?_drop]
theorem ext_data (s : ByteArray) (f : Nat) : (s.extract f s.size).data.toList = s.data.toList.drop f := by
  have e1 : s.size = s.data.toList.length := rfl
  rw [ByteArray.data_extract, Array.toList_extract, List.extract_eq_take_drop, e1, List.take_of_length_le (by rw [List.length_drop]; omega)]
theorem ext_ext (s : ByteArray) (f m : Nat) (h : f + m ≤ s.size) : (s.extract f s.size).extract 0 m = s.extract f (f + m) := by
  have e1 : s.size = s.data.toList.length := rfl
  apply ByteArray.ext
  apply Array.ext'
  rw [ByteArray.data_extract, Array.toList_extract, ext_data, ByteArray.data_extract, Array.toList_extract, List.extract_eq_take_drop, List.extract_eq_take_drop, List.drop_zero, show m - 0 = m by omega, show f + m - f = m by omega]
theorem ext_rest (s : ByteArray) (f m n : Nat) (hn : n = s.size - f) (h : f + m ≤ s.size) : (s.extract f s.size).extract m n = s.extract (f + m) s.size := by
  have e1 : s.size = s.data.toList.length := rfl
  apply ByteArray.ext
  apply Array.ext'
  rw [ByteArray.data_extract, Array.toList_extract, ext_data, ext_data, List.extract_eq_take_drop, List.drop_drop, List.take_of_length_le (by rw [List.length_drop]; omega)]
theorem ext_size (s : ByteArray) (f : Nat) (h : f ≤ s.size) : (s.extract f s.size).size = s.size - f := by
  rw [ByteArray.size_extract]
  omega
/-- No byte c from f on: no further piece. -/
theorem spl_rest {s : ByteArray} {c : UInt8} {f : Nat} (h : ∀ k, f ≤ k → k < s.size → bAt s k ≠ c) : ∀ i, f + i ≤ s.size → spl s (oneC c) (f + i) = spl s (oneC c) f
  | 0, _ => rfl
  | i + 1, hi => by
    rw [show f + (i + 1) = (f + i) + 1 by omega, spl_miss (by rw [hasB_one]; exact decide_eq_false (h (f + i) (by omega) (by omega)))]
    exact spl_rest h i (by omega)
theorem spl_go {s : ByteArray} {c : UInt8} {f : Nat} : ∀ i, f + i ≤ s.size → (∀ k, f ≤ k → k < f + i → bAt s k ≠ c) → spl s (oneC c) (f + i) = spl s (oneC c) f
  | 0, _, _ => rfl
  | i + 1, hi, h => by
    rw [show f + (i + 1) = (f + i) + 1 by omega, spl_miss (by rw [hasB_one]; exact decide_eq_false (h (f + i) (by omega) (by omega)))]
    exact spl_go i (by omega) fun k h1 h2 => h k h1 (by omega)
theorem spl_next {s : ByteArray} {c : UInt8} {f m : Nat} {l : List ByteArray} (hl : spl s (oneC c) f = (l, f)) (hm : Lib.indexByte (s.extract f s.size).data.toList c = (m : Int)) (hf : f ≤ s.size) :
    f + m < s.size ∧ spl s (oneC c) (f + m + 1) = (l ++ [s.extract f (f + m)], f + m + 1) := by
  obtain ⟨h1, h2, h3⟩ := index_found hm
  rw [ext_size s f hf] at h1
  rw [ext_at s f m (by omega)] at h2
  refine ⟨by omega, ?_⟩
  rw [spl_hit (by rw [hasB_one]; exact decide_eq_true h2), spl_go m (by omega) fun k k1 k2 => ?_, hl]
  have := h3 (k - f) (by omega)
  rw [ext_at s f _ (by omega), show f + (k - f) = k by omega] at this
  exact this
theorem spl_done {s : ByteArray} {c : UInt8} {f : Nat} {l : List ByteArray} (hl : spl s (oneC c) f = (l, f)) (hm : Lib.indexByte (s.extract f s.size).data.toList c = -1) (hf : f ≤ s.size) :
    rSplitAny s (oneC c) = l ++ [s.extract f s.size] := by
  have hn := Lib.indexByte_none hm
  have h : spl s (oneC c) s.size = (l, f) := by
    rw [← hl, ← spl_rest (s := s) (c := c) (f := f) (fun k k1 k2 e => ?_) (s.size - f) (by omega), show f + (s.size - f) = s.size by omega]
    apply hn (k - f)
    rw [ext_data, List.getElem?_drop, show f + (k - f) = k by omega]
    unfold bAt at e
    have e1 : s.size = s.data.toList.length := rfl
    rw [List.getD_eq_getElem?_getD, List.getElem?_eq_getElem (by omega)] at e
    rw [List.getElem?_eq_getElem (by omega)]
    exact congrArg some e
  unfold rSplitAny
  rw [h]
theorem count_next {l : List UInt8} {c : UInt8} {m : Nat} (h : Lib.indexByte l c = (m : Int)) : Lib.countByte l c = Lib.countByte (l.drop (m + 1)) c + 1 := by
  have hs := Lib.indexByte_some h
  obtain ⟨hi, e⟩ := List.getElem?_eq_some_iff.1 hs.1
  have h3 : l.drop m = c :: l.drop (m + 1) := by rw [List.drop_eq_getElem_cons hi, e]
  have h4 : l.count c = (l.take m).count c + (l.drop m).count c := by rw [← List.count_append, List.take_append_drop]
  have h5 : (l.take m).count c = 0 := by
    rw [List.count_eq_zero]
    intro hm
    obtain ⟨k, hk, e2⟩ := List.mem_iff_getElem.1 hm
    rw [List.length_take] at hk
    rw [List.getElem_take] at e2
    exact hs.2 k (by omega) (by rw [List.getElem?_eq_getElem (by omega), e2])
  unfold Lib.countByte
  rw [h4, h5, h3, List.count_cons_self]
  omega
theorem count_none {l : List UInt8} {c : UInt8} (h : Lib.countByte l c = 0) : Lib.indexByte l c = -1 := by
  rcases (by have := Lib.indexByte_ge l c; omega : Lib.indexByte l c = -1 ∨ 0 ≤ Lib.indexByte l c) with hh | hh
  · exact hh
  · obtain ⟨i, hi⟩ : ∃ i : Nat, Lib.indexByte l c = (i : Int) := ⟨(Lib.indexByte l c).toNat, by omega⟩
    have := count_next hi
    omega
theorem count_le (l : List UInt8) (c : UInt8) : Lib.countByte l c ≤ l.length := List.count_le_length
theorem getD_snoc (l : List ByteArray) (x : ByteArray) (j : Nat) : (l ++ [x]).getD j ByteArray.empty = if j = l.length then x else l.getD j ByteArray.empty := by
  rw [List.getD_eq_getElem?_getD, List.getD_eq_getElem?_getD]
  by_cases h : j = l.length
  · rw [if_pos h, h]
    simp
  · rw [if_neg h]
    rcases Nat.lt_or_ge j l.length with hl | hl
    · rw [List.getElem?_append_left hl]
    · rw [List.getElem?_eq_none (by simp; omega), List.getElem?_eq_none hl]
theorem count_zero {l : List UInt8} {c : UInt8} (h : Lib.indexByte l c = -1) : Lib.countByte l c = 0 := by
  unfold Lib.countByte
  rw [List.count_eq_zero]
  intro hm
  obtain ⟨k, hk, e⟩ := List.mem_iff_getElem.1 hm
  exact Lib.indexByte_none h k (by rw [List.getElem?_eq_getElem hk, e])
theorem ext_all (s : ByteArray) : s.extract 0 s.size = s := by
  apply ByteArray.ext
  apply Array.ext'
  rw [ext_data, List.drop_zero]
set_option maxRecDepth 100000 in
set_option maxHeartbeats 1000000 in
theorem genSplit_any (s : ByteArray) (c : UInt8) (w : World) (b : s.size ≤ 1048576) :
    Calls Tryd.prog 125 #[.string s, .string ⟨#[c]⟩, .int .i64 0, .int .i64 (-1)] w fun e w' => RetS e w' w.heap.size (rSplitAny s (oneC c)) ∧ Old w w' := by
  have hs1 : (⟨#[c]⟩ : ByteArray).size = 1 := rfl
  have hem : (⟨#[c]⟩ : ByteArray).toList.isEmpty = false := text_ne (by rw [hs1]; omega)
  obtain ⟨N, hN⟩ : ∃ N, N = Lib.countByte s.data.toList c := ⟨_, rfl⟩
  have hNs : N ≤ s.size := by rw [hN]; exact count_le _ _
  have HN := Lib.hid hN
  clear hN
  have hmk := fun (x : Nat) (hx : 16 * x ≤ 281474976710656) (hx2 : x ≤ 9223372036854775807) (w : World) => run_make_row' (P := Tryd.prog) 47 9 (.string ByteArray.empty) 16 Tryd.underlying47 string_info rfl .i64 .i64 x hx hx2 w
  have hmk1 := fun (w : World) => hmk (N + 1) (by omega) (by omega) w
  have ecast : ((N + 1 : Nat) : Int) = (N : Int) + 1 := by omega
  simp only [ecast] at hmk1
  clear hmk ecast
  go_enter Tryd.func125, Tryd.ntmps125
  go_wp2_with fail
  refine (Tryd.strings_Count_one s c _).mono ?_
  rintro e w1 ⟨rfl, rfl⟩
  rw [← HN.out]
  have hmin : min ((N : Int) + 1) ((s.size : Int) + 1) = (N : Int) + 1 := by omega
  go_wp2
  clear hmk1
  go_loopw [0, 10] (fun sv iv wr => ∃ (f k : Nat) (l : List ByteArray), f ≤ s.size ∧ k ≤ N ∧ l.length = k ∧ Hid (spl s (oneC c) f = (l, f)) ∧ Hid (k + Lib.countByte (s.extract f s.size).data.toList c = N) ∧ sv = .string (s.extract f s.size) ∧ iv = .int .i64 (k : Int) ∧ SBlk wr w1.heap.size (N + 1) (fun j => l.getD j ByteArray.empty) ∧ Old w1 wr) (fun _ iv _ => N - (intOf iv).toNat)
  case atStart => exact ⟨0, 0, [], Nat.zero_le _, Nat.zero_le _, rfl, Lib.hid rfl, Lib.hid (by rw [ext_all, Nat.zero_add]; exact HN.out.symm), by rw [ext_all], rfl, (World.rowIs_made _ _ _ _).congr fun j _ => by simp, (Old.refl w1).alloc (Nat.le_refl _) _⟩
  case round =>
    obtain ⟨f, k, l, hf, hk, hlen, hspl, hcnt, rfl, rfl, hB, hb⟩ := hrel
    have hes := ext_size s f hf
    have HES := Lib.hid hes
    have hesz : (s.extract f s.size).size ≤ 1048576 := by omega
    have zr := hb.size
    have hlt0 := hB.lt
    have hcl := hB.cell k (by omega)
    have hfr := hB.frozen k
    clear hes
    by_cases hlt : k < N
    · rcases (by have := Lib.indexByte_ge (s.extract f s.size).data.toList c; omega : Lib.indexByte (s.extract f s.size).data.toList c = -1 ∨ 0 ≤ Lib.indexByte (s.extract f s.size).data.toList c) with hh | hh
      · exfalso
        have := count_zero hh
        have := hcnt.out
        omega
      · obtain ⟨m, hm⟩ : ∃ m : Nat, Lib.indexByte (s.extract f s.size).data.toList c = (m : Int) := ⟨(Lib.indexByte (s.extract f s.size).data.toList c).toNat, by omega⟩
        have hn := spl_next hspl.out hm hf
        have HNX := Lib.hid hn.2
        have hfm := hn.1
        have HC : Hid (k + 1 + Lib.countByte (s.extract (f + m + 1) s.size).data.toList c = N) := Lib.hid (by
          have h1 := hcnt.out
          rw [count_next hm, ext_data, List.drop_drop] at h1
          rw [ext_data, show f + m + 1 = f + (m + 1) by omega]
          omega)
        have HX1 := Lib.hid (ext_ext s f m (by omega))
        have HX2 := Lib.hid (ext_rest s f (m + 1) (s.size - f) rfl (by omega))
        have HM := Lib.hid hm
        have hmz : m + 1 ≤ (s.extract f s.size).size := by have := HES.out; omega
        clear hm hh hn
        go_wp2_with fail
        refine (Tryd.strings_Index_one (s.extract f s.size) c _).mono ?_
        rintro e w2 ⟨rfl, rfl⟩
        rw [HM.out]
        go_wp2
        go_roundw
        case rel => exact ⟨f + m + 1, k + 1, l ++ [s.extract f (f + m)], by omega, by omega, by rw [List.length_append, hlen]; rfl, HNX, HC, by rw [HX2.out]; rfl, by go_num, (SBlk.set_ hB k _).to (fun j _ => by rw [getD_snoc, hlen, HX1.out]), hb.setCell (Nat.le_refl _) _⟩
        case measure => simp [intOf]; omega
    · have e : k = N := by omega
      subst e
      have hz : Lib.indexByte (s.extract f s.size).data.toList c = -1 := count_none (by have := hcnt.out; omega)
      have HS := Lib.hid (spl_done hspl.out hz hf)
      clear hz
      go_wp2
      go_ret
      exact ⟨⟨_, _, by rw [HS.out, List.length_append, hlen]; rfl, by rw [HS.out, StrS, List.length_append, hlen]; exact ((SBlk.set_ hB k (s.extract f s.size)).to (fun j _ => by rw [getD_snoc, hlen])).row (Nat.le_refl _)⟩, hb.setCell (Nat.le_refl _) _⟩
set_option maxRecDepth 100000 in
set_option maxHeartbeats 1000000 in
theorem split_any (s : ByteArray) (c : UInt8) (w : World) (b : s.size ≤ 1048576) :
    Calls Tryd.prog 75 #[.string s, .string ⟨#[c]⟩] w fun e w' => RetS e w' w.heap.size (rSplitAny s (oneC c)) ∧ Old w w' := by
  go_enter Tryd.func75, Tryd.ntmps75
  go_wp2_with fail
  refine (genSplit_any s c _ b).mono ?_
  rintro e w1 ⟨⟨A, n, rfl, R⟩, o1⟩
  go_wp2
  go_ret
  exact ⟨⟨A, n, rfl, R⟩, o1⟩
/-- The last piece between line ends. -/
def lastS (s : ByteArray) : ByteArray := s.extract (spl s (oneC 10) s.size).2 s.size
def rSplitLines (s : ByteArray) : List ByteArray := if (lastS s).size = 0 then (spl s (oneC 10) s.size).1 else rSplitAny s (oneC 10)
theorem rSplitLines_len (s : ByteArray) : (rSplitLines s).length ≤ s.size + 1 := by
  unfold rSplitLines
  split
  · have := (spl_le s (oneC 10) s.size).2
    omega
  · exact rSplitAny_len s (oneC 10)
theorem SRow.to2 {w : World} {lo n m c : Nat} {A : Option Addr} {f g : Nat → ByteArray} (h : SRow w lo A n c f) (e : n = m) (he : ∀ j, j < n → f j = g j) : SRow w lo A m c g := by
  subst e
  exact h.congr he
set_option maxRecDepth 100000 in
set_option maxHeartbeats 1000000 in
theorem spec_SplitLines_yes (s : ByteArray) (w : World) (b : s.size ≤ 1048576) (hx : lastS s = ByteArray.empty) :
    Calls Tryd.prog 25 #[.string s] w fun e w' => RetS e w' w.heap.size (spl s (oneC 10) s.size).1 ∧ Old w w' := by
  have HX := Lib.hid hx
  clear hx
  go_enter Tryd.func25, Tryd.ntmps25
  go_wp2_with fail
  refine (spec_SplitAny s (oneC 10) _ b (by show 1 ≤ _; omega)).mono ?_
  rintro e w1 ⟨⟨A, c, rfl, R0⟩, o1⟩
  have HN2 : Hid ((spl s (oneC 10) s.size).1.length = (spl s (oneC 10) s.size).1.length) := Lib.hid rfl
  obtain ⟨n, hn⟩ : ∃ n, n = (spl s (oneC 10) s.size).1.length := ⟨_, rfl⟩
  have hn1 : (rSplitAny s (oneC 10)).length = n + 1 := by rw [hn]; unfold rSplitAny; simp
  have hns : n ≤ s.size := by rw [hn]; exact (spl_le s (oneC 10) s.size).2
  replace HN2 : Hid (n = (spl s (oneC 10) s.size).1.length) := Lib.hid hn
  have HN : Hid ((rSplitAny s (oneC 10)).length = n + 1) := Lib.hid hn1
  have R : SRow w1 w.heap.size A (n + 1) c (fun j => (rSplitAny s (oneC 10)).getD j ByteArray.empty) := by have := R0; unfold StrS at this; rw [hn1] at this; exact this
  rw [hn1]
  clear R0 hn1 hn
  have hcap := R.1
  obtain ⟨bb, o, rfl, _, hbs, _, hc⟩ := R.2 (by omega)
  have hl0 : w1.cell? ⟨bb, o + n, none⟩ = some (.string (lastS s)) := by
    rw [hc n (by omega)]
    show some (Value.string ((rSplitAny s (oneC 10)).getD n ByteArray.empty)) = _
    rw [rSplitAny, getD_snoc, if_pos HN2.out]
    rfl
  clear hc
  have hl : w1.cell? ⟨bb, o + n, none⟩ = some (.string ByteArray.empty) := by rw [hl0, HX.out]
  clear hl0
  go_wp2
  go_ret
  exact ⟨⟨_, _, by rw [← HN2.out]; rfl, (R.take (Nat.le_succ n)).to2 HN2.out (fun j hj => by rw [rSplitAny, getD_snoc, if_neg (by have := HN2.out; omega)])⟩, o1⟩
set_option maxRecDepth 100000 in
set_option maxHeartbeats 1000000 in
theorem spec_SplitLines_no (s : ByteArray) (w : World) (b : s.size ≤ 1048576) (hx : ¬ (lastS s).size = 0) :
    Calls Tryd.prog 25 #[.string s] w fun e w' => RetS e w' w.heap.size (rSplitAny s (oneC 10)) ∧ Old w w' := by
  have hem := text_ne hx
  clear hx
  go_enter Tryd.func25, Tryd.ntmps25
  go_wp2_with fail
  refine (spec_SplitAny s (oneC 10) _ b (by show 1 ≤ _; omega)).mono ?_
  rintro e w1 ⟨⟨A, c, rfl, R0⟩, o1⟩
  have HN2 : Hid ((spl s (oneC 10) s.size).1.length = (spl s (oneC 10) s.size).1.length) := Lib.hid rfl
  obtain ⟨n, hn⟩ : ∃ n, n = (spl s (oneC 10) s.size).1.length := ⟨_, rfl⟩
  have hn1 : (rSplitAny s (oneC 10)).length = n + 1 := by rw [hn]; unfold rSplitAny; simp
  have hns : n ≤ s.size := by rw [hn]; exact (spl_le s (oneC 10) s.size).2
  replace HN2 : Hid (n = (spl s (oneC 10) s.size).1.length) := Lib.hid hn
  have HN : Hid ((rSplitAny s (oneC 10)).length = n + 1) := Lib.hid hn1
  have R : SRow w1 w.heap.size A (n + 1) c (fun j => (rSplitAny s (oneC 10)).getD j ByteArray.empty) := by have := R0; unfold StrS at this; rw [hn1] at this; exact this
  rw [hn1]
  clear R0 hn1 hn
  have hcap := R.1
  obtain ⟨bb, o, rfl, _, hbs, _, hc⟩ := R.2 (by omega)
  have hl0 : w1.cell? ⟨bb, o + n, none⟩ = some (.string (lastS s)) := by
    rw [hc n (by omega)]
    show some (Value.string ((rSplitAny s (oneC 10)).getD n ByteArray.empty)) = _
    rw [rSplitAny, getD_snoc, if_pos HN2.out]
    rfl
  clear hc
  go_wp2
  go_ret
  exact ⟨⟨_, _, by rw [HN.out]; rfl, R.to2 HN.out.symm (fun j _ => rfl)⟩, o1⟩
theorem spec_SplitLines (s : ByteArray) (w : World) (b : s.size ≤ 1048576) :
    Calls Tryd.prog 25 #[.string s] w fun e w' => RetS e w' w.heap.size (rSplitLines s) ∧ Old w w' := by
  by_cases hx : (lastS s).size = 0
  · rw [show rSplitLines s = (spl s (oneC 10) s.size).1 by unfold rSplitLines; rw [if_pos hx]]
    exact spec_SplitLines_yes s w b (text_empty hx)
  · rw [show rSplitLines s = rSplitAny s (oneC 10) by unfold rSplitLines; rw [if_neg hx]]
    exact spec_SplitLines_no s w b hx
set_option maxRecDepth 100000 in
set_option maxHeartbeats 1000000 in
theorem impl_SplitLines_yes (s : ByteArray) (w : World) (b : s.size ≤ 1048576) (hx : lastS s = ByteArray.empty) :
    Calls Tryd.prog 26 #[.string s] w fun e w' => RetS e w' w.heap.size (spl s (oneC 10) s.size).1 ∧ Old w w' := by
  have HX := Lib.hid hx
  clear hx
  go_enter Tryd.func26, Tryd.ntmps26
  go_wp2_with fail
  refine (split_any s 10 _ b).mono ?_
  rintro e w1 ⟨⟨A, c, rfl, R0⟩, o1⟩
  have HN2 : Hid ((spl s (oneC 10) s.size).1.length = (spl s (oneC 10) s.size).1.length) := Lib.hid rfl
  obtain ⟨n, hn⟩ : ∃ n, n = (spl s (oneC 10) s.size).1.length := ⟨_, rfl⟩
  have hn1 : (rSplitAny s (oneC 10)).length = n + 1 := by rw [hn]; unfold rSplitAny; simp
  have hns : n ≤ s.size := by rw [hn]; exact (spl_le s (oneC 10) s.size).2
  replace HN2 : Hid (n = (spl s (oneC 10) s.size).1.length) := Lib.hid hn
  have HN : Hid ((rSplitAny s (oneC 10)).length = n + 1) := Lib.hid hn1
  have R : SRow w1 w.heap.size A (n + 1) c (fun j => (rSplitAny s (oneC 10)).getD j ByteArray.empty) := by have := R0; unfold StrS at this; rw [hn1] at this; exact this
  rw [hn1]
  clear R0 hn1 hn
  have hcap := R.1
  obtain ⟨bb, o, rfl, _, hbs, _, hc⟩ := R.2 (by omega)
  have hl0 : w1.cell? ⟨bb, o + n, none⟩ = some (.string (lastS s)) := by
    rw [hc n (by omega)]
    show some (Value.string ((rSplitAny s (oneC 10)).getD n ByteArray.empty)) = _
    rw [rSplitAny, getD_snoc, if_pos HN2.out]
    rfl
  clear hc
  have hl : w1.cell? ⟨bb, o + n, none⟩ = some (.string ByteArray.empty) := by rw [hl0, HX.out]
  clear hl0
  go_wp2
  go_ret
  exact ⟨⟨_, _, by rw [← HN2.out]; rfl, (R.take (Nat.le_succ n)).to2 HN2.out (fun j hj => by rw [rSplitAny, getD_snoc, if_neg (by have := HN2.out; omega)])⟩, o1⟩
set_option maxRecDepth 100000 in
set_option maxHeartbeats 1000000 in
theorem impl_SplitLines_no (s : ByteArray) (w : World) (b : s.size ≤ 1048576) (hx : ¬ (lastS s).size = 0) :
    Calls Tryd.prog 26 #[.string s] w fun e w' => RetS e w' w.heap.size (rSplitAny s (oneC 10)) ∧ Old w w' := by
  have hem := text_ne hx
  clear hx
  go_enter Tryd.func26, Tryd.ntmps26
  go_wp2_with fail
  refine (split_any s 10 _ b).mono ?_
  rintro e w1 ⟨⟨A, c, rfl, R0⟩, o1⟩
  have HN2 : Hid ((spl s (oneC 10) s.size).1.length = (spl s (oneC 10) s.size).1.length) := Lib.hid rfl
  obtain ⟨n, hn⟩ : ∃ n, n = (spl s (oneC 10) s.size).1.length := ⟨_, rfl⟩
  have hn1 : (rSplitAny s (oneC 10)).length = n + 1 := by rw [hn]; unfold rSplitAny; simp
  have hns : n ≤ s.size := by rw [hn]; exact (spl_le s (oneC 10) s.size).2
  replace HN2 : Hid (n = (spl s (oneC 10) s.size).1.length) := Lib.hid hn
  have HN : Hid ((rSplitAny s (oneC 10)).length = n + 1) := Lib.hid hn1
  have R : SRow w1 w.heap.size A (n + 1) c (fun j => (rSplitAny s (oneC 10)).getD j ByteArray.empty) := by have := R0; unfold StrS at this; rw [hn1] at this; exact this
  rw [hn1]
  clear R0 hn1 hn
  have hcap := R.1
  obtain ⟨bb, o, rfl, _, hbs, _, hc⟩ := R.2 (by omega)
  have hl0 : w1.cell? ⟨bb, o + n, none⟩ = some (.string (lastS s)) := by
    rw [hc n (by omega)]
    show some (Value.string ((rSplitAny s (oneC 10)).getD n ByteArray.empty)) = _
    rw [rSplitAny, getD_snoc, if_pos HN2.out]
    rfl
  clear hc
  go_wp2
  go_ret
  exact ⟨⟨_, _, by rw [HN.out]; rfl, R.to2 HN.out.symm (fun j _ => rfl)⟩, o1⟩
theorem impl_SplitLines (s : ByteArray) (w : World) (b : s.size ≤ 1048576) :
    Calls Tryd.prog 26 #[.string s] w fun e w' => RetS e w' w.heap.size (rSplitLines s) ∧ Old w w' := by
  by_cases hx : (lastS s).size = 0
  · rw [show rSplitLines s = (spl s (oneC 10) s.size).1 by unfold rSplitLines; rw [if_pos hx]]
    exact impl_SplitLines_yes s w b (text_empty hx)
  · rw [show rSplitLines s = rSplitAny s (oneC 10) by unfold rSplitLines; rw [if_neg hx]]
    exact impl_SplitLines_no s w b hx
attribute [irreducible] rSplitLines
end Go.Proofs.YtkoebpoejafgnaaDoor
