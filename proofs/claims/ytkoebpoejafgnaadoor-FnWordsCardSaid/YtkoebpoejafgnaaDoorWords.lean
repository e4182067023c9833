import Derived.Test.YtkoebpoejafgnaaDoorMakeTxt
import Derived.Test.YtkoebpoejafgnaaDoorSplitLaw
import Derived.Test.YtkoebpoejafgnaaDoorSplitLn
import Derived.Test.YtkoebpoejafgnaaDoorJoin
import Derived.Test.YtkoebpoejafgnaaDoorTextName
import Derived.Test.YtkoebpoejafgnaaDoorIntPar
/-
  The walk of the law FnWords.
-/
namespace Go.Proofs.YtkoebpoejafgnaaDoor
set_option linter.unusedVariables false
open Go.RowKit
theorem BRd.lift {w : World} {lim lim' : Nat} {A : Option Addr} {n c : Nat} (h : BRd w lim A n c) (hl : lim ≤ lim') : BRd w lim' A n c := by
  refine ⟨h.1, h.2.1, fun hn => ?_⟩
  obtain ⟨b, off, e, hs, hb, hc⟩ := h.2.2 hn
  exact ⟨b, off, e, hs, by omega, hc⟩
theorem piece_le2 (s y : ByteArray) : ∀ i, i ≤ s.size → ∀ p ∈ (spl s y i).1, p.size ≤ s.size
  | 0, _, p, hp => by cases hp
  | i + 1, hi, p, hp => by
    by_cases h : hasB y (bAt s i) = true
    · rw [spl_hit h] at hp
      rcases List.mem_append.1 hp with hp | hp
      · exact piece_le2 s y i (by omega) p hp
      · simp only [List.mem_singleton] at hp
        rw [hp, ByteArray.size_extract]
        omega
    · rw [spl_miss (by simpa using h)] at hp
      exact piece_le2 s y i (by omega) p hp
theorem pieces_le2 {s y p : ByteArray} (h : p ∈ rSplitAny s y) : p.size ≤ s.size := by
  unfold rSplitAny at h
  rcases List.mem_append.1 h with h | h
  · exact piece_le2 s y s.size (Nat.le_refl _) p h
  · simp only [List.mem_singleton] at h
    rw [h, ByteArray.size_extract]
    omega
theorem tot_pieces (s y : ByteArray) : ∀ (l : List ByteArray), (∀ p ∈ l, p.size ≤ s.size) → tot (fun j => l.getD j ByteArray.empty) l.length ≤ l.length * s.size := by
  intro l h
  have : ∀ k, k ≤ l.length → tot (fun j => l.getD j ByteArray.empty) k ≤ k * s.size := by
    intro k
    induction k with
    | zero => intro _; simp [tot]
    | succ k ih =>
      intro hk
      have hm : l.getD k ByteArray.empty ∈ l := by
        rw [List.getD_eq_getElem?_getD, List.getElem?_eq_getElem (by omega)]
        exact List.getElem_mem _
      have := h _ hm
      have := ih (by omega)
      rw [tot, Nat.succ_mul]
      omega
  exact this l.length (Nat.le_refl _)
theorem strsOf_list (l : List ByteArray) : strsOf (fun j => l.getD j ByteArray.empty) l.length = dat l := by
  unfold strsOf dat
  apply List.ext_getElem
  · simp
  · intro i h1 h2
    simp at h1 h2
    simp [List.getD_eq_getElem?_getD, h2]
theorem jn_split (s : ByteArray) (c : UInt8) : jn (fun j => (rSplitAny s (oneC c)).getD j ByteArray.empty) (oneC c) (rSplitAny s (oneC c)).length = s := by
  apply ByteArray.ext
  apply Array.ext'
  rw [jn_data, strsOf_list]
  exact join_split s c
def lnB : ByteArray := ⟨#[97, 10, 98, 10]⟩
theorem lines_two : (rSplitLines lnB).length = 2 := by
  unfold rSplitLines
  decide +kernel
theorem name_x1 : rIsName ⟨#[120, 49]⟩ = true := by
  refine rIsName_yes (k := 2) (by decide) (by decide) ?_ (by decide)
  intro j hj hk
  have hj2 : j < 2 := hj
  rcases (by omega : j = 0 ∨ j = 1) with rfl | rfl
  · show nameC 0 120
    unfold nameC
    decide
  · show nameC 1 49
    unfold nameC
    decide
set_option maxRecDepth 100000 in
set_option maxHeartbeats 1000000 in
theorem walkWords (A : Option Addr) (n c : Nat) (w : World) (hb : n ≤ 1048576 → BRd w w.heap.size A n c) (hn : n ≤ 9223372036854775807) (KT_ : KT w) (KE_ : KE w) :
    Calls Tryd.prog 14 #[.slice A n c] w fun e w' => e = .returned (.bool true) ∧ Old w w' := by
  by_cases hl : n ≤ 1048576
  · have HB := hb hl
    clear hb
    go_enter Tryd.func14, Tryd.ntmps14
    go_wp2_with fail
    refine (makeNum_any A n c 1 _ (by omega) HB).mono ?_
    rintro e w1 ⟨x, rfl, hx, o1⟩
    have HP := Lib.hid (rParse_is (s := rFormatInt ((x : Int) - 30000)) (v := (x : Int) - 30000) (by omega) rfl)
    have hsz := rFormatInt_size ((x : Int) - 30000) (by omega) (by omega)
    have hzw := w64 ((x : Int) - 30000) (by omega) (by omega)
    go_wp2_with fail
    refine (impl_FormatInt ((x : Int) - 30000) _ (by omega) (KT_.old o1)).mono ?_
    rintro e w2 ⟨rfl, o2⟩
    have O2 := Old.trans o1 o2
    go_wp2_with fail
    refine (impl_ParseInt (rFormatInt ((x : Int) - 30000)) _ (by omega) (KT_.old O2) (KE_.old O2)).mono ?_
    rintro e w3 ⟨rfl, o3⟩
    rw [HP.out.1, HP.out.2]
    have O3 := Old.trans O2 o3
    have z3 := O3.size
    go_wp2_with fail
    refine (makeText_any A n c _ ((HB.old O3).lift O3.size)).mono ?_
    rintro e w4 ⟨s, rfl, hs, o4⟩
    have O4 := Old.trans O3 o4
    go_wp2_with fail
    refine (impl_SplitAny s (oneC 32) _ (by omega) (by decide)).mono ?_
    rintro e w5 ⟨⟨B, m, rfl, R⟩, o5⟩
    have O5 := Old.trans O4 o5
    have hlen := rSplitAny_len s (oneC 32)
    have htot := tot_pieces s (oneC 32) (rSplitAny s (oneC 32)) (fun p hp => pieces_le2 hp)
    have hmul : (rSplitAny s (oneC 32)).length * s.size ≤ 15 * 14 := Nat.mul_le_mul (by omega) hs
    go_wp2_with fail
    refine (impl_Join (oneC 32) _ _ _ _ _ _ (by decide) R (by omega)).mono ?_
    rintro e w6 ⟨rfl, o6⟩
    rw [jn_split]
    have O6 := Old.trans O5 o6
    go_wp2_with fail
    refine (impl_IsName ⟨#[120, 49]⟩ _ (by decide)).mono ?_
    rintro e w7 ⟨rfl, o7⟩
    rw [name_x1]
    have O7 := Old.trans O6 o7
    go_wp2_with fail
    refine (impl_SplitLines lnB _ (by decide)).mono ?_
    rintro e w8 ⟨⟨C, k, rfl, R8⟩, o8⟩
    rw [lines_two]
    have O8 := Old.trans O7 o8
    go_wp2
    go_ret
    exact ⟨rfl, O8⟩
  · go_enter Tryd.func14, Tryd.ntmps14
    go_wp2
    go_ret
    exact ⟨rfl, oldA⟩
end Go.Proofs.YtkoebpoejafgnaaDoor
