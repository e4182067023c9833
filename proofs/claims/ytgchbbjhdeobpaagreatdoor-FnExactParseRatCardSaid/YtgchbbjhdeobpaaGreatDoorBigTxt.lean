import Derived.Test.YtgchbbjhdeobpaaGreatDoorNatTxt
import Derived.Test.YtgchbbjhdeobpaaGreatDoorBig
/-
  Big integers as texts: both FormatBigInt's.
-/
namespace Go.Proofs.YtgchbbjhdeobpaaGreatDoor
set_option linter.unusedVariables false
open Go.RowKit

theorem rFormatNat_size (n : Nat) (f : Nat → Int) : (rFormatNat n f).size ≤ 1800 := by
  unfold rFormatNat
  split
  · rename_i h
    split
    · show 1 ≤ 1800; omega
    · have := fT_size f n h.2.1 n (Nat.le_refl _)
      have := h.1
      omega
  · show 0 ≤ 1800; omega
/-- The text of a big integer that is well formed. -/
noncomputable def bigT (b : Bool) (n : Nat) (f : Nat → Int) : ByteArray := if b = true then ⟨#[45]⟩ ++ rFormatNat n f else rFormatNat n f
open Classical in
noncomputable def rFormatBigInt (b : Bool) (n : Nat) (f : Nat → Int) : ByteArray := if okB b n f then bigT b n f else ByteArray.empty
theorem bigT_size (b : Bool) (n : Nat) (f : Nat → Int) : (bigT b n f).size ≤ 1801 := by
  have := rFormatNat_size n f
  unfold bigT
  split
  · rw [ByteArray.size_append]
    have : (⟨#[45]⟩ : ByteArray).size = 1 := rfl
    omega
  · omega
set_option maxRecDepth 100000 in
set_option maxHeartbeats 1000000 in
theorem spec_FormatBigInt (b : Bool) (A : Option Addr) (n c lo : Nat) (f : Nat → Int) (w : World) (h : Row w lo A n c f) (hn : n ≤ 1048576) :
    Calls Tryz.prog 53 #[.agg #[.bool b, .slice A n c]] w fun e w' => e = .returned (.string (rFormatBigInt b n f)) ∧ Old w w' := by
  have hsz := rFormatNat_size n f
  by_cases hok : okB b n f
  · have HK := Lib.hid (rBigIntOk_yes hok)
    have HR : Hid (rFormatBigInt b n f = bigT b n f) := Lib.hid (by unfold rFormatBigInt; rw [if_pos hok])
    clear hok
    cases b with
    | true =>
      have HB : Hid (bigT true n f = ⟨#[45]⟩ ++ rFormatNat n f) := Lib.hid rfl
      go_enter Tryz.func53, Tryz.ntmps53
      go_wp2_with fail
      refine (spec_BigIntOk true A n c lo f _ (h.below (B := w.heap.size) oldA (Nat.le_refl _)) hn).mono ?_
      rintro e w1 ⟨rfl, o1⟩
      rw [HK.out]
      have B1 := Bx.old (Bx.new _ _ _) o1
      have q0 : w1.cell? ⟨w.heap.size, 0, none⟩ = some (.bool true) := B1.cell 0 rfl
      have q1 : w1.cell? ⟨w.heap.size, 1, none⟩ = some (.slice A n c) := B1.cell 1 rfl
      have qg := B1.lt
      have z1 := o1.size
      replace o1 : Old w w1 := Below.trans (b := _) oldA (Below.mono o1 leA)
      have h1 := h.below o1 (Nat.le_refl _)
      go_wp2_with fail
      refine (spec_FormatNat _ _ _ _ _ _ h1 hn).mono ?_
      rintro e w2 ⟨rfl, o2⟩
      go_wp2
      go_ret
      exact ⟨by rw [HR.out, HB.out]; rfl, Old.trans o1 o2⟩
    | false =>
      have HB : Hid (bigT false n f = rFormatNat n f) := Lib.hid rfl
      go_enter Tryz.func53, Tryz.ntmps53
      go_wp2_with fail
      refine (spec_BigIntOk false A n c lo f _ (h.below (B := w.heap.size) oldA (Nat.le_refl _)) hn).mono ?_
      rintro e w1 ⟨rfl, o1⟩
      rw [HK.out]
      have B1 := Bx.old (Bx.new _ _ _) o1
      have q0 : w1.cell? ⟨w.heap.size, 0, none⟩ = some (.bool false) := B1.cell 0 rfl
      have q1 : w1.cell? ⟨w.heap.size, 1, none⟩ = some (.slice A n c) := B1.cell 1 rfl
      have qg := B1.lt
      have z1 := o1.size
      replace o1 : Old w w1 := Below.trans (b := _) oldA (Below.mono o1 leA)
      have h1 := h.below o1 (Nat.le_refl _)
      go_wp2_with fail
      refine (spec_FormatNat _ _ _ _ _ _ h1 hn).mono ?_
      rintro e w2 ⟨rfl, o2⟩
      go_wp2
      go_ret
      exact ⟨by rw [HR.out, HB.out]; rfl, Old.trans o1 o2⟩
  · have HK := Lib.hid (rBigIntOk_no hok)
    have HR : Hid (rFormatBigInt b n f = ByteArray.empty) := Lib.hid (by unfold rFormatBigInt; rw [if_neg hok])
    clear hok
    go_enter Tryz.func53, Tryz.ntmps53
    go_wp2_with fail
    refine (spec_BigIntOk b A n c lo f _ (h.below (B := w.heap.size) oldA (Nat.le_refl _)) hn).mono ?_
    rintro e w1 ⟨rfl, o1⟩
    rw [HK.out]
    have B1 := Bx.old (Bx.new _ _ _) o1
    have q0 : w1.cell? ⟨w.heap.size, 0, none⟩ = some (.bool b) := B1.cell 0 rfl
    have q1 : w1.cell? ⟨w.heap.size, 1, none⟩ = some (.slice A n c) := B1.cell 1 rfl
    have qg := B1.lt
    have z1 := o1.size
    replace o1 : Old w w1 := Below.trans (b := _) oldA (Below.mono o1 leA)
    have h1 := h.below o1 (Nat.le_refl _)
    go_wp2
    go_ret
    exact ⟨by rw [HR.out]; rfl, o1⟩
set_option maxRecDepth 100000 in
set_option maxHeartbeats 1000000 in
theorem formatBig_any (b : Bool) (A : Option Addr) (n c lo : Nat) (f : Nat → Int) (w : World) (h : Row w lo A n c f) (hok : okP n f) (K : KT w) :
    Calls Tryz.prog 63 #[.agg #[.bool b, .slice A n c]] w fun e w' => e = .returned (.string (bigT b n f)) ∧ Old w w' := by
  have hsz := rFormatNat_size n f
  have HK := Lib.hid hok
  clear hok
  cases b with
  | true =>
    have HB : Hid (bigT true n f = ⟨#[45]⟩ ++ rFormatNat n f) := Lib.hid rfl
    go_enter Tryz.func63, Tryz.ntmps63
    go_wp2_with fail
    refine (formatNat_any A n c lo f _ (h.below (B := w.heap.size) oldA (Nat.le_refl _)) HK.out (K.old oldA)).mono ?_
    rintro e w2 ⟨rfl, o2⟩
    go_wp2
    go_ret
    exact ⟨by rw [HB.out]; rfl, Below.trans (b := _) oldA (Below.mono o2 leA)⟩
  | false =>
    have HB : Hid (bigT false n f = rFormatNat n f) := Lib.hid rfl
    go_enter Tryz.func63, Tryz.ntmps63
    go_wp2_with fail
    refine (formatNat_any A n c lo f _ (h.below (B := w.heap.size) oldA (Nat.le_refl _)) HK.out (K.old oldA)).mono ?_
    rintro e w2 ⟨rfl, o2⟩
    go_wp2
    go_ret
    exact ⟨by rw [HB.out]; rfl, Below.trans (b := _) oldA (Below.mono o2 leA)⟩
end Go.Proofs.YtgchbbjhdeobpaaGreatDoor
