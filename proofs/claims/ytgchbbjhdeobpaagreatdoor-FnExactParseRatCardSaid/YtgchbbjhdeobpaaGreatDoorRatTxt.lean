import Derived.Test.YtgchbbjhdeobpaaGreatDoorBigTxt
import Derived.Test.YtgchbbjhdeobpaaGreatDoorRatOk
import Derived.Deep.DeepCutAuto
import Derived.Deep.RegionHeld3
import Derived.Deep.DrawnRows
/-
  Fractions as texts: both FormatRat's.
-/
namespace Go.Proofs.YtgchbbjhdeobpaaGreatDoor
set_option linter.unusedVariables false
open Go.RowKit Num

/-- The text of a valid fraction. -/
noncomputable def ratT (b : Bool) (n : Nat) (f : Nat → Int) (m : Nat) (g : Nat → Int) : ByteArray := if natX m g = 1 then bigT b n f else bigT b n f ++ ⟨#[47]⟩ ++ rFormatNat m g
open Classical in
noncomputable def rFormatRat (b : Bool) (n : Nat) (f : Nat → Int) (m : Nat) (g : Nat → Int) : ByteArray := if okR b n f m g then ratT b n f m g else ByteArray.empty
theorem ratT_size (b : Bool) (n : Nat) (f : Nat → Int) (m : Nat) (g : Nat → Int) : (ratT b n f m g).size ≤ 3602 := by
  have h1 := bigT_size b n f
  have h2 := rFormatNat_size m g
  have h3 : (⟨#[47]⟩ : ByteArray).size = 1 := rfl
  unfold ratT
  split
  · omega
  · rw [ByteArray.size_append, ByteArray.size_append]
    omega
theorem slash_size (a : ByteArray) (h : a.size ≤ 1801) : (a ++ ⟨#[47]⟩).size ≤ 1802 := by
  rw [ByteArray.size_append]
  have : (⟨#[47]⟩ : ByteArray).size = 1 := rfl
  omega
theorem okP_len {m : Nat} {g : Nat → Int} (h : okP m g) : m = len (natX m g) ∧ ∀ j, j < m → g j = digI (natX m g) j := ⟨(natX_spec h).1, (natX_spec h).2.2⟩
theorem spec_FormatBigInt_ok (b : Bool) (A : Option Addr) (n c lo : Nat) (f : Nat → Int) (w : World) (h : Row w lo A n c f) (hok : okB b n f) :
    Calls Tryz.prog 53 #[.agg #[.bool b, .slice A n c]] w fun e w' => e = .returned (.string (bigT b n f)) ∧ Old w w' := by
  have hh := spec_FormatBigInt b A n c lo f w h (by have := hok.1.1; omega)
  rw [show rFormatBigInt b n f = bigT b n f by unfold rFormatBigInt; rw [if_pos hok]] at hh
  exact hh
set_option maxRecDepth 100000 in
set_option maxHeartbeats 8000000 in
theorem spec_FormatRat_yes (b : Bool) (A : Option Addr) (n c lo : Nat) (f : Nat → Int) (D : Option Addr) (m e u : Nat) (g : Nat → Int) (w : World) (h : Row w lo A n c f) (k : Row w u D m e g) (hok : okR b n f m g) :
    Calls Tryz.prog 24 #[.agg #[.bool b, .slice A n c, .slice D m e]] w fun e' w' => e' = .returned (.string (ratT b n f m g)) ∧ Old w w' := by
  have HK := Lib.hid (rRatOk_yes hok)
  have HO := Lib.hid hok
  have hn : n ≤ 1048576 := by have := hok.2.2.2.1; omega
  have hm : m ≤ 1048576 := by have := hok.2.2.2.2.1; omega
  clear hok
  by_cases h1n : natX m g = 1
  · have HN : Hid (decide (natX m g = 1) = true) := Lib.hid (decide_eq_true h1n)
    have HR : Hid (ratT b n f m g = bigT b n f) := Lib.hid (by unfold ratT; rw [if_pos h1n])
    clear h1n
    go_enter Tryz.func24, Tryz.ntmps24
    go_wp2_with fail
    refine (spec_RatOk b A n c lo f D m e u g _ (h.below (B := w.heap.size) oldA (Nat.le_refl _)) (k.below (B := w.heap.size) oldA (Nat.le_refl _)) hn hm).mono ?_
    rintro e' w1 ⟨rfl, o1⟩
    rw [HK.out]
    have B1 := Bx.old (Bx.new _ _ _) o1
    replace o1 : Old w w1 := Below.trans (b := _) oldA (Below.mono o1 leA)
    have h1 := h.below o1 (Nat.le_refl _)
    have k1 := k.below o1 (Nat.le_refl _)
    obtain ⟨gb, hgd⟩ : ∃ gb, gb = w.heap.size := ⟨_, rfl⟩
    rw [← hgd] at B1
    have HQ0 : Hid (w1.cell? ⟨gb, 0, none⟩ = some (.bool b)) := Lib.hid (B1.cell 0 rfl)
    have HQ1 : Hid (w1.cell? ⟨gb, 1, none⟩ = some (.slice A n c)) := Lib.hid (B1.cell 1 rfl)
    have HQ2 : Hid (w1.cell? ⟨gb, 2, none⟩ = some (.slice D m e)) := Lib.hid (B1.cell 2 rfl)
    have hg : gb < w1.heap.size := B1.lt
    have q0 := HQ0.out
    have q1 := HQ1.out
    have q2 := HQ2.out
    rw [← hgd]
    clear B1 hgd
    have hml := Lib.hid (okP_len HO.out.2.1).1
    have k1' : NatS w1 u D e (natX m g) := by have := k1.congr (fun j hj => (okP_len HO.out.2.1).2 j hj); unfold NatS; rw [← hml.out]; exact this
    go_wp2_with fail
    have hone := l04One_any D e (natX m g) u w1 k1'
    rw [← hml.out] at hone
    refine hone.mono ?_
    rintro e' w2 ⟨rfl, o2⟩
    rw [HN.out]
    replace HQ0 : Hid (w2.cell? ⟨gb, 0, none⟩ = some (.bool b)) := Lib.hid ((o2.cell (p := ⟨gb, 0, none⟩) hg).trans HQ0.out)
    replace HQ1 : Hid (w2.cell? ⟨gb, 1, none⟩ = some (.slice A n c)) := Lib.hid ((o2.cell (p := ⟨gb, 1, none⟩) hg).trans HQ1.out)
    replace HQ2 : Hid (w2.cell? ⟨gb, 2, none⟩ = some (.slice D m e)) := Lib.hid ((o2.cell (p := ⟨gb, 2, none⟩) hg).trans HQ2.out)
    clear q0 q1 q2
    have q0 := HQ0.out
    have q1 := HQ1.out
    have q2 := HQ2.out
    replace hg : gb < w2.heap.size := Nat.lt_of_lt_of_le hg o2.size
    have h2 := h1.below o2 (Nat.le_refl _)
    have k2 := k1.below o2 (Nat.le_refl _)
    go_wp2_with fail
    refine (spec_FormatBigInt_ok b A n c lo f _ h2 HO.out.1).mono ?_
    rintro e' w3 ⟨rfl, o3⟩
    go_wp2
    go_ret
    exact ⟨congrArg (fun s => Ending.returned (.string s)) (HR.out).symm, Old.trans o1 (Old.trans o2 o3)⟩
  · have HN : Hid (decide (natX m g = 1) = false) := Lib.hid (decide_eq_false h1n)
    have HR : Hid (ratT b n f m g = bigT b n f ++ ⟨#[47]⟩ ++ rFormatNat m g) := Lib.hid (by unfold ratT; rw [if_neg h1n])
    clear h1n
    go_enter Tryz.func24, Tryz.ntmps24
    go_wp2_with fail
    refine (spec_RatOk b A n c lo f D m e u g _ (h.below (B := w.heap.size) oldA (Nat.le_refl _)) (k.below (B := w.heap.size) oldA (Nat.le_refl _)) hn hm).mono ?_
    rintro e' w1 ⟨rfl, o1⟩
    rw [HK.out]
    have B1 := Bx.old (Bx.new _ _ _) o1
    replace o1 : Old w w1 := Below.trans (b := _) oldA (Below.mono o1 leA)
    have h1 := h.below o1 (Nat.le_refl _)
    have k1 := k.below o1 (Nat.le_refl _)
    obtain ⟨gb, hgd⟩ : ∃ gb, gb = w.heap.size := ⟨_, rfl⟩
    rw [← hgd] at B1
    have HQ0 : Hid (w1.cell? ⟨gb, 0, none⟩ = some (.bool b)) := Lib.hid (B1.cell 0 rfl)
    have HQ1 : Hid (w1.cell? ⟨gb, 1, none⟩ = some (.slice A n c)) := Lib.hid (B1.cell 1 rfl)
    have HQ2 : Hid (w1.cell? ⟨gb, 2, none⟩ = some (.slice D m e)) := Lib.hid (B1.cell 2 rfl)
    have hg : gb < w1.heap.size := B1.lt
    have q0 := HQ0.out
    have q1 := HQ1.out
    have q2 := HQ2.out
    rw [← hgd]
    clear B1 hgd
    have hml := Lib.hid (okP_len HO.out.2.1).1
    have k1' : NatS w1 u D e (natX m g) := by have := k1.congr (fun j hj => (okP_len HO.out.2.1).2 j hj); unfold NatS; rw [← hml.out]; exact this
    go_wp2_with fail
    have hone := l04One_any D e (natX m g) u w1 k1'
    rw [← hml.out] at hone
    refine hone.mono ?_
    rintro e' w2 ⟨rfl, o2⟩
    rw [HN.out]
    replace HQ0 : Hid (w2.cell? ⟨gb, 0, none⟩ = some (.bool b)) := Lib.hid ((o2.cell (p := ⟨gb, 0, none⟩) hg).trans HQ0.out)
    replace HQ1 : Hid (w2.cell? ⟨gb, 1, none⟩ = some (.slice A n c)) := Lib.hid ((o2.cell (p := ⟨gb, 1, none⟩) hg).trans HQ1.out)
    replace HQ2 : Hid (w2.cell? ⟨gb, 2, none⟩ = some (.slice D m e)) := Lib.hid ((o2.cell (p := ⟨gb, 2, none⟩) hg).trans HQ2.out)
    clear q0 q1 q2
    have q0 := HQ0.out
    have q1 := HQ1.out
    have q2 := HQ2.out
    replace hg : gb < w2.heap.size := Nat.lt_of_lt_of_le hg o2.size
    have h2 := h1.below o2 (Nat.le_refl _)
    have k2 := k1.below o2 (Nat.le_refl _)
    have sb := bigT_size b n f
    have sn := rFormatNat_size m g
    have sc := slash_size (bigT b n f) sb
    have sn1 : ¬ 9223372036854775807 < (bigT b n f).size + 1 := by omega
    have sn2 : ¬ 9223372036854775807 < (bigT b n f ++ ⟨#[47]⟩).size + (rFormatNat m g).size := by omega
    have sn3 : ¬ 9223372036854775807 < (bigT b n f).size + 1 + (rFormatNat m g).size := by omega
    have O := Old.refl w2
    go_upto_region 5 with fail
    go_cut [2] (fun sl wx => sl = .string (bigT b n f ++ ⟨#[47]⟩ ++ rFormatNat m g) ∧ Old w2 wx)
    case first =>
      go_region_held3 (fun w' => w'.cell? ⟨gb, 0, none⟩ = some (.bool b) ∧ w'.cell? ⟨gb, 1, none⟩ = some (.slice A n c) ∧ w'.cell? ⟨gb, 2, none⟩ = some (.slice D m e)) (go_keep)
        (first
        | (go_at_call 53; refine (spec_FormatBigInt_ok _ _ _ _ lo _ _ (h2.below (B := w2.heap.size) (Below.trans (b := _) O oldA) (Nat.le_refl _)) HO.out.1).mono ?_; rintro e' wx ⟨rfl, ox⟩; have zO := O.size; replace O : Old w2 wx := Below.trans (b := _) (Below.trans (b := _) O oldA) (Below.mono ox leA); have q0 := (O.cell (p := ⟨gb, 0, none⟩) hg).trans HQ0.out; have q1 := (O.cell (p := ⟨gb, 1, none⟩) hg).trans HQ1.out; have q2 := (O.cell (p := ⟨gb, 2, none⟩) hg).trans HQ2.out; have zx := O.size)
        | (go_at_call 54; refine (spec_FormatNat _ _ _ u _ _ (k2.below (B := w2.heap.size) (Below.trans (b := _) O oldA) (Nat.le_refl _)) hm).mono ?_; rintro e' wx ⟨rfl, ox⟩; have zO := O.size; replace O : Old w2 wx := Below.trans (b := _) (Below.trans (b := _) O oldA) (Below.mono ox leA); have q0 := (O.cell (p := ⟨gb, 0, none⟩) hg).trans HQ0.out; have q1 := (O.cell (p := ⟨gb, 1, none⟩) hg).trans HQ1.out; have q2 := (O.cell (p := ⟨gb, 2, none⟩) hg).trans HQ2.out; have zx := O.size)
        | fail)
      all_goals (go_wp2_with fail; go_meet; exact ⟨rfl, Below.trans (b := _) O oldA⟩)
    case rest =>
    obtain ⟨rfl, o6⟩ := hcut
    go_wp2
    go_ret
    exact ⟨congrArg (fun s => Ending.returned (.string s)) (HR.out).symm, Old.trans o1 (Old.trans o2 o6)⟩
set_option maxRecDepth 100000 in
set_option maxHeartbeats 8000000 in
theorem spec_FormatRat (b : Bool) (A : Option Addr) (n c lo : Nat) (f : Nat → Int) (D : Option Addr) (m e u : Nat) (g : Nat → Int) (w : World) (h : Row w lo A n c f) (k : Row w u D m e g) (hn : n ≤ 1048576) (hm : m ≤ 1048576) :
    Calls Tryz.prog 24 #[.agg #[.bool b, .slice A n c, .slice D m e]] w fun e' w' => e' = .returned (.string (rFormatRat b n f m g)) ∧ Old w w' := by
  by_cases hok : okR b n f m g
  · rw [show rFormatRat b n f m g = ratT b n f m g by unfold rFormatRat; rw [if_pos hok]]
    exact spec_FormatRat_yes b A n c lo f D m e u g w h k hok
  · have HK := Lib.hid (rRatOk_no hok)
    rw [show rFormatRat b n f m g = ByteArray.empty by unfold rFormatRat; rw [if_neg hok]]
    clear hok
    go_enter Tryz.func24, Tryz.ntmps24
    go_wp2_with fail
    refine (spec_RatOk b A n c lo f D m e u g _ (h.below (B := w.heap.size) oldA (Nat.le_refl _)) (k.below (B := w.heap.size) oldA (Nat.le_refl _)) hn hm).mono ?_
    rintro e' w1 ⟨rfl, o1⟩
    rw [HK.out]
    have B1 := Bx.old (Bx.new _ _ _) o1
    replace o1 : Old w w1 := Below.trans (b := _) oldA (Below.mono o1 leA)
    have h1 := h.below o1 (Nat.le_refl _)
    have k1 := k.below o1 (Nat.le_refl _)
    go_wp2
    go_ret
    exact ⟨rfl, o1⟩
set_option maxRecDepth 100000 in
set_option maxHeartbeats 8000000 in
theorem formatRat_any (b : Bool) (A : Option Addr) (n c lo : Nat) (f : Nat → Int) (D : Option Addr) (m e u : Nat) (g : Nat → Int) (w : World) (h : Row w lo A n c f) (k : Row w u D m e g) (hok : okR b n f m g) (K : KT w) :
    Calls Tryz.prog 29 #[.agg #[.bool b, .slice A n c, .slice D m e]] w fun e' w' => e' = .returned (.string (ratT b n f m g)) ∧ Old w w' := by
  have HO := Lib.hid hok
  have hn : n ≤ 1048576 := by have := hok.2.2.2.1; omega
  have hm : m ≤ 1048576 := by have := hok.2.2.2.2.1; omega
  clear hok
  by_cases h1n : natX m g = 1
  · have HN : Hid (decide (natX m g = 1) = true) := Lib.hid (decide_eq_true h1n)
    have HR : Hid (ratT b n f m g = bigT b n f) := Lib.hid (by unfold ratT; rw [if_pos h1n])
    clear h1n
    go_enter Tryz.func29, Tryz.ntmps29
    obtain ⟨w1, hw1⟩ : ∃ w1, w1 = w.alloc (.cells #[.bool b, .slice A n c, .slice D m e] 26) := ⟨_, rfl⟩
    have B1 : Bx w1 w.heap.size #[.bool b, .slice A n c, .slice D m e] := by rw [hw1]; exact Bx.new _ _ _
    have o1 : Old w w1 := by rw [hw1]; exact oldA
    have K1 := K.old o1
    have h1 := h.below o1 (Nat.le_refl _)
    have k1 := k.below o1 (Nat.le_refl _)
    go_upto_region 1 with fail
    rw [← hw1]
    clear hw1
    obtain ⟨gb, hgd⟩ : ∃ gb, gb = w.heap.size := ⟨_, rfl⟩
    rw [← hgd] at B1
    have HQ0 : Hid (w1.cell? ⟨gb, 0, none⟩ = some (.bool b)) := Lib.hid (B1.cell 0 rfl)
    have HQ1 : Hid (w1.cell? ⟨gb, 1, none⟩ = some (.slice A n c)) := Lib.hid (B1.cell 1 rfl)
    have HQ2 : Hid (w1.cell? ⟨gb, 2, none⟩ = some (.slice D m e)) := Lib.hid (B1.cell 2 rfl)
    have hg : gb < w1.heap.size := B1.lt
    have q0 := HQ0.out
    have q1 := HQ1.out
    have q2 := HQ2.out
    rw [← hgd]
    clear B1 hgd
    have hml := Lib.hid (okP_len HO.out.2.1).1
    have k1' : NatS w1 u D e (natX m g) := by have := k1.congr (fun j hj => (okP_len HO.out.2.1).2 j hj); unfold NatS; rw [← hml.out]; exact this
    go_wp2_with fail
    have hone := isOne_any D e (natX m g) u w1 k1'
    rw [← hml.out] at hone
    refine hone.mono ?_
    rintro e' w2 ⟨rfl, o2⟩
    rw [HN.out]
    replace HQ0 : Hid (w2.cell? ⟨gb, 0, none⟩ = some (.bool b)) := Lib.hid ((o2.cell (p := ⟨gb, 0, none⟩) hg).trans HQ0.out)
    replace HQ1 : Hid (w2.cell? ⟨gb, 1, none⟩ = some (.slice A n c)) := Lib.hid ((o2.cell (p := ⟨gb, 1, none⟩) hg).trans HQ1.out)
    replace HQ2 : Hid (w2.cell? ⟨gb, 2, none⟩ = some (.slice D m e)) := Lib.hid ((o2.cell (p := ⟨gb, 2, none⟩) hg).trans HQ2.out)
    clear q0 q1 q2
    have q0 := HQ0.out
    have q1 := HQ1.out
    have q2 := HQ2.out
    replace hg : gb < w2.heap.size := Nat.lt_of_lt_of_le hg o2.size
    have h2 := h1.below o2 (Nat.le_refl _)
    have k2 := k1.below o2 (Nat.le_refl _)
    have K2 := K1.old o2
    go_wp2_with fail
    refine (formatBig_any b A n c lo f _ h2 HO.out.1.1 K2).mono ?_
    rintro e' w3 ⟨rfl, o3⟩
    go_wp2
    go_ret
    exact ⟨congrArg (fun s => Ending.returned (.string s)) (HR.out).symm, Old.trans o1 (Old.trans o2 o3)⟩
  · have HN : Hid (decide (natX m g = 1) = false) := Lib.hid (decide_eq_false h1n)
    have HR : Hid (ratT b n f m g = bigT b n f ++ ⟨#[47]⟩ ++ rFormatNat m g) := Lib.hid (by unfold ratT; rw [if_neg h1n])
    clear h1n
    go_enter Tryz.func29, Tryz.ntmps29
    obtain ⟨w1, hw1⟩ : ∃ w1, w1 = w.alloc (.cells #[.bool b, .slice A n c, .slice D m e] 26) := ⟨_, rfl⟩
    have B1 : Bx w1 w.heap.size #[.bool b, .slice A n c, .slice D m e] := by rw [hw1]; exact Bx.new _ _ _
    have o1 : Old w w1 := by rw [hw1]; exact oldA
    have K1 := K.old o1
    have h1 := h.below o1 (Nat.le_refl _)
    have k1 := k.below o1 (Nat.le_refl _)
    go_upto_region 1 with fail
    rw [← hw1]
    clear hw1
    obtain ⟨gb, hgd⟩ : ∃ gb, gb = w.heap.size := ⟨_, rfl⟩
    rw [← hgd] at B1
    have HQ0 : Hid (w1.cell? ⟨gb, 0, none⟩ = some (.bool b)) := Lib.hid (B1.cell 0 rfl)
    have HQ1 : Hid (w1.cell? ⟨gb, 1, none⟩ = some (.slice A n c)) := Lib.hid (B1.cell 1 rfl)
    have HQ2 : Hid (w1.cell? ⟨gb, 2, none⟩ = some (.slice D m e)) := Lib.hid (B1.cell 2 rfl)
    have hg : gb < w1.heap.size := B1.lt
    have q0 := HQ0.out
    have q1 := HQ1.out
    have q2 := HQ2.out
    rw [← hgd]
    clear B1 hgd
    have hml := Lib.hid (okP_len HO.out.2.1).1
    have k1' : NatS w1 u D e (natX m g) := by have := k1.congr (fun j hj => (okP_len HO.out.2.1).2 j hj); unfold NatS; rw [← hml.out]; exact this
    go_wp2_with fail
    have hone := isOne_any D e (natX m g) u w1 k1'
    rw [← hml.out] at hone
    refine hone.mono ?_
    rintro e' w2 ⟨rfl, o2⟩
    rw [HN.out]
    replace HQ0 : Hid (w2.cell? ⟨gb, 0, none⟩ = some (.bool b)) := Lib.hid ((o2.cell (p := ⟨gb, 0, none⟩) hg).trans HQ0.out)
    replace HQ1 : Hid (w2.cell? ⟨gb, 1, none⟩ = some (.slice A n c)) := Lib.hid ((o2.cell (p := ⟨gb, 1, none⟩) hg).trans HQ1.out)
    replace HQ2 : Hid (w2.cell? ⟨gb, 2, none⟩ = some (.slice D m e)) := Lib.hid ((o2.cell (p := ⟨gb, 2, none⟩) hg).trans HQ2.out)
    clear q0 q1 q2
    have q0 := HQ0.out
    have q1 := HQ1.out
    have q2 := HQ2.out
    replace hg : gb < w2.heap.size := Nat.lt_of_lt_of_le hg o2.size
    have h2 := h1.below o2 (Nat.le_refl _)
    have k2 := k1.below o2 (Nat.le_refl _)
    have K2 := K1.old o2
    have sb := bigT_size b n f
    have sn := rFormatNat_size m g
    have sc := slash_size (bigT b n f) sb
    have sn1 : ¬ 9223372036854775807 < (bigT b n f).size + 1 := by omega
    have sn2 : ¬ 9223372036854775807 < (bigT b n f ++ ⟨#[47]⟩).size + (rFormatNat m g).size := by omega
    have sn3 : ¬ 9223372036854775807 < (bigT b n f).size + 1 + (rFormatNat m g).size := by omega
    have O := Old.refl w2
    go_upto_region 3 with fail
    go_cut [2] (fun sl wx => sl = .string (bigT b n f ++ ⟨#[47]⟩ ++ rFormatNat m g) ∧ Old w2 wx)
    case first =>
      go_region_held3 (fun w' => w'.cell? ⟨gb, 0, none⟩ = some (.bool b) ∧ w'.cell? ⟨gb, 1, none⟩ = some (.slice A n c) ∧ w'.cell? ⟨gb, 2, none⟩ = some (.slice D m e)) (go_keep)
        (first
        | (go_at_call 63; refine (formatBig_any _ _ _ _ lo _ _ (h2.below (B := w2.heap.size) (Below.trans (b := _) O oldA) (Nat.le_refl _)) HO.out.1.1 (K2.old (Below.trans (b := _) O oldA))).mono ?_; rintro e' wx ⟨rfl, ox⟩; have zO := O.size; replace O : Old w2 wx := Below.trans (b := _) (Below.trans (b := _) O oldA) (Below.mono ox leA); have q0 := (O.cell (p := ⟨gb, 0, none⟩) hg).trans HQ0.out; have q1 := (O.cell (p := ⟨gb, 1, none⟩) hg).trans HQ1.out; have q2 := (O.cell (p := ⟨gb, 2, none⟩) hg).trans HQ2.out; have zx := O.size)
        | (go_at_call 64; refine (formatNat_any _ _ _ u _ _ (k2.below (B := w2.heap.size) (Below.trans (b := _) O oldA) (Nat.le_refl _)) HO.out.2.1 (K2.old (Below.trans (b := _) O oldA))).mono ?_; rintro e' wx ⟨rfl, ox⟩; have zO := O.size; replace O : Old w2 wx := Below.trans (b := _) (Below.trans (b := _) O oldA) (Below.mono ox leA); have q0 := (O.cell (p := ⟨gb, 0, none⟩) hg).trans HQ0.out; have q1 := (O.cell (p := ⟨gb, 1, none⟩) hg).trans HQ1.out; have q2 := (O.cell (p := ⟨gb, 2, none⟩) hg).trans HQ2.out; have zx := O.size)
        | fail)
      all_goals (go_wp2_with fail; go_meet; exact ⟨rfl, Below.trans (b := _) O oldA⟩)
    case rest =>
    obtain ⟨rfl, o6⟩ := hcut
    go_wp2
    go_ret
    exact ⟨congrArg (fun s => Ending.returned (.string s)) (HR.out).symm, Old.trans o1 (Old.trans o2 o6)⟩
set_option maxRecDepth 100000 in
set_option maxHeartbeats 8000000 in
theorem impl_FormatRat (b : Bool) (A : Option Addr) (n c lo : Nat) (f : Nat → Int) (D : Option Addr) (m e u : Nat) (g : Nat → Int) (w : World) (h : Row w lo A n c f) (k : Row w u D m e g) (hn : n ≤ 1048576) (hm : m ≤ 1048576) (K : KT w) :
    Calls Tryz.prog 11 #[.agg #[.bool b, .slice A n c, .slice D m e]] w fun e' w' => e' = .returned (.string (rFormatRat b n f m g)) ∧ Old w w' := by
  by_cases hok : okR b n f m g
  · have HK := Lib.hid (rRatOk_yes hok)
    rw [show rFormatRat b n f m g = ratT b n f m g by unfold rFormatRat; rw [if_pos hok]]
    have HO := Lib.hid hok
    clear hok
    go_enter Tryz.func11, Tryz.ntmps11
    go_wp2_with fail
    refine (impl_RatOk b A n c lo f D m e u g _ (h.below (B := w.heap.size) oldA (Nat.le_refl _)) (k.below (B := w.heap.size) oldA (Nat.le_refl _)) hn hm).mono ?_
    rintro e' w1 ⟨rfl, o1⟩
    rw [HK.out]
    have B1 := Bx.old (Bx.new _ _ _) o1
    replace o1 : Old w w1 := Below.trans (b := _) oldA (Below.mono o1 leA)
    have h1 := h.below o1 (Nat.le_refl _)
    have k1 := k.below o1 (Nat.le_refl _)
    have q0 : w1.cell? ⟨w.heap.size, 0, none⟩ = some (.bool b) := B1.cell 0 rfl
    have q1 : w1.cell? ⟨w.heap.size, 1, none⟩ = some (.slice A n c) := B1.cell 1 rfl
    have q2 : w1.cell? ⟨w.heap.size, 2, none⟩ = some (.slice D m e) := B1.cell 2 rfl
    have qg := B1.lt
    clear B1
    go_wp2_with fail
    refine (formatRat_any b A n c lo f D m e u g _ h1 k1 HO.out (K.old o1)).mono ?_
    rintro e' w2 ⟨rfl, o2⟩
    go_wp2
    go_ret
    exact ⟨rfl, Old.trans o1 o2⟩
  · have HK := Lib.hid (rRatOk_no hok)
    rw [show rFormatRat b n f m g = ByteArray.empty by unfold rFormatRat; rw [if_neg hok]]
    clear hok
    go_enter Tryz.func11, Tryz.ntmps11
    go_wp2_with fail
    refine (impl_RatOk b A n c lo f D m e u g _ (h.below (B := w.heap.size) oldA (Nat.le_refl _)) (k.below (B := w.heap.size) oldA (Nat.le_refl _)) hn hm).mono ?_
    rintro e' w1 ⟨rfl, o1⟩
    rw [HK.out]
    have B1 := Bx.old (Bx.new _ _ _) o1
    replace o1 : Old w w1 := Below.trans (b := _) oldA (Below.mono o1 leA)
    have h1 := h.below o1 (Nat.le_refl _)
    have k1 := k.below o1 (Nat.le_refl _)
    go_wp2
    go_ret
    exact ⟨rfl, o1⟩
end Go.Proofs.YtgchbbjhdeobpaaGreatDoor
