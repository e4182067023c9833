import Derived.Test.YtkoebpoejafgnaaDoorInt
import Derived.Test.YtkoebpoejafgnaaDoorVec
import Derived.Test.YtkoebpoejafgnaaDoorBoxes
/-
  Vectors as texts: both FormatVec's.
-/
namespace Go.Proofs.YtkoebpoejafgnaaDoor
set_option linter.unusedVariables false
open Go.RowKit
open Classical in
noncomputable def rFormatVec (x y : Int) : ByteArray := if rIsValidVec x y = true then rFormatInt x ++ ⟨#[44]⟩ ++ rFormatInt y else ByteArray.empty
theorem comma_size (a : ByteArray) (h : a.size ≤ 21) : (a ++ ⟨#[44]⟩).size ≤ 22 := by
  rw [ByteArray.size_append]
  have : (⟨#[44]⟩ : ByteArray).size = 1 := rfl
  omega
set_option maxRecDepth 100000 in
set_option maxHeartbeats 1000000 in
theorem spec_FormatVec (x y : Int) (w : World) (bx : -9223372036854775808 ≤ x ∧ x ≤ 9223372036854775807) (by_ : -9223372036854775808 ≤ y ∧ y ≤ 9223372036854775807) :
    Calls Tryd.prog 22 #[.agg #[.int .i64 x, .int .i64 y]] w fun e w' => e = .returned (.string (rFormatVec x y)) ∧ Old w w' := by
  by_cases h : rIsValidVec x y = true
  · have HV := Lib.hid h
    have HR : Hid (rFormatVec x y = rFormatInt x ++ ⟨#[44]⟩ ++ rFormatInt y) := Lib.hid (by unfold rFormatVec; rw [if_pos h])
    clear h
    go_enter Tryd.func22, Tryd.ntmps22
    go_wp2_with fail
    refine (spec_IsValidVec x y _ bx by_).mono ?_
    rintro e w1 ⟨rfl, o1⟩
    have B := Bx.old (Bx.new _ _ _) o1
    replace o1 : Old w w1 := Below.trans (b := _) oldA (Below.mono o1 leA)
    rw [HV.out]
    obtain ⟨g, hgd⟩ : ∃ g, g = w.heap.size := ⟨_, rfl⟩
    have HQ0 : Hid (w1.cell? ⟨g, 0, none⟩ = some (.int .i64 x)) := Lib.hid (by rw [hgd]; exact B.cell 0 rfl)
    have HQ1 : Hid (w1.cell? ⟨g, 1, none⟩ = some (.int .i64 y)) := Lib.hid (by rw [hgd]; exact B.cell 1 rfl)
    have hg : g < w1.heap.size := by rw [hgd]; exact B.lt
    have q0 := HQ0.out
    have q1 := HQ1.out
    rw [← hgd]
    clear B hgd
    have O := Old.refl w1
    have sx := rFormatInt_size x bx.1 bx.2
    have sy := rFormatInt_size y by_.1 by_.2
    have sc := comma_size (rFormatInt x) sx
    have sn1 : ¬ 9223372036854775807 < (rFormatInt x).size + 1 := by omega
    have sn2 : ¬ 9223372036854775807 < (rFormatInt x ++ ⟨#[44]⟩).size + (rFormatInt y).size := by omega
    have sn3 : ¬ 9223372036854775807 < (rFormatInt x).size + 1 + (rFormatInt y).size := by omega
    go_upto_region 3 with fail
    go_cut [2] (fun sl wx => sl = .string (rFormatInt x ++ ⟨#[44]⟩ ++ rFormatInt y) ∧ Old w1 wx)
    case first =>
      go_region_held3 (fun w' => w'.cell? ⟨g, 0, none⟩ = some (.int .i64 x) ∧ w'.cell? ⟨g, 1, none⟩ = some (.int .i64 y)) (go_keep)
        (first
        | (go_at_call 20; refine (spec_FormatInt _ _ (by first | exact bx | exact by_)).mono ?_; rintro e wx ⟨rfl, ox⟩; have zO := O.size; replace O : Old w1 wx := Below.trans (b := _) (Below.trans (b := _) O oldA) (Below.mono ox leA); have q0 := (O.cell (p := ⟨g, 0, none⟩) hg).trans HQ0.out; have q1 := (O.cell (p := ⟨g, 1, none⟩) hg).trans HQ1.out; have zx := O.size)
        | fail)
      all_goals (go_wp2_with fail; go_meet; exact ⟨rfl, Below.trans (b := _) O oldA⟩)
    case rest =>
    obtain ⟨rfl, o6⟩ := hcut
    go_wp2
    go_ret
    exact ⟨congrArg (fun s => Ending.returned (.string s)) HR.out.symm, Old.trans o1 o6⟩
  · have HV : Hid (rIsValidVec x y = false) := Lib.hid (by simpa using h)
    have HR : Hid (rFormatVec x y = ByteArray.empty) := Lib.hid (by unfold rFormatVec; rw [if_neg h])
    clear h
    go_enter Tryd.func22, Tryd.ntmps22
    go_wp2_with fail
    refine (spec_IsValidVec x y _ bx by_).mono ?_
    rintro e w1 ⟨rfl, o1⟩
    rw [HV.out]
    replace o1 : Old w w1 := Below.trans (b := _) oldA (Below.mono o1 leA)
    go_wp2
    go_ret
    exact ⟨by rw [HR.out]; rfl, o1⟩
set_option maxRecDepth 100000 in
set_option maxHeartbeats 1000000 in
theorem formatVec_any (x y : Int) (w : World) (bx : -9223372036854775808 ≤ x ∧ x ≤ 9223372036854775807) (by_ : -9223372036854775808 ≤ y ∧ y ≤ 9223372036854775807) (K : KT w) :
    Calls Tryd.prog 73 #[.agg #[.int .i64 x, .int .i64 y]] w fun e w' => e = .returned (.string (rFormatInt x ++ ⟨#[44]⟩ ++ rFormatInt y)) ∧ Old w w' := by
  go_enter Tryd.func73, Tryd.ntmps73
  obtain ⟨w1, hw1⟩ : ∃ w1, w1 = w.alloc (.cells #[.int .i64 x, .int .i64 y] 44) := ⟨_, rfl⟩
  have B : Bx w1 w.heap.size #[.int .i64 x, .int .i64 y] := by rw [hw1]; exact Bx.new _ _ _
  have o1 : Old w w1 := by rw [hw1]; exact oldA
  have K1 := K.old o1
  go_upto_region 1 with fail
  rw [← hw1]
  clear hw1
  obtain ⟨g, hgd⟩ : ∃ g, g = w.heap.size := ⟨_, rfl⟩
  have HQ0 : Hid (w1.cell? ⟨g, 0, none⟩ = some (.int .i64 x)) := Lib.hid (by rw [hgd]; exact B.cell 0 rfl)
  have HQ1 : Hid (w1.cell? ⟨g, 1, none⟩ = some (.int .i64 y)) := Lib.hid (by rw [hgd]; exact B.cell 1 rfl)
  have hg : g < w1.heap.size := by rw [hgd]; exact B.lt
  have q0 := HQ0.out
  have q1 := HQ1.out
  rw [← hgd]
  clear B hgd
  have O := Old.refl w1
  have sx := rFormatInt_size x bx.1 bx.2
  have sy := rFormatInt_size y by_.1 by_.2
  have sc := comma_size (rFormatInt x) sx
  have sn1 : ¬ 9223372036854775807 < (rFormatInt x).size + 1 := by omega
  have sn2 : ¬ 9223372036854775807 < (rFormatInt x ++ ⟨#[44]⟩).size + (rFormatInt y).size := by omega
  have sn3 : ¬ 9223372036854775807 < (rFormatInt x).size + 1 + (rFormatInt y).size := by omega
  go_cut [2] (fun sl wx => sl = .string (rFormatInt x ++ ⟨#[44]⟩ ++ rFormatInt y) ∧ Old w1 wx)
  case first =>
    go_region_held3 (fun w' => w'.cell? ⟨g, 0, none⟩ = some (.int .i64 x) ∧ w'.cell? ⟨g, 1, none⟩ = some (.int .i64 y)) (go_keep)
      (first
      | (go_at_call 21; refine (impl_FormatInt _ _ (by first | exact bx | exact by_) (K1.old (Below.trans (b := _) O oldA))).mono ?_; rintro e wx ⟨rfl, ox⟩; have zO := O.size; replace O : Old w1 wx := Below.trans (b := _) (Below.trans (b := _) O oldA) (Below.mono ox leA); have q0 := (O.cell (p := ⟨g, 0, none⟩) hg).trans HQ0.out; have q1 := (O.cell (p := ⟨g, 1, none⟩) hg).trans HQ1.out; have zx := O.size)
      | fail)
    all_goals (go_wp2_with fail; go_meet; exact ⟨rfl, Below.trans (b := _) O oldA⟩)
  case rest =>
  obtain ⟨rfl, o6⟩ := hcut
  go_wp2
  go_ret
  exact ⟨rfl, Old.trans o1 o6⟩
set_option maxRecDepth 100000 in
set_option maxHeartbeats 1000000 in
theorem impl_FormatVec (x y : Int) (w : World) (bx : -9223372036854775808 ≤ x ∧ x ≤ 9223372036854775807) (by_ : -9223372036854775808 ≤ y ∧ y ≤ 9223372036854775807) (K : KT w) :
    Calls Tryd.prog 24 #[.agg #[.int .i64 x, .int .i64 y]] w fun e w' => e = .returned (.string (rFormatVec x y)) ∧ Old w w' := by
  by_cases h : rIsValidVec x y = true
  · have HV := Lib.hid h
    have HR : Hid (rFormatVec x y = rFormatInt x ++ ⟨#[44]⟩ ++ rFormatInt y) := Lib.hid (by unfold rFormatVec; rw [if_pos h])
    clear h
    go_enter Tryd.func24, Tryd.ntmps24
    go_wp2_with fail
    refine (isVec_any x y _).mono ?_
    rintro e w1 ⟨rfl, o1⟩
    have B := Bx.old (Bx.new _ _ _) o1
    have q0 := B.cell 0 rfl
    have q1 := B.cell 1 rfl
    have qg := B.lt
    replace o1 : Old w w1 := Below.trans (b := _) oldA (Below.mono o1 leA)
    rw [HV.out]
    go_wp2_with fail
    refine (formatVec_any x y _ bx by_ (K.old o1)).mono ?_
    rintro e w2 ⟨rfl, o2⟩
    go_wp2
    go_ret
    exact ⟨congrArg (fun s => Ending.returned (.string s)) HR.out.symm, Old.trans o1 o2⟩
  · have HV : Hid (rIsValidVec x y = false) := Lib.hid (by simpa using h)
    have HR : Hid (rFormatVec x y = ByteArray.empty) := Lib.hid (by unfold rFormatVec; rw [if_neg h])
    clear h
    go_enter Tryd.func24, Tryd.ntmps24
    go_wp2_with fail
    refine (isVec_any x y _).mono ?_
    rintro e w1 ⟨rfl, o1⟩
    rw [HV.out]
    replace o1 : Old w w1 := Below.trans (b := _) oldA (Below.mono o1 leA)
    go_wp2
    go_ret
    exact ⟨by rw [HR.out]; rfl, o1⟩
end Go.Proofs.YtkoebpoejafgnaaDoor
