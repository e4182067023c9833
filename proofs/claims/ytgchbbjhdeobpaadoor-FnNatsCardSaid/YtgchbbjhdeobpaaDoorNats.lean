import Derived.Test.YtgchbbjhdeobpaaDoorNatsV
/-
  The walk of the law FnNats.
-/
namespace Go.Proofs.YtgchbbjhdeobpaaDoor
set_option linter.unusedVariables false
open Go.RowKit Num
set_option maxRecDepth 100000 in
set_option maxHeartbeats 8000000 in
theorem walkNats (A : Option Addr) (n c : Nat) (w : World) (hb : n ≤ 1048576 → BRd w w.heap.size A n c) (hn : n ≤ 9223372036854775807) (KT_ : KT w) :
    Calls Tryd.prog 3 #[.slice A n c] w fun e w' => e = .returned (.bool true) ∧ Old w w' := by
  by_cases hl : n ≤ 1048576
  · have HB := hb hl
    clear hb
    go_enter Tryd.func3, Tryd.ntmps3
    go_wp2_with fail
    refine (makeNat_0 A n c _ HB).mono ?_
    rintro e w1 ⟨x, v, rfl, hx, own1, o1⟩
    obtain ⟨A1, c1, rfl, R1⟩ := own_nat own1
    have HB1 := (HB.old o1).lift o1.size
    clear own1 HB
    go_wp2_with fail
    refine (makeNat_1 A n c _ HB1).mono ?_
    rintro e w2 ⟨y, v, rfl, hy, own2, o2⟩
    have z2 := o2.size
    go_wp2_with (at_builtin; refine wpList_app1 (d := 5) rfl (.tmp 15) (.tmp 16) rfl rfl (own2.alloc _) rfl (cell_new1 _ _ _) ?hq ?hn ?hsz ?_; (case hq => rfl); (case hn => omega); (case hsz => simp; omega); intro v2 w3 own3 b3)
    obtain ⟨b, eb, lb, pb⟩ := snoc_nat y 5 (by omega) (by rw [B_eq]; omega)
    rw [eb, ← lb] at own3
    obtain ⟨A2, c2, rfl, R2⟩ := own_nat own3
    have o3 : Old w1 w3 := Below.trans (b := _) (Below.trans o2 oldA) b3
    replace R1 := NatS.below R1 o3
    have O3 := Old.trans o1 o3
    have lx : len x ≤ 60 := by omega
    have lb2 : len b ≤ 60 := by omega
    clear own2 own3 b3 o2 eb HB1 lb
    obtain ⟨q, hq⟩ : ∃ q, x / b = q := ⟨_, rfl⟩
    obtain ⟨r, hr⟩ : ∃ r, x % b = r := ⟨_, rfl⟩
    obtain ⟨m, hm⟩ : ∃ m, q * b = m := ⟨_, rfl⟩
    have hmr : m + r = x := by rw [← hm, ← hq, ← hr, Nat.mul_comm]; exact Nat.div_add_mod x b
    have hrb : r < b := by rw [← hr]; exact Nat.mod_lt _ pb
    have lq : len q ≤ 60 := by have := div_len x b; rw [hq] at this; omega
    have lr : len r ≤ 60 := by have := len_mono (Nat.le_of_lt hrb); omega
    have lm : len m ≤ 60 := by have := len_mono (show m ≤ x by omega); omega
    obtain ⟨g, hg⟩ : ∃ g, Nat.gcd x b = g := ⟨_, rfl⟩
    have hg2 : Nat.gcd b x = g := by rw [Nat.gcd_comm]; exact hg
    have lg : len g ≤ 60 := by rw [← hg]; exact gcd_len lx lb2
    have HQ := Lib.hid hq
    have HR := Lib.hid hr
    have HM := Lib.hid hm
    have HMR := Lib.hid hmr
    have HG := Lib.hid hg
    have HG2 := Lib.hid hg2
    have C1 := Lib.hid (cmpN_eq (x := x) (y := x) rfl)
    have C2 := Lib.hid (cmpN_lt hrb)
    have C3 := Lib.hid (cmpN_eq (x := g) (y := g) rfl)
    have HF := Lib.hid (rfmt_nat lx)
    have hsz := rFormatNat_size (len x) (digI x)
    have hsm : (rFormatNat (len x) (digI x)).size ≤ maxLen := by unfold maxLen; omega
    clear hq hr hm hmr hrb hg hg2
    go_wp2_with fail
    refine (natDiv_v A1 A2 c1 c2 x b _ _ q r _ R1 R2 lx lb2 pb HQ.out HR.out).mono ?_
    rintro e w4 ⟨⟨A4, c4, A5, c5, rfl, R4, R5, _⟩, o4⟩
    replace R1 := NatS.below R1 o4
    replace R2 := NatS.below R2 o4
    have O4 := Old.trans O3 o4
    clear O3 o4
    go_wp2_with fail
    refine (impl_FormatNat A1 (len x) c1 _ (digI x) _ R1 (by omega) (KT_.old O4)).mono ?_
    rintro e w5 ⟨rfl, o5⟩
    replace R1 := NatS.below R1 o5
    replace R2 := NatS.below R2 o5
    replace R4 := NatS.below R4 o5
    replace R5 := NatS.below R5 o5
    have O5 := Old.trans O4 o5
    clear O4 o5
    go_wp2_with fail
    refine (parseNat_v (rFormatNat (len x) (digI x)) x _ hsm HF.out).mono ?_
    rintro e w6 ⟨⟨A6, c6, rfl, R6⟩, o6⟩
    replace R1 := NatS.below R1 o6
    replace R2 := NatS.below R2 o6
    replace R4 := NatS.below R4 o6
    replace R5 := NatS.below R5 o6
    have O6 := Old.trans O5 o6
    clear O5 o6
    go_wp2_with fail
    refine (natCmp_v A6 A1 c6 c1 x x _ _ 0 _ R6 R1 lx lx C1.out).mono ?_
    rintro e w7 ⟨rfl, o7⟩
    replace R1 := NatS.below R1 o7
    replace R2 := NatS.below R2 o7
    replace R4 := NatS.below R4 o7
    replace R5 := NatS.below R5 o7
    have O7 := Old.trans O6 o7
    clear O6 o7 R6
    go_wp2_with fail
    refine (natMul_v A4 A2 c4 c2 q b _ _ m _ R4 R2 lq lb2 HM.out lm).mono ?_
    rintro e w8 ⟨⟨A8, c8, rfl, R8⟩, o8⟩
    replace R1 := NatS.below R1 o8
    replace R2 := NatS.below R2 o8
    replace R5 := NatS.below R5 o8
    have O8 := Old.trans O7 o8
    clear O7 o8 R4
    go_wp2_with fail
    refine (natAdd_v A8 A5 c8 c5 m r _ _ x _ R8 R5 lm lr HMR.out lx).mono ?_
    rintro e w9 ⟨⟨A9, c9, rfl, R9⟩, o9⟩
    replace R1 := NatS.below R1 o9
    replace R2 := NatS.below R2 o9
    replace R5 := NatS.below R5 o9
    have O9 := Old.trans O8 o9
    clear O8 o9 R8
    go_wp2_with fail
    refine (natCmp_v A9 A1 c9 c1 x x _ _ 0 _ R9 R1 lx lx C1.out).mono ?_
    rintro e w10 ⟨rfl, o10⟩
    replace R1 := NatS.below R1 o10
    replace R2 := NatS.below R2 o10
    replace R5 := NatS.below R5 o10
    have O10 := Old.trans O9 o10
    clear O9 o10 R9
    go_wp2_with fail
    refine (natCmp_v A5 A2 c5 c2 r b _ _ (-1) _ R5 R2 lr lb2 C2.out).mono ?_
    rintro e w11 ⟨rfl, o11⟩
    replace R1 := NatS.below R1 o11
    replace R2 := NatS.below R2 o11
    have O11 := Old.trans O10 o11
    clear O10 o11 R5
    go_wp2_with fail
    refine (natGcd_v A1 A2 c1 c2 x b _ _ g _ R1 R2 lx lb2 HG.out).mono ?_
    rintro e w12 ⟨⟨A12, c12, rfl, R12⟩, o12⟩
    replace R1 := NatS.below R1 o12
    replace R2 := NatS.below R2 o12
    have O12 := Old.trans O11 o12
    clear O11 o12
    go_wp2_with fail
    refine (natGcd_v A2 A1 c2 c1 b x _ _ g _ R2 R1 lb2 lx HG2.out).mono ?_
    rintro e w13 ⟨⟨A13, c13, rfl, R13⟩, o13⟩
    replace R12 := NatS.below R12 o13
    have O13 := Old.trans O12 o13
    clear O12 o13 R1 R2
    go_wp2_with fail
    refine (natCmp_v A12 A13 c12 c13 g g _ _ 0 _ R12 R13 lg lg C3.out).mono ?_
    rintro e w14 ⟨rfl, o14⟩
    have O14 := Old.trans O13 o14
    go_wp2
    go_ret
    exact ⟨rfl, O14⟩
  · go_enter Tryd.func3, Tryd.ntmps3
    go_wp2
    go_ret
    exact ⟨rfl, oldA⟩
end Go.Proofs.YtgchbbjhdeobpaaDoor
