import Derived.Test.YtgchbbjhdeobpaaDoorMakeNat
import Derived.Test.YtgchbbjhdeobpaaDoorGcd
import Derived.Test.YtgchbbjhdeobpaaDoorDecLaw
import Derived.Test.YtgchbbjhdeobpaaDoorBigTxt
/-
  Natural numbers by values: what the law FnNats wants.
-/
namespace Go.Proofs.YtgchbbjhdeobpaaDoor
set_option linter.unusedVariables false
open Go.RowKit Num
theorem BRd.lift {w : World} {lim lim' : Nat} {A : Option Addr} {n c : Nat} (h : BRd w lim A n c) (hl : lim ≤ lim') : BRd w lim' A n c := by
  refine ⟨h.1, h.2.1, fun hn => ?_⟩
  obtain ⟨b, off, e, hs, hb, hc⟩ := h.2.2 hn
  exact ⟨b, off, e, hs, by omega, hc⟩
/-- A digit that is not 0 behind a number's digits. -/
theorem snoc_nat (y d : Nat) (h0 : 0 < d) (hd : d < B) : ∃ b, digs y ++ [d] = digs b ∧ len b = len y + 1 ∧ 0 < b := by
  have hall : ∀ u ∈ digs y ++ [d], u < B := by
    intro u hu
    rcases List.mem_append.1 hu with hu | hu
    · unfold digs low at hu
      obtain ⟨i, _, rfl⟩ := List.mem_map.1 hu
      exact dig_lt _ _
    · rw [List.mem_singleton.1 hu]; exact hd
  have e := digs_of_list hall (fun _ => by
    rw [List.length_append, List.length_singleton, Nat.add_sub_cancel, List.getD_eq_getElem?_getD, List.getElem?_append_right (Nat.le_refl _), Nat.sub_self]
    show ¬ d = 0
    omega)
  have hl : len (val (digs y ++ [d])) = len y + 1 := by
    rw [← digs_length, ← e, List.length_append, digs_length, List.length_singleton]
  exact ⟨_, e, hl, pos_len (by omega)⟩
theorem rfmt_nat {x : Nat} (h : len x ≤ 60) : rParseNat (rFormatNat (len x) (digI x)) = x ∧ rParseNat1 (rFormatNat (len x) (digI x)) = true := parse_format h
theorem rcmp_nat {x y : Nat} (hx : len x ≤ 60) (hy : len y ≤ 60) : rNatCmp (len x) (digI x) (len y) (digI y) = cmpN x y := by
  unfold rNatCmp; rw [both_yes (okP_of hx) (okP_of hy), natX_digI hx, natX_digI hy]
theorem radd_nat {x y : Nat} (hx : len x ≤ 60) (hy : len y ≤ 60) : rNatAdd (len x) (digI x) (len y) (digI y) = capN (x + y) := by
  unfold rNatAdd; rw [both_yes (okP_of hx) (okP_of hy), natX_digI hx, natX_digI hy]
theorem rmul_nat {x y : Nat} (hx : len x ≤ 60) (hy : len y ≤ 60) : rNatMul (len x) (digI x) (len y) (digI y) = capN (x * y) := by
  unfold rNatMul; rw [both_yes (okP_of hx) (okP_of hy), natX_digI hx, natX_digI hy]
/-! the contracts by values -/
theorem natCmp_v (A1 A2 : Option Addr) (c1 c2 x y lo1 lo2 : Nat) (r : Int) (w : World) (h1 : NatS w lo1 A1 c1 x) (h2 : NatS w lo2 A2 c2 y) (hx : len x ≤ 60) (hy : len y ≤ 60) (hr : cmpN x y = r) :
    Calls Tryd.prog 9 #[.slice A1 (len x) c1, .slice A2 (len y) c2] w fun e w' => e = .returned (.int .i64 r) ∧ Old w w' := by
  have h := impl_NatCmp A1 A2 (len x) (len y) c1 c2 lo1 lo2 (digI x) (digI y) w h1 h2 (by omega) (by omega)
  rw [rcmp_nat hx hy, hr] at h
  exact h
theorem natAdd_v (A1 A2 : Option Addr) (c1 c2 x y lo1 lo2 r : Nat) (w : World) (h1 : NatS w lo1 A1 c1 x) (h2 : NatS w lo2 A2 c2 y) (hx : len x ≤ 60) (hy : len y ≤ 60) (hr : x + y = r) (hl : len r ≤ 60) :
    Calls Tryd.prog 10 #[.slice A1 (len x) c1, .slice A2 (len y) c2] w fun e w' => RetN e w' w.heap.size r ∧ Old w w' := by
  have h := impl_NatAdd A1 A2 (len x) (len y) c1 c2 lo1 lo2 (digI x) (digI y) w h1 h2 (by omega) (by omega)
  rw [radd_nat hx hy, hr, show capN r = r from if_pos hl] at h
  exact h
theorem natMul_v (A1 A2 : Option Addr) (c1 c2 x y lo1 lo2 r : Nat) (w : World) (h1 : NatS w lo1 A1 c1 x) (h2 : NatS w lo2 A2 c2 y) (hx : len x ≤ 60) (hy : len y ≤ 60) (hr : x * y = r) (hl : len r ≤ 60) :
    Calls Tryd.prog 11 #[.slice A1 (len x) c1, .slice A2 (len y) c2] w fun e w' => RetN e w' w.heap.size r ∧ Old w w' := by
  have h := impl_NatMul A1 A2 (len x) (len y) c1 c2 lo1 lo2 (digI x) (digI y) w h1 h2 (by omega) (by omega)
  rw [rmul_nat hx hy, hr, show capN r = r from if_pos hl] at h
  exact h
theorem natGcd_v (A1 A2 : Option Addr) (c1 c2 x y lo1 lo2 r : Nat) (w : World) (h1 : NatS w lo1 A1 c1 x) (h2 : NatS w lo2 A2 c2 y) (hx : len x ≤ 60) (hy : len y ≤ 60) (hr : Nat.gcd x y = r) :
    Calls Tryd.prog 12 #[.slice A1 (len x) c1, .slice A2 (len y) c2] w fun e w' => RetN e w' w.heap.size r ∧ Old w w' := by
  subst hr
  exact impl_NatGcd_yes A1 A2 c1 c2 x y lo1 lo2 w h1 h2 hx hy
theorem natDiv_v (A1 A2 : Option Addr) (c1 c2 x y lo1 lo2 q r : Nat) (w : World) (h1 : NatS w lo1 A1 c1 x) (h2 : NatS w lo2 A2 c2 y) (hx : len x ≤ 60) (hy : len y ≤ 60) (h0 : 0 < y) (hq : x / y = q) (hr : x % y = r) :
    Calls Tryd.prog 6 #[.slice A1 (len x) c1, .slice A2 (len y) c2] w fun e w' => RetQA e w' w.heap.size q r ∧ Old w w' := by
  subst hq
  subst hr
  exact impl_NatDiv_yes A1 A2 c1 c2 x y lo1 lo2 w h1 h2 hx hy h0
theorem parseNat_v (s : ByteArray) (x : Nat) (w : World) (b : s.size ≤ maxLen) (h : rParseNat s = x ∧ rParseNat1 s = true) :
    Calls Tryd.prog 7 #[.string s] w fun e w' => RetNB e w' w.heap.size x true ∧ Old w w' := by
  have hh := impl_ParseNat s w b
  rw [h.1, h.2] at hh
  exact hh
end Go.Proofs.YtgchbbjhdeobpaaDoor
