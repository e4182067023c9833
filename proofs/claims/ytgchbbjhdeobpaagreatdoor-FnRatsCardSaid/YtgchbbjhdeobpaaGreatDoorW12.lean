import Derived.BigQuiet
import Derived.ChangeOld
import Derived.Deep.DeepCutAuto
import Derived.Deep.OwnRows
import Derived.Deep.QuietTactic
import Derived.Deep.Upon
import Derived.IntWalk
import Derived.JoinedOf
import Derived.KernelRfl
import Derived.Laws.FloatArith
import Derived.Lib.Hide
import Derived.Lib.SmallJoins
import Derived.OpenShut
import Derived.ProofKit
import Derived.ShutString
import Derived.Test.YtgchbbjhdeobpaaGreatDoorRows
import Derived.WalkKit
import Derived.WalkLawsBesides
import Derived.WalkSpells
import Ieee.Arith
import Derived.Test.YtgchbbjhdeobpaaGreatDoorW1
import Derived.Test.YtgchbbjhdeobpaaGreatDoorW2
import Derived.Test.YtgchbbjhdeobpaaGreatDoorW3
import Derived.Test.YtgchbbjhdeobpaaGreatDoorW4
import Derived.Test.YtgchbbjhdeobpaaGreatDoorW5
import Derived.Test.YtgchbbjhdeobpaaGreatDoorW9
/- What the claim's proof reaches of: Digit, NatDiv3, Gcd. -/
namespace Go.Proofs.YtgchbbjhdeobpaaGreatDoor
set_option linter.unusedVariables false
open Go.RowKit Num

theorem fl_int (n : Nat) (h : n ≤ 999999999) : Flo.Fl (floatOfInt .f64 (n : Int)) n 1 := by
  have e : floatOfInt .f64 (n : Int) = Ieee.double.nearest false n 0 := by
    unfold floatOfInt FloatKind.nearest FloatKind.encode
    have hd : decide ((n : Int) < 0) = false := decide_eq_false (by omega)
    rw [hd, Int.natAbs_natCast]
    rfl
  rw [e]
  exact Flo.fl_of n (Nat.lt_of_le_of_lt h (by decide))
theorem fl_base : Flo.Fl 4741671816366391296 1000000000 0 := by
  refine ⟨8388608000000000, -23, by decide, by omega, by omega, ?_⟩
  have e : Flo.W 8388608000000000 (-23) = Flo.V 1000000000 := by
    have h := Flo.W_pow (m := 1000000000) (p := -23) (by omega) 23
    rw [← Flo.W_zero]
    exact h
  rw [e]
  exact Flo.Close.refl _
/-- The words that the guess goes through. -/
structure Guess (r b m : Nat) (u1 u2 u3 u4 u5 v1 v2 q : Nat) (g : Nat) : Prop where
  e1 : floatBits .mul .f64 (floatOfInt .f64 ((dig r (m + 2) : Nat) : Int)) 4741671816366391296 = some u1
  e2 : floatBits .mul .f64 u1 4741671816366391296 = some u2
  e3 : floatBits .mul .f64 (floatOfInt .f64 ((dig r (m + 1) : Nat) : Int)) 4741671816366391296 = some u3
  e4 : floatBits .add .f64 u2 u3 = some u4
  e5 : floatBits .add .f64 u4 (floatOfInt .f64 ((dig r m : Nat) : Int)) = some u5
  f1 : floatBits .mul .f64 (floatOfInt .f64 ((dig b (m + 1) : Nat) : Int)) 4741671816366391296 = some v1
  f2 : floatBits .add .f64 v1 (floatOfInt .f64 ((dig b m : Nat) : Int)) = some v2
  eq : floatBits .quo .f64 u5 v2 = some q
  ei : floatToIntVal .f64 q .i64 = some (g : Int)
  lo : g ≤ r / b + 2
  hi : r / b ≤ g + 2
theorem guess_ex {r b m : Nat} (hm : len b = m + 2) (hge : b ≤ r) (hlt : r < b * B) : ∃ u1 u2 u3 u4 u5 v1 v2 q g, Guess r b m u1 u2 u3 u4 u5 v1 v2 q g := by
  have d2 := dig_le r (m + 2)
  have d1 := dig_le r (m + 1)
  have d0 := dig_le r m
  have b1 := dig_le b (m + 1)
  have b0 := dig_le b m
  have big : (1000000000000000000000000000000 : Nat) < 2 ^ 200 := by decide
  obtain ⟨u1, e1, k1⟩ := Flo.fl_mul (fl_int _ d2) fl_base (by omega) (by omega)
  obtain ⟨u2, e2, k2⟩ := Flo.fl_mul k1 fl_base (by omega) (by omega)
  obtain ⟨u3, e3, k3⟩ := Flo.fl_mul (fl_int _ d1) fl_base (by omega) (by omega)
  obtain ⟨u4, e4, k4⟩ := Flo.fl_add k2 k3 (by omega) (by omega) (by omega)
  obtain ⟨u5, e5, k5⟩ := Flo.fl_add k4 (fl_int _ d0) (by omega) (by omega) (by omega)
  obtain ⟨v1, f1, l1⟩ := Flo.fl_mul (fl_int _ b1) fl_base (by omega) (by omega)
  obtain ⟨v2, f2, l2⟩ := Flo.fl_add l1 (fl_int _ b0) (by omega) (by omega) (by omega)
  have t3 : top3 r (m + 2) = dig r (m + 2) * 1000000000 * 1000000000 + dig r (m + 1) * 1000000000 + dig r m := by unfold top3; rw [B_eq]; rfl
  have t2 : top2 b (m + 2) = dig b (m + 1) * 1000000000 + dig b m := by unfold top2; rw [B_eq]; rfl
  rw [← t3] at k5
  rw [← t2] at l2
  have hD := top2_ge (by omega : 2 ≤ m + 2) hm
  obtain ⟨q, g, eq, ei, g1, g2, g3⟩ := Flo.guess k5 l2 (top3_pos (by omega) hm hlt hge) (by have := B_pos; omega) (top3_small _ _) (top2_small _ _) (by omega) (top3_lt (by omega) hm hlt)
  obtain ⟨n1, n2⟩ := guess_near (by omega : 2 ≤ m + 2) hm hlt g1 g2
  refine ⟨u1, u2, u3, u4, u5, v1, v2, q, g, e1, e2, e3, e4, e5, f1, f2, eq, ?_, n1, n2⟩
  unfold floatToIntVal
  have hd : (FloatKind.f64.decode q).toInt .zero = some (g : Int) := ei
  rw [hd]
  have hb : IntKind.i64.min ≤ (g : Int) ∧ (g : Int) ≤ IntKind.i64.max := by
    have h1 : IntKind.i64.min = -9223372036854775808 := by decide
    have h2 : IntKind.i64.max = 9223372036854775807 := by decide
    rw [h1, h2]; omega
  simp only [if_pos hb]

theorem top_len {r b : Nat} (hlt : r < b * B) : len r ≤ len b + 1 := by
  apply len_le_iff.2
  rw [Nat.pow_succ]
  exact Nat.lt_of_lt_of_le hlt (Nat.mul_le_mul_right B (Nat.le_of_lt (lt_len b)))
theorem limb_to (k : Nat) (i : Int) (hi : i = (k : Int)) (A : Option Addr) (c x lo : Nat) (w : World) (h : NatS w lo A c x) (hx : len x ≤ 1000) (hk : k ≤ 2000) :
    Calls Tryz.prog 103 #[.slice A (len x) c, .int .i64 i] w fun e w' => e = .returned (.int .i64 ((dig x k : Nat) : Int)) ∧ w = w' := by
  subst hi; exact limb_any A c x lo k w h hx hk
theorem natMul_w (n : Nat) (A1 A2 : Option Addr) (c1 c2 x y lo1 lo2 : Nat) (w : World) (hn : len x = n) (h1 : Row w lo1 A1 n c1 (digI x)) (h2 : NatS w lo2 A2 c2 y) (hx : n ≤ 250) (hy : len y ≤ 250) :
    Calls Tryz.prog 75 #[.slice A1 n c1, .slice A2 (len y) c2] w fun e w' => ∃ A c, e = .returned (.slice A (len (x * y)) c) ∧ NatS w' w.heap.size A c (x * y) ∧ Old w w' := by
  subst hn; exact natMul_any A1 A2 c1 c2 x y lo1 lo2 w h1 h2 hx hy
set_option maxRecDepth 100000 in
set_option maxHeartbeats 1000000 in
theorem digit_core (A1 A2 : Option Addr) (c1 c2 r b m lo1 lo2 : Nat) (w : World) (h1 : NatS w lo1 A1 c1 r) (hm : len b = m + 2) (h2 : Row w lo2 A2 (m + 2) c2 (digI b)) (hr : len r ≤ m + 3) (hm2 : m ≤ 238) (hge : b ≤ r) (hlt : r < b * B) (hb0 : 0 < b) (hq9 : r / b ≤ 999999999) :
    Calls Tryz.prog 115 #[.slice A1 (len r) c1, .slice A2 (m + 2) c2] w fun e w' => e = .returned (.int .i64 ((r / b : Nat) : Int)) ∧ Old w w' := by
  obtain ⟨u1, u2, u3, u4, u5, v1, v2, qf, g, G⟩ := guess_ex hm hge hlt
  obtain ⟨q, hqq⟩ : ∃ q : Nat, q = r / b := ⟨_, rfl⟩
  have glo := G.lo
  have ghi := G.hi
  rw [← hqq] at hq9 glo ghi ⊢
  have HS : Hid (∀ m : Nat, b * m ≤ r ↔ m ≤ q) := Lib.hid fun m => by rw [hqq]; exact digit_le hb0
  have HM := Lib.hid hm
  obtain ⟨b2, off2, rfl, _, _, _, hc2⟩ := h2.2 (by omega)
  have q1 : w.cell? ⟨b2, off2 + (m + 1), none⟩ = some (.int .i64 ((dig b (m + 1) : Nat) : Int)) := hc2 (m + 1) (by omega)
  have q0 : w.cell? ⟨b2, off2 + m, none⟩ = some (.int .i64 ((dig b m : Nat) : Int)) := hc2 m (by omega)
  have x1 : ∀ t w, (binOp .mul t (.float .f64 (floatOfInt .f64 ((dig r (m + 2) : Nat) : Int))) (.float .f64 4741671816366391296)).run Tryz.prog w = .ok (.float .f64 u1) w := fun t w => run_float_arith w .mul t .f64 _ _ _ G.e1
  have x2 : ∀ t w, (binOp .mul t (.float .f64 u1) (.float .f64 4741671816366391296)).run Tryz.prog w = .ok (.float .f64 u2) w := fun t w => run_float_arith w .mul t .f64 _ _ _ G.e2
  have x3 : ∀ t w, (binOp .mul t (.float .f64 (floatOfInt .f64 ((dig r (m + 1) : Nat) : Int))) (.float .f64 4741671816366391296)).run Tryz.prog w = .ok (.float .f64 u3) w := fun t w => run_float_arith w .mul t .f64 _ _ _ G.e3
  have x4 : ∀ t w, (binOp .add t (.float .f64 u2) (.float .f64 u3)).run Tryz.prog w = .ok (.float .f64 u4) w := fun t w => run_float_arith w .add t .f64 _ _ _ G.e4
  have x5 : ∀ t w, (binOp .add t (.float .f64 u4) (.float .f64 (floatOfInt .f64 ((dig r m : Nat) : Int)))).run Tryz.prog w = .ok (.float .f64 u5) w := fun t w => run_float_arith w .add t .f64 _ _ _ G.e5
  have y1 : ∀ t w, (binOp .mul t (.float .f64 (floatOfInt .f64 ((dig b (m + 1) : Nat) : Int))) (.float .f64 4741671816366391296)).run Tryz.prog w = .ok (.float .f64 v1) w := fun t w => run_float_arith w .mul t .f64 _ _ _ G.f1
  have y2 : ∀ t w, (binOp .add t (.float .f64 v1) (.float .f64 (floatOfInt .f64 ((dig b m : Nat) : Int)))).run Tryz.prog w = .ok (.float .f64 v2) w := fun t w => run_float_arith w .add t .f64 _ _ _ G.f2
  have z1 : ∀ t w, (binOp .quo t (.float .f64 u5) (.float .f64 v2)).run Tryz.prog w = .ok (.float .f64 qf) w := fun t w => run_float_arith w .quo t .f64 _ _ _ G.eq
  have z2 : ∀ w, (convert 113 3 (.float .f64 qf)).run Tryz.prog w = .ok (.int .i64 (g : Int)) w := fun w => run_convert_float_int w 113 3 .f64 .i64 qf g rfl Tryz.underlying3 G.ei
  have hr' : ((len r : Nat) : Int) ≤ (m : Int) + 2 + 1 := by omega
  clear hc2 hqq hm hge hlt G hb0
  go_enter Tryz.func115, Tryz.ntmps115
  go_wp2_with fail
  refine (limb_to (m + 2) _ (by omega) A1 c1 r lo1 _ h1 (by omega) (by omega)).mono ?_
  rintro e w' ⟨rfl, rfl⟩
  go_wp2_with fail
  refine (limb_to (m + 1) _ (by omega) A1 c1 r lo1 _ h1 (by omega) (by omega)).mono ?_
  rintro e w' ⟨rfl, rfl⟩
  go_wp2_with fail
  refine (limb_to m _ (by omega) A1 c1 r lo1 _ h1 (by omega) (by omega)).mono ?_
  rintro e w' ⟨rfl, rfl⟩
  go_wp2_with fail
  clear x1 x2 x3 x4 x5
  go_quiet (fail)
  clear y1 y2
  go_upto_region 6 with fail
  rw [show m + 2 - 1 = m + 1 from rfl]
  by_cases hA : 2000 < g
  · have hA1 : (0 : Int) < (g : Int) - 2000 := by omega
    by_cases hB : g < 999997999
    · have hB1 : (g : Int) + 2000 < 999999999 := by omega
      obtain ⟨l0, hl0⟩ : ∃ l0 : Nat, (g : Int) - 2000 = (l0 : Int) := ⟨g - 2000, by omega⟩
      obtain ⟨h0, hh0⟩ : ∃ h0 : Nat, (g : Int) + 2000 = (h0 : Int) := ⟨g + 2000, by omega⟩
      have hl1 : (0 : Int) < (l0 : Int) := by omega
      have hh1 : (h0 : Int) < 999999999 := by omega
      have hlq : l0 ≤ q := by omega
      have hqh : q ≤ h0 := by omega
      clear hA1 hB1 hA hB
      go_wp2_with fail
      clear z1 z2 hl0 hh0
      go_loopw [5, 6] (fun v u wr => ∃ (l h : Nat), l ≤ q ∧ q ≤ h ∧ h ≤ 999999999 ∧ v = .int .i64 (l : Int) ∧ u = .int .i64 (h : Int) ∧ Old w wr) (fun v u _ => (intOf u).toNat - (intOf v).toNat)
      case atStart => exact ⟨l0, h0, hlq, hqh, by omega, rfl, rfl, oldA⟩
      case round =>
        clear hl1 hh1 hlq hqh glo ghi
        obtain ⟨l, h, hl, hh, hh9, rfl, rfl, ho⟩ := hrel
        by_cases hlt : l < h
        · obtain ⟨k, hk, hk1, hk2⟩ := mid_bounds hlt
          have Hk := Lib.hid hk
          have Hkl := mul_le_len (b := b) (m := k) (by omega)
          have hbl : len b ≤ m + 2 := by have := HM.out; omega
          have hk9 : k ≤ 999999999 := by omega
          have hlk : len k ≤ 1 := len_le_iff.2 (by rw [B_eq]; omega)
          clear hk
          go_wp2_with fail
          refine (natOf_to' k _ Hk.out hk9 _).mono ?_
          rintro e w1 ⟨⟨A3, c3, rfl, r3⟩, o1⟩
          go_wp2_with fail
          refine (natMul_w (m + 2) _ A3 c2 c3 b k lo2 _ _ HM.out (Row.below (Row.below h2 ho (Nat.le_refl _)) o1 (Nat.le_refl _)) r3 (by omega) (by omega)).mono ?_
          rintro e w2 ⟨A4, c4, rfl, r4, o2⟩
          go_wp2_with fail
          refine (natCmp_any A4 A1 c4 c1 (b * k) r _ lo1 _ r4 (NatS.below (NatS.below (NatS.below h1 ho) o1) o2) (by omega) (by omega)).mono ?_
          rintro e w3 ⟨rfl, o3⟩
          have o' : Old w w3 := Old.trans (Old.trans (Old.trans ho o1) o2) o3
          by_cases hc : k ≤ q
          · have hc' : cmpN (b * k) r ≤ 0 := cmpN_nonpos.2 ((HS.out k).2 hc)
            go_wp2
            go_roundw
            case rel => exact ⟨k, h, hc, hh, hh9, congrArg (Value.int .i64) Hk.out, rfl, o'⟩
            case measure => rw [Hk.out]; simp [intOf]; omega
          · have hc' : ¬ cmpN (b * k) r ≤ 0 := fun h => hc ((HS.out k).1 (cmpN_nonpos.1 h))
            go_wp2
            go_roundw
            case rel => exact ⟨l, k - 1, hl, by omega, by omega, rfl, congrArg (Value.int .i64) (by have := Hk.out; omega), o'⟩
            case measure => rw [Hk.out]; simp [intOf]; omega
        · have e : l = q := by omega
          subst e
          go_wp2
          go_ret
          exact ⟨rfl, ho⟩
    · have hB1 : ¬ (g : Int) + 2000 < 999999999 := by omega
      go_wp2_with fail
      clear z1 z2
      go_loopw [5, 6] (fun v u wr => ∃ (l h : Nat), l ≤ q ∧ q ≤ h ∧ h ≤ 999999999 ∧ v = .int .i64 (l : Int) ∧ u = .int .i64 (h : Int) ∧ Old w wr) (fun v u _ => (intOf u).toNat - (intOf v).toNat)
      case atStart => exact ⟨g - 2000, 999999999, by omega, by omega, by omega, congrArg (Value.int .i64) (by omega), congrArg (Value.int .i64) (by omega), oldA⟩
      case round =>
        clear hA1 hB1 hA hB glo ghi
        obtain ⟨l, h, hl, hh, hh9, rfl, rfl, ho⟩ := hrel
        by_cases hlt : l < h
        · obtain ⟨k, hk, hk1, hk2⟩ := mid_bounds hlt
          have Hk := Lib.hid hk
          have Hkl := mul_le_len (b := b) (m := k) (by omega)
          have hbl : len b ≤ m + 2 := by have := HM.out; omega
          have hk9 : k ≤ 999999999 := by omega
          have hlk : len k ≤ 1 := len_le_iff.2 (by rw [B_eq]; omega)
          clear hk
          go_wp2_with fail
          refine (natOf_to' k _ Hk.out hk9 _).mono ?_
          rintro e w1 ⟨⟨A3, c3, rfl, r3⟩, o1⟩
          go_wp2_with fail
          refine (natMul_w (m + 2) _ A3 c2 c3 b k lo2 _ _ HM.out (Row.below (Row.below h2 ho (Nat.le_refl _)) o1 (Nat.le_refl _)) r3 (by omega) (by omega)).mono ?_
          rintro e w2 ⟨A4, c4, rfl, r4, o2⟩
          go_wp2_with fail
          refine (natCmp_any A4 A1 c4 c1 (b * k) r _ lo1 _ r4 (NatS.below (NatS.below (NatS.below h1 ho) o1) o2) (by omega) (by omega)).mono ?_
          rintro e w3 ⟨rfl, o3⟩
          have o' : Old w w3 := Old.trans (Old.trans (Old.trans ho o1) o2) o3
          by_cases hc : k ≤ q
          · have hc' : cmpN (b * k) r ≤ 0 := cmpN_nonpos.2 ((HS.out k).2 hc)
            go_wp2
            go_roundw
            case rel => exact ⟨k, h, hc, hh, hh9, congrArg (Value.int .i64) Hk.out, rfl, o'⟩
            case measure => rw [Hk.out]; simp [intOf]; omega
          · have hc' : ¬ cmpN (b * k) r ≤ 0 := fun h => hc ((HS.out k).1 (cmpN_nonpos.1 h))
            go_wp2
            go_roundw
            case rel => exact ⟨l, k - 1, hl, by omega, by omega, rfl, congrArg (Value.int .i64) (by have := Hk.out; omega), o'⟩
            case measure => rw [Hk.out]; simp [intOf]; omega
        · have e : l = q := by omega
          subst e
          go_wp2
          go_ret
          exact ⟨rfl, ho⟩
  · have hA1 : ¬ (0 : Int) < (g : Int) - 2000 := by omega
    by_cases hB : g < 999997999
    · have hB1 : (g : Int) + 2000 < 999999999 := by omega
      go_wp2_with fail
      clear z1 z2
      go_loopw [5, 6] (fun v u wr => ∃ (l h : Nat), l ≤ q ∧ q ≤ h ∧ h ≤ 999999999 ∧ v = .int .i64 (l : Int) ∧ u = .int .i64 (h : Int) ∧ Old w wr) (fun v u _ => (intOf u).toNat - (intOf v).toNat)
      case atStart => exact ⟨0, g + 2000, by omega, by omega, by omega, congrArg (Value.int .i64) (by omega), congrArg (Value.int .i64) (by omega), oldA⟩
      case round =>
        clear hA1 hB1 hA hB glo ghi
        obtain ⟨l, h, hl, hh, hh9, rfl, rfl, ho⟩ := hrel
        by_cases hlt : l < h
        · obtain ⟨k, hk, hk1, hk2⟩ := mid_bounds hlt
          have Hk := Lib.hid hk
          have Hkl := mul_le_len (b := b) (m := k) (by omega)
          have hbl : len b ≤ m + 2 := by have := HM.out; omega
          have hk9 : k ≤ 999999999 := by omega
          have hlk : len k ≤ 1 := len_le_iff.2 (by rw [B_eq]; omega)
          clear hk
          go_wp2_with fail
          refine (natOf_to' k _ Hk.out hk9 _).mono ?_
          rintro e w1 ⟨⟨A3, c3, rfl, r3⟩, o1⟩
          go_wp2_with fail
          refine (natMul_w (m + 2) _ A3 c2 c3 b k lo2 _ _ HM.out (Row.below (Row.below h2 ho (Nat.le_refl _)) o1 (Nat.le_refl _)) r3 (by omega) (by omega)).mono ?_
          rintro e w2 ⟨A4, c4, rfl, r4, o2⟩
          go_wp2_with fail
          refine (natCmp_any A4 A1 c4 c1 (b * k) r _ lo1 _ r4 (NatS.below (NatS.below (NatS.below h1 ho) o1) o2) (by omega) (by omega)).mono ?_
          rintro e w3 ⟨rfl, o3⟩
          have o' : Old w w3 := Old.trans (Old.trans (Old.trans ho o1) o2) o3
          by_cases hc : k ≤ q
          · have hc' : cmpN (b * k) r ≤ 0 := cmpN_nonpos.2 ((HS.out k).2 hc)
            go_wp2
            go_roundw
            case rel => exact ⟨k, h, hc, hh, hh9, congrArg (Value.int .i64) Hk.out, rfl, o'⟩
            case measure => rw [Hk.out]; simp [intOf]; omega
          · have hc' : ¬ cmpN (b * k) r ≤ 0 := fun h => hc ((HS.out k).1 (cmpN_nonpos.1 h))
            go_wp2
            go_roundw
            case rel => exact ⟨l, k - 1, hl, by omega, by omega, rfl, congrArg (Value.int .i64) (by have := Hk.out; omega), o'⟩
            case measure => rw [Hk.out]; simp [intOf]; omega
        · have e : l = q := by omega
          subst e
          go_wp2
          go_ret
          exact ⟨rfl, ho⟩
    · have hB1 : ¬ (g : Int) + 2000 < 999999999 := by omega
      go_wp2_with fail
      clear z1 z2
      go_loopw [5, 6] (fun v u wr => ∃ (l h : Nat), l ≤ q ∧ q ≤ h ∧ h ≤ 999999999 ∧ v = .int .i64 (l : Int) ∧ u = .int .i64 (h : Int) ∧ Old w wr) (fun v u _ => (intOf u).toNat - (intOf v).toNat)
      case atStart => exact ⟨0, 999999999, by omega, by omega, by omega, congrArg (Value.int .i64) (by omega), congrArg (Value.int .i64) (by omega), oldA⟩
      case round =>
        clear hA1 hB1 hA hB glo ghi
        obtain ⟨l, h, hl, hh, hh9, rfl, rfl, ho⟩ := hrel
        by_cases hlt : l < h
        · obtain ⟨k, hk, hk1, hk2⟩ := mid_bounds hlt
          have Hk := Lib.hid hk
          have Hkl := mul_le_len (b := b) (m := k) (by omega)
          have hbl : len b ≤ m + 2 := by have := HM.out; omega
          have hk9 : k ≤ 999999999 := by omega
          have hlk : len k ≤ 1 := len_le_iff.2 (by rw [B_eq]; omega)
          clear hk
          go_wp2_with fail
          refine (natOf_to' k _ Hk.out hk9 _).mono ?_
          rintro e w1 ⟨⟨A3, c3, rfl, r3⟩, o1⟩
          go_wp2_with fail
          refine (natMul_w (m + 2) _ A3 c2 c3 b k lo2 _ _ HM.out (Row.below (Row.below h2 ho (Nat.le_refl _)) o1 (Nat.le_refl _)) r3 (by omega) (by omega)).mono ?_
          rintro e w2 ⟨A4, c4, rfl, r4, o2⟩
          go_wp2_with fail
          refine (natCmp_any A4 A1 c4 c1 (b * k) r _ lo1 _ r4 (NatS.below (NatS.below (NatS.below h1 ho) o1) o2) (by omega) (by omega)).mono ?_
          rintro e w3 ⟨rfl, o3⟩
          have o' : Old w w3 := Old.trans (Old.trans (Old.trans ho o1) o2) o3
          by_cases hc : k ≤ q
          · have hc' : cmpN (b * k) r ≤ 0 := cmpN_nonpos.2 ((HS.out k).2 hc)
            go_wp2
            go_roundw
            case rel => exact ⟨k, h, hc, hh, hh9, congrArg (Value.int .i64) Hk.out, rfl, o'⟩
            case measure => rw [Hk.out]; simp [intOf]; omega
          · have hc' : ¬ cmpN (b * k) r ≤ 0 := fun h => hc ((HS.out k).1 (cmpN_nonpos.1 h))
            go_wp2
            go_roundw
            case rel => exact ⟨l, k - 1, hl, by omega, by omega, rfl, congrArg (Value.int .i64) (by have := Hk.out; omega), o'⟩
            case measure => rw [Hk.out]; simp [intOf]; omega
        · have e : l = q := by omega
          subst e
          go_wp2
          go_ret
          exact ⟨rfl, ho⟩
theorem digit_any (A1 A2 : Option Addr) (c1 c2 r b lo1 lo2 : Nat) (w : World) (h1 : NatS w lo1 A1 c1 r) (h2 : NatS w lo2 A2 c2 b) (hr : len r ≤ 240) (hb : len b ≤ 240) (hlb : 1 < len b) (hge : b ≤ r) (hlt : r < b * B) (hq9 : r / b ≤ 999999999) :
    Calls Tryz.prog 115 #[.slice A1 (len r) c1, .slice A2 (len b) c2] w fun e w' => e = .returned (.int .i64 ((r / b : Nat) : Int)) ∧ Old w w' := by
  obtain ⟨m, hm⟩ : ∃ m, len b = m + 2 := ⟨len b - 2, by omega⟩
  have hb0 : 0 < b := by
    rcases Nat.eq_zero_or_pos b with h | h
    · rw [h, len_zero] at hlb; omega
    · exact h
  have h3 : Row w lo2 A2 (m + 2) c2 (digI b) := by rw [← hm]; exact h2
  have hl := top_len hlt
  rw [hm]
  exact digit_core A1 A2 c1 c2 r b m lo1 lo2 w h1 hm h3 (by omega) (by omega) hge hlt hb0 hq9
end Go.Proofs.YtgchbbjhdeobpaaGreatDoor

namespace Go.Proofs.YtgchbbjhdeobpaaGreatDoor
set_option linter.unusedVariables false
open Go.RowKit Num
set_option maxRecDepth 100000 in
set_option maxHeartbeats 1000000 in
theorem natDiv_one (A1 A2 : Option Addr) (c1 c2 a b lo1 lo2 : Nat) (w : World) (h1 : NatS w lo1 A1 c1 a) (h2 : NatS w lo2 A2 c2 b) (ha : len a ≤ 200) (hb : len b = 1) (hge : b ≤ a) :
    Calls Tryz.prog 90 #[.slice A1 (len a) c1, .slice A2 (len b) c2] w fun e w' => RetQ e w' w.heap.size (a / b) (a % b) ∧ Old w w' := by
  have Hd := Lib.hid (one_digit hb)
  obtain ⟨g, off, hA, hc⟩ := NatS.cell h2 (j := 0) (by omega)
  have hc0 : w.cell? ⟨g, off, none⟩ = some (.int .i64 (b : Int)) := by rw [Nat.add_zero, Hd.out.1] at hc; exact hc
  have hb1 : (((len b : Nat) : Int) == 1) = true := by rw [hb]; rfl
  have hbl : len b ≤ 1000 := by omega
  have Hb := Lib.hid hb
  have hb01 : (0 : Int) < ((len b : Nat) : Int) := by omega
  have hb02 : 0 < len b := by omega
  subst hA
  clear hc hb
  obtain ⟨x, hx⟩ : ∃ x : Nat, x = a % b := ⟨_, rfl⟩
  have hx9 : x ≤ 999999999 := by have := Nat.mod_lt a Hd.out.2.2; have := Hd.out.2.1; omega
  have HX := Lib.hid hx
  rw [← hx]
  clear hx
  have hcm : ¬ cmpN a b < 0 := by have := cmpN_nonneg.2 hge; omega
  clear hge
  go_enter Tryz.func90, Tryz.ntmps90
  go_wp2_with fail
  refine (natCmp_any A1 _ c1 c2 a b lo1 lo2 _ h1 h2 (by omega) (by omega)).mono ?_
  rintro e w0 ⟨rfl, o0⟩
  have hc0' : w0.cell? ⟨g, off, none⟩ = some (.int .i64 (b : Int)) := (o0.cell (p := ⟨g, off, none⟩) (by obtain ⟨b', off', e, _, hs, _⟩ := h2.2 hb02; injection e with e; injection e with e1 _; subst e1; exact hs)).trans hc0
  clear hc0
  go_wp2_with fail
  refine (natDivSmall_any A1 c1 a lo1 b _ (NatS.below h1 o0) (by omega) Hd.out.2.2 Hd.out.2.1).mono ?_
  rintro e w1 ⟨A3, c3, he, r3, o1⟩
  rw [← HX.out] at he
  subst he
  have z1 := o1.size
  have z0 := o0.size
  go_wp2_with fail
  refine (natOf_to' x _ rfl hx9 _).mono ?_
  rintro e w2 ⟨⟨A4, c4, rfl, r4⟩, o2⟩
  have z2 := o2.size
  go_wp2
  go_ret2
  exact ⟨⟨A3, c3, A4, c4, rfl, Row.more (NatS.below r3 o2) leA, Row.more r4 leA⟩, (Old.trans o0 (Old.trans o1 o2))⟩
set_option maxRecDepth 100000 in
set_option maxHeartbeats 1000000 in
theorem natDiv_long (A1 A2 : Option Addr) (c1 c2 a b lo1 lo2 : Nat) (w : World) (h1 : NatS w lo1 A1 c1 a) (h2 : NatS w lo2 A2 c2 b) (ha : len a ≤ 200) (hb : len b ≤ 200) (hb0 : 0 < b) (hb2 : len b ≠ 1) (hge : b ≤ a) :
    Calls Tryz.prog 90 #[.slice A1 (len a) c1, .slice A2 (len b) c2] w fun e w' => RetQ e w' w.heap.size (a / b) (a % b) ∧ Old w w' := by
  have hb1 : (((len b : Nat) : Int) == 1) = false := by simp; omega
  have hl0 : len b ≠ 0 := fun h => by rw [len_eq_zero.1 h] at hb0; omega
  have hlb : 1 < len b := by omega
  have hbm : Hid (∀ x : Nat, x % b < b) := Lib.hid fun x => Nat.mod_lt x hb0
  obtain ⟨y, hy⟩ : ∃ y : Nat, y = a / b := ⟨_, rfl⟩
  have HY := Lib.hid hy
  have hyl : len y ≤ len a := by rw [hy]; exact div_len a b
  obtain ⟨x, hx⟩ : ∃ x : Nat, x = a % b := ⟨_, rfl⟩
  have HX := Lib.hid hx
  have H0 : Hid (0 = a / B ^ len a % b) := Lib.hid (by rw [Nat.div_eq_of_lt (lt_len a), Nat.zero_mod])
  rw [← hy, ← hx]
  clear hy hx hb2
  have hmk := fun (w : World) => makeN (len a) (by omega) w
  have hcm : ¬ cmpN a b < 0 := by have := cmpN_nonneg.2 hge; omega
  clear hge
  go_enter Tryz.func90, Tryz.ntmps90
  go_wp2_with fail
  refine (natCmp_any A1 A2 c1 c2 a b lo1 lo2 _ h1 h2 (by omega) (by omega)).mono ?_
  rintro e w0 ⟨rfl, o0⟩
  replace h1 := NatS.below h1 o0
  replace h2 := NatS.below h2 o0
  have z0 := o0.size
  go_wp2
  clear hmk
  go_loopw [9, 10] (fun v i wr => ∃ (k q : Nat) (A' : Option Addr) (c' : Nat), k ≤ len a ∧ i = .int .i64 ((k : Int) - 1) ∧ v = .slice A' (len q) c' ∧ NatS wr (w0.heap.size + 1) A' c' q ∧ q < b ∧ Hid (q = a / B ^ k % b) ∧ Blk wr w0.heap.size (len a) (fromI y k) ∧ Old w0 wr) (fun _ i _ => (intOf i + 1).toNat)
  case atStart => exact ⟨len a, 0, _, _, Nat.le_refl _, rfl, rfl, NatS.zero _ _ _ _, hb0, H0, (fresh_blk w0 _ y hyl).below (B := w0.heap.size + 1) (by exact oldA) (by omega), oldA⟩
  case round =>
    obtain ⟨k, q, A', c', hk, rfl, rfl, hR, hqb, hq, hB, hb'⟩ := hrel
    by_cases hpos : 0 < k
    · obtain ⟨gb, off, rfl, hc⟩ := NatS.cell (NatS.below h1 hb') (j := k - 1) (by omega)
      have hdg := dig_le a (k - 1)
      have hlq : len q ≤ len b := len_mono (Nat.le_of_lt hqb)
      obtain ⟨d, hd⟩ : ∃ d, d = dig a (k - 1) := ⟨_, rfl⟩
      rw [← hd] at hc hdg
      have Hf := Lib.hid (long_facts hb0 hpos hq.out)
      have HD := Lib.hid hd
      clear hd
      have hBl := hB.lt
      have hzr := hb'.size
      obtain ⟨t, ht⟩ : ∃ t, t = B * q + d := ⟨_, rfl⟩
      have htl : len t ≤ len q + 1 := by rw [ht]; exact cons_len_le hdg
      have HT := Lib.hid ht
      have htb9 : t / b ≤ 999999999 := by rw [ht, HD.out]; exact Hf.out.2.2.1
      have htB : t < b * B := by rw [ht, HD.out]; exact Hf.out.2.2.2
      have HTB := Lib.hid htB
      clear ht htB
      go_wp2_with (at_builtin; refine wpList_cons rfl (.tmp 45) (.tmp 46) rfl (base := wr.heap.size) (f := digI q) (lo := w0.heap.size + 1) rfl (fresh_one (d : Int) (Nat.le_refl _)) rfl (Row.below (B := wr.heap.size) hR oldA (Nat.le_refl _)) (by omega) (by simp) ?_; intro A3 c3 w1 r1 o1)
      have o1' : Old wr w1 := Below.trans (b := _) oldA o1
      have z1 := o1'.size
      have r1' : Row w1 wr.heap.size A3 (len q + 1) c3 (digI t) := by rw [HT.out]; exact cons_row hdg r1
      clear r1
      go_wp2_with fail
      refine (trimmed_any A3 _ c3 t _ _ r1' htl (by omega)).mono ?_
      rintro e w2 ⟨rfl, o2⟩
      have z2 := o2.size
      have r2 : NatS w2 wr.heap.size A3 c3 t := NatS.below (r1'.take htl) o2
      have hb2 := NatS.below (NatS.below (NatS.below h2 hb') o1') o2
      clear r1'
      have o12 := Old.trans o1' o2
      have hzg : w0.heap.size + 1 ≤ wr.heap.size := hBl
      go_wp2_with fail
      refine (natCmp_any A3 A2 c3 c2 t b _ lo2 _ r2 hb2 (by omega) (by omega)).mono ?_
      rintro e w3 ⟨rfl, o3⟩
      have z3 := o3.size
      have o13 := Old.trans o12 o3
      have r3 := NatS.below r2 o3
      have hb3 := NatS.below hb2 o3
      have hB3 := hB.below (B := wr.heap.size) o13 hBl
      clear r2 hb2
      by_cases hlt : t < b
      · have hcc : cmpN t b < 0 := by rw [cmpN_lt hlt]; omega
        have hcc2 : ¬ (0 : Int) ≤ cmpN t b := by omega
        have Hz : Hid (digI y (k - 1) = 0) := Lib.hid (by unfold digI; rw [HY.out, ← Hf.out.1, ← HD.out, ← HT.out, Nat.div_eq_of_lt hlt]; rfl)
        have Hq2 : Hid (t = a / B ^ (k - 1) % b) := Lib.hid (by rw [← Hf.out.2.1, ← HD.out, ← HT.out, Nat.mod_eq_of_lt hlt])
        go_wp2
        go_roundw
        case rel => exact ⟨k - 1, t, A3, c3, by omega, by go_num, rfl, Row.more r3 leA, hlt, Hq2, hB3.to (fun j _ => fromI_skip hpos Hz.out j), Old.trans hb' o13⟩
        case measure => simp [intOf]; omega
      · have hcc : ¬ cmpN t b < 0 := by have := cmpN_nonneg.2 (Nat.le_of_not_lt hlt); omega
        have hcc2 : (0 : Int) ≤ cmpN t b := cmpN_nonneg.2 (Nat.le_of_not_lt hlt)
        obtain ⟨m, hm⟩ : ∃ m : Nat, m = t / b := ⟨_, rfl⟩
        have HM := Lib.hid hm
        have hm9 : m ≤ 999999999 := by rw [hm]; exact htb9
        have hbt : b * m ≤ t := by rw [hm]; exact Nat.mul_div_le t b
        have hlm : len m ≤ 1 := len_le_iff.2 (by rw [B_eq]; omega)
        have Hml := mul_le_len (b := b) (m := m) hm9
        have Hu : Hid ((m : Int) = digI y (k - 1)) := Lib.hid (by unfold digI; rw [HY.out, ← Hf.out.1, ← HD.out, ← HT.out, HM.out])
        have Hq2 : Hid (t - b * m = a / B ^ (k - 1) % b) := Lib.hid (by rw [← Hf.out.2.1, ← HD.out, ← HT.out, HM.out, sub_mul_mod])
        have hsb : t - b * m < b := by rw [HM.out, sub_mul_mod]; exact hbm.out t
        clear hm
        go_wp2_with fail
        refine (digit_any A3 A2 c3 c2 t b _ lo2 _ r3 hb3 (by omega) (by omega) hlb (Nat.le_of_not_lt hlt) HTB.out htb9).mono ?_
        rintro e w4 ⟨he, o4⟩
        rw [← HM.out] at he
        subst he
        have z4 := o4.size
        have o04 : Old w0 w4 := Old.trans (Old.trans hb' o13) o4
        have r4 := NatS.below r3 o4
        have hB4 := hB3.below (B := w3.heap.size) o4 (by omega)
        clear r3 hb3 hB3 hB
        have hcell := Blk.cell hB4 (k - 1) (by omega)
        have hfz := World.rowIs.frozen hB4 (k - 1)
        have o05 : Old w0 (w4.setCell ⟨w0.heap.size, k - 1, none⟩ (.int .i64 (m : Int))) := oldA
        have hB5 : Blk (w4.setCell ⟨w0.heap.size, k - 1, none⟩ (.int .i64 (m : Int))) w0.heap.size (len a) (fromI y (k - 1)) := (Blk.set_ hB4 (k - 1) _).to (fun j _ => fromI_step hpos Hu.out j)
        have r5 : NatS (w4.setCell ⟨w0.heap.size, k - 1, none⟩ (.int .i64 (m : Int))) wr.heap.size A3 c3 t := Row.far_set r4 (by show w0.heap.size < wr.heap.size; omega) _
        have hb5 := NatS.below h2 o05
        clear r4
        go_wp2_with fail
        refine (natOf_to' m _ rfl hm9 _).mono ?_
        rintro e w6 ⟨⟨A6, c6, rfl, r6⟩, o6⟩
        have z6 : w4.heap.size ≤ w6.heap.size := by have h := o6.size; simpa [World.setCell] using h
        replace r6 : NatS w6 w4.heap.size A6 c6 m := Row.more r6 (by simp [World.setCell])
        have o06 := Old.trans o05 o6
        have hB6 := hB5.below o6 (by simp [World.setCell]; omega)
        have t6 := NatS.below r5 o6
        have hb6 := NatS.below hb5 o6
        clear hB5 r5 hb5 hB4 hcell hfz o05
        go_wp2_with fail
        refine (natMul_any A2 A6 c2 c6 b m lo2 _ _ hb6 r6 (by omega) (by omega)).mono ?_
        rintro e w7 ⟨A7, c7, rfl, r7, o7⟩
        have z7 := o7.size
        have hB7 := hB6.below o7 (by omega)
        have t7 := NatS.below t6 o7
        have o07 := Old.trans o06 o7
        clear hB6 t6 hb6 r6
        go_wp2_with fail
        refine (natSub_any A3 A7 c3 c7 t (b * m) _ _ _ t7 r7 (by omega) (by omega) hbt).mono ?_
        rintro e w8 ⟨A8, c8, rfl, r8, o8⟩
        have z8 := o8.size
        have hB8 := hB7.below o8 (by omega)
        have o08 := Old.trans o07 o8
        clear hB7 t7 r7
        go_wp2
        go_roundw
        case rel => exact ⟨k - 1, t - b * m, A8, c8, by omega, by go_num, rfl, Row.more r8 leA, hsb, Hq2, hB8, o08⟩
        case measure => simp [intOf]; omega
    · have e : k = 0 := by omega
      subst e
      have Hq : Hid (x = q) := Lib.hid (by rw [HX.out, hq.out, Nat.pow_zero, Nat.div_one])
      have hrow : Row wr w0.heap.size (some ⟨w0.heap.size, 0, none⟩) (len a) (len a) (digI y) := (Blk.to hB fun j _ => fromI_all y j).row (Nat.le_refl _)
      go_wp2_with (go_at_call 59; refine (trimmed_any _ _ _ y _ _ hrow hyl (by omega)).mono ?_; rintro e w1 ⟨rfl, o1⟩)
      go_ret2
      exact ⟨RetQ.to ⟨_, _, _, _, rfl, Row.more (NatS.below (hrow.take hyl) o1) leA, Row.more (NatS.below hR o1) leA⟩ rfl Hq.out.symm, Old.trans o0 (Old.trans hb' o1)⟩
set_option maxRecDepth 100000 in
set_option maxHeartbeats 1000000 in
theorem natDiv_less (A1 A2 : Option Addr) (c1 c2 a b lo1 lo2 : Nat) (w : World) (h1 : NatS w lo1 A1 c1 a) (h2 : NatS w lo2 A2 c2 b) (ha : len a ≤ 200) (hb : len b ≤ 200) (hlt : a < b) :
    Calls Tryz.prog 90 #[.slice A1 (len a) c1, .slice A2 (len b) c2] w fun e w' => e = .returned (.tuple #[.slice none 0 0, .slice A1 (len a) c1]) ∧ Old w w' := by
  have hcm : cmpN a b < 0 := by rw [cmpN_lt hlt]; omega
  clear hlt
  go_enter Tryz.func90, Tryz.ntmps90
  go_wp2_with fail
  refine (natCmp_any A1 A2 c1 c2 a b lo1 lo2 _ h1 h2 (by omega) (by omega)).mono ?_
  rintro e w0 ⟨rfl, o0⟩
  go_wp2
  go_ret2
  exact ⟨rfl, o0⟩
theorem natDiv_any (A1 A2 : Option Addr) (c1 c2 a b lo1 lo2 : Nat) (w : World) (h1 : NatS w lo1 A1 c1 a) (h2 : NatS w lo2 A2 c2 b) (ha : len a ≤ 200) (hb : len b ≤ 200) (hb0 : 0 < b) :
    Calls Tryz.prog 90 #[.slice A1 (len a) c1, .slice A2 (len b) c2] w fun e w' => RetQ e w' 0 (a / b) (a % b) ∧ Old w w' := by
  have more : ∀ e w', (RetQ e w' w.heap.size (a / b) (a % b) ∧ Old w w') → RetQ e w' 0 (a / b) (a % b) ∧ Old w w' := by
    rintro e w' ⟨⟨A3, c3, A4, c4, he, r3, r4⟩, o⟩
    exact ⟨⟨A3, c3, A4, c4, he, r3.more (Nat.zero_le _), r4.more (Nat.zero_le _)⟩, o⟩
  by_cases hlt : a < b
  · refine (natDiv_less A1 A2 c1 c2 a b lo1 lo2 w h1 h2 ha hb hlt).mono ?_
    rintro e w' ⟨rfl, o⟩
    refine ⟨RetQ.to ⟨none, 0, A1, c1, by rw [len_zero], NatS.zero _ _ _ _, (NatS.below h1 o).more (Nat.zero_le _)⟩ (Nat.div_eq_of_lt hlt).symm (Nat.mod_eq_of_lt hlt).symm, o⟩
  · by_cases h : len b = 1
    · exact (natDiv_one A1 A2 c1 c2 a b lo1 lo2 w h1 h2 ha h (Nat.le_of_not_lt hlt)).mono more
    · exact (natDiv_long A1 A2 c1 c2 a b lo1 lo2 w h1 h2 ha hb hb0 h (Nat.le_of_not_lt hlt)).mono more

/-- The rows of two results do not share a block. -/
def Apart (A : Option Addr) (n : Nat) (A' : Option Addr) (m : Nat) : Prop := ∀ a a', 0 < n → 0 < m → A = some a → A' = some a' → a.block ≠ a'.block
theorem Apart.of {w : World} {lo' hi n m c' : Nat} {A A' : Option Addr} {g : Nat → Int} (h1 : Lim hi A n) (h2 : Row w lo' A' m c' g) (hl : hi ≤ lo') : Apart A n A' m := by
  intro a a' hn hm e e'
  have q1 := h1 hn a e
  have q2 := h2.low hm a' e'
  omega
theorem len_pos {x : Nat} (h : 0 < x) : 0 < len x := Nat.pos_of_ne_zero fun e => by rw [len_eq_zero.1 e] at h; omega
theorem pos_len {x : Nat} (h : 0 < len x) : 0 < x := Nat.pos_of_ne_zero fun e => by rw [e, len_zero] at h; omega
end Go.Proofs.YtgchbbjhdeobpaaGreatDoor

namespace Go.Proofs.YtgchbbjhdeobpaaGreatDoor
set_option linter.unusedVariables false
open Go.RowKit Num

theorem natX_digI {x : Nat} (hx : len x ≤ 60) : natX (len x) (digI x) = x := by
  obtain ⟨h1, _, h3⟩ := natX_spec (okP_of hx)
  have hd : digs (natX (len x) (digI x)) = digs x := by
    apply List.ext_getElem?
    intro i
    by_cases hi : i < len x
    · rw [digs_get _ _ (by omega), digs_get _ _ hi]
      have := h3 i hi
      simp only [digI] at this
      have e : dig (natX (len x) (digI x)) i = dig x i := by omega
      rw [e]
    · rw [List.getElem?_eq_none (by rw [digs_length]; omega), List.getElem?_eq_none (by rw [digs_length]; omega)]
  exact digs_inj hd
theorem small_le {x : Nat} (h : len x < 3) : x ≤ 999999999999999999 := by
  have h1 := lt_len x
  have h2 := pow_le (show len x ≤ 2 by omega)
  have h3 : B ^ 2 = 1000000000000000000 := by rw [B_eq]
  omega
theorem gcd_step (u v : Nat) : Nat.gcd v (u % v) = Nat.gcd u v := by
  rw [Nat.gcd_comm v, ← Nat.gcd_rec, Nat.gcd_comm]
theorem gcd_len {a b : Nat} {n : Nat} (ha : len a ≤ n) (hb : len b ≤ n) : len (Nat.gcd a b) ≤ n := by
  rcases Nat.eq_zero_or_pos a with h | h
  · subst h; rw [Nat.gcd_zero_left]; exact hb
  · exact Nat.le_trans (len_mono (Nat.le_of_dvd h (Nat.gcd_dvd_left a b))) ha
theorem spec_NatToInt_small (A : Option Addr) (c x lo : Nat) (w : World) (h : NatS w lo A c x) (hx : len x < 3) :
    Calls Tryz.prog 105 #[.slice A (len x) c] w fun e w' => e = .returned (.tuple #[.int .i64 (x : Int), .bool true]) ∧ Old w w' := by
  refine (spec_NatToInt A (len x) c lo (digI x) w h (by omega)).mono ?_
  rintro e w' ⟨rfl, o⟩
  refine ⟨?_, o⟩
  have hle := small_le hx
  unfold rNatToInt0 rNatToInt1
  rw [rNatOk_yes (okP_of (by omega)), natX_digI (by omega), (toInt_yes (by omega : x ≤ 9223372036854775807)).1, (toInt_yes (by omega : x ≤ 9223372036854775807)).2]
  rfl
set_option maxRecDepth 100000 in
set_option maxHeartbeats 1000000 in
theorem l02Plain_any (x y : Nat) (w : World) (hx : x ≤ 9223372036854775807) (hy : y ≤ 9223372036854775807) :
    Calls Tryz.prog 106 #[.int .i64 (x : Int), .int .i64 (y : Int)] w fun e w' => RetN e w' w.heap.size (Nat.gcd x y) ∧ Old w w' := by
  obtain ⟨G, hG⟩ : ∃ G, G = Nat.gcd x y := ⟨_, rfl⟩
  have HG := Lib.hid hG
  rw [← hG]
  clear hG
  go_enter Tryz.func106, Tryz.ntmps106
  go_wp2
  go_loop [0, 1] (fun a b => ∃ (u v : Nat), u ≤ 9223372036854775807 ∧ v ≤ 9223372036854775807 ∧ a = .int .i64 (u : Int) ∧ b = .int .i64 (v : Int) ∧ Hid (G = Nat.gcd u v)) (fun _ b => (intOf b).toNat)
  case atStart => exact ⟨x, y, hx, hy, rfl, rfl, HG⟩
  case round =>
    obtain ⟨u, v, hu, hv, rfl, rfl, hg⟩ := hrel
    by_cases hpos : 0 < v
    · have hp1 : (0 : Int) < (v : Int) := by omega
      have hp2 : ¬ (v : Int) = 0 := by omega
      have hp3 : ((v : Int) == 0) = false := by simp; omega
      have hml := Nat.mod_lt u hpos
      have Hm : Hid (((u : Int) % (v : Int)) = ((u % v : Nat) : Int)) := Lib.hid (Int.natCast_emod u v).symm
      have Hg : Hid (G = Nat.gcd v (u % v)) := Lib.hid (by rw [gcd_step]; exact hg.out)
      have Hml := Lib.hid hml
      clear hml
      go_wp2
      go_round
      case rel => exact ⟨v, u % v, hv, by have := Hml.out; omega, rfl, congrArg (Value.int .i64) Hm.out, Hg⟩
      case measure => rw [Hm.out]; have := Hml.out; simp [intOf]; omega
    · have e : v = 0 := by omega
      have He : Hid (G = u) := Lib.hid (by rw [hg.out, e, Nat.gcd_zero_right])
      have hu2 : u ≤ 9223372036854775807 := hu
      subst e
      go_wp2_with fail
      refine (spec_NatOf (u : Int) _ (by omega)).mono ?_
      rintro e w1 ⟨⟨A1, c1, rfl, r1⟩, o1⟩
      have Hr : Hid (rNatOf (u : Int) = G) := Lib.hid (by rw [He.out, rNatOf_nat hu2])
      rw [Hr.out] at r1
      have hl : len (rNatOf (u : Int)) = len G := by rw [Hr.out]
      go_wp2
      go_ret
      exact ⟨⟨A1, c1, rfl, r1⟩, o1⟩
set_option maxRecDepth 100000 in
set_option maxHeartbeats 1000000 in
theorem l02Gcd_any (A1 A2 : Option Addr) (c1 c2 a b lo1 lo2 : Nat) (w : World) (h1 : NatS w lo1 A1 c1 a) (h2 : NatS w lo2 A2 c2 b) (ha : len a ≤ 200) (hb : len b ≤ 200) :
    Calls Tryz.prog 81 #[.slice A1 (len a) c1, .slice A2 (len b) c2] w fun e w' => RetN e w' w.heap.size (Nat.gcd a b) ∧ Old w w' := by
  obtain ⟨G, hG⟩ : ∃ G, G = Nat.gcd a b := ⟨_, rfl⟩
  have HG := Lib.hid hG
  rw [← hG]
  clear hG
  go_enter Tryz.func81, Tryz.ntmps81
  go_wp2_with (first
    | (at_builtin; refine wpList_clone rfl (.tmp 13) (.tmp 14) rfl (base := w.heap.size) (f := digI a) (lo := lo1) rfl (fresh_own (Nat.le_refl _)) rfl (Row.below (B := w.heap.size) h1 oldA (Nat.le_refl _)) (by omega) (by simp) ?_; intro A5 c5 w1 r5 o5; have o5' : Old w w1 := Below.trans (b := _) oldA o5; have z5 := o5'.size)
    | (at_builtin; refine wpList_clone rfl (.tmp 16) (.tmp 17) rfl (base := w1.heap.size) (f := digI b) (lo := lo2) rfl (fresh_own (Nat.le_refl _)) rfl (Row.below (B := w.heap.size) h2 (Below.trans (b := w1) o5' oldA) (Nat.le_refl _)) (by omega) (by simp) ?_; intro A6 c6 w2 r6 o6; have o6' : Old w1 w2 := Below.trans (b := _) oldA o6; have z6 := o6'.size))
  have O2 := Old.trans o5' o6'
  go_loopg [5, 6] b (fun k x y wr => ∃ (u : Nat) (A5 : Option Addr) (c5 : Nat) (A6 : Option Addr) (c6 : Nat), x = .slice A5 (len u) c5 ∧ y = .slice A6 (len k) c6 ∧ NatS wr w.heap.size A5 c5 u ∧ NatS wr w.heap.size A6 c6 k ∧ len u ≤ 200 ∧ len k ≤ 200 ∧ Hid (G = Nat.gcd u k) ∧ Old w wr)
  case atStart => exact ⟨a, A5, c5, A6, c6, rfl, rfl, NatS.below r5 o6', Row.more r6 z5, ha, hb, HG, O2⟩
  case round =>
    clear r5 o5 o5' z5 r6 o6 o6' z6 O2
    obtain ⟨u, A5, c5, A6, c6, rfl, rfl, r5, r6, hu, hv, hg, O⟩ := hrel
    have zr := O.size
    by_cases hpos : 0 < gk
    · have hlp := len_pos hpos
      by_cases hs : len u < 3 ∧ len gk < 3
      · obtain ⟨hs1, hs2⟩ := hs
        have i1 : ((len u : Nat) : Int) < 3 := by omega
        have i2 : ((len gk : Nat) : Int) < 3 := by omega
        have hu9 := small_le hs1
        have hv9 := small_le hs2
        go_wp2_with fail
        refine (spec_NatToInt_small A5 c5 u _ _ r5 hs1).mono ?_
        rintro e w1 ⟨rfl, o1⟩
        have z1 := o1.size
        go_wp2_with fail
        refine (spec_NatToInt_small A6 c6 gk _ _ (NatS.below r6 o1) hs2).mono ?_
        rintro e w2 ⟨rfl, o2⟩
        have z2 := o2.size
        go_wp2_with fail
        refine (l02Plain_any u gk _ (by omega) (by omega)).mono ?_
        rintro e w3 ⟨⟨A, c, he, r⟩, o3⟩
        rw [← hg.out] at he r
        subst he
        go_wp2
        go_ret
        exact ⟨⟨A, c, rfl, Row.more r leA⟩, Old.trans (Old.trans (Old.trans O o1) o2) o3⟩
      · have hml := Nat.mod_lt u hpos
        have hmlen : len (u % gk) ≤ 200 := Nat.le_trans (len_mono (Nat.le_of_lt hml)) hv
        have Hg : Hid (G = Nat.gcd gk (u % gk)) := Lib.hid (by rw [gcd_step]; exact hg.out)
        have Hp := Lib.hid hpos
        have Hml := Lib.hid hml
        by_cases hs1 : len u < 3
        · have hs2 : ¬ len gk < 3 := fun h => hs ⟨hs1, h⟩
          have i1 : ((len u : Nat) : Int) < 3 := by omega
          have i2 : ¬ ((len gk : Nat) : Int) < 3 := by omega
          clear hs hml hpos
          go_wp2_with fail
          refine (l02Div_any A5 A6 c5 c6 u gk _ _ _ r5 r6 hu hv Hp.out).mono ?_
          rintro e w1 ⟨⟨A7, c7, A8, c8, rfl, r7, r8⟩, o1⟩
          go_wp2
          go_roundg (u % gk)
          case measure => exact Hml.out
          case rel => exact ⟨gk, A6, c6, A8, c8, rfl, rfl, NatS.below r6 o1, Row.more r8 zr, hv, hmlen, Hg, Old.trans O o1⟩
        · have i1 : ¬ ((len u : Nat) : Int) < 3 := by omega
          clear hs hml hpos
          go_wp2_with fail
          refine (l02Div_any A5 A6 c5 c6 u gk _ _ _ r5 r6 hu hv Hp.out).mono ?_
          rintro e w1 ⟨⟨A7, c7, A8, c8, rfl, r7, r8⟩, o1⟩
          go_wp2
          go_roundg (u % gk)
          case measure => exact Hml.out
          case rel => exact ⟨gk, A6, c6, A8, c8, rfl, rfl, NatS.below r6 o1, Row.more r8 zr, hv, hmlen, Hg, Old.trans O o1⟩
    · have e : gk = 0 := by omega
      have He : Hid (G = u) := Lib.hid (by rw [hg.out, e, Nat.gcd_zero_right])
      have hlz : len gk = 0 := by rw [e, len_zero]
      have hl0 : ¬ 0 < len gk := by omega
      have Hl : Hid (len gk = 0) := Lib.hid hlz
      clear hlz e
      rw [Hl.out]
      go_wp2
      go_ret
      exact ⟨by rw [He.out]; exact ⟨A5, c5, rfl, r5⟩, O⟩
theorem dig_self {n : Nat} (h : n ≤ 999999999) : dig n 0 = n := by
  unfold dig; rw [Nat.pow_zero, Nat.div_one, Nat.mod_eq_of_lt (by rw [B_eq]; omega)]
theorem len_one {n : Nat} (h0 : 0 < n) (h : n ≤ 999999999) : len n = 1 := len_eq (by rw [Nat.pow_one, B_eq]; omega) (fun _ => by rw [Nat.sub_self, Nat.pow_zero]; exact h0)
theorem one_row (w : World) (n : Nat) (h0 : 0 < n) (h : n ≤ 999999999) : NatS (w.alloc (.cells #[.int .i64 (n : Int)] 3)) 0 (some ⟨w.heap.size, 0, none⟩) 1 n := by
  refine ⟨by rw [len_one h0 h]; omega, fun _ => ⟨w.heap.size, 0, rfl, Nat.zero_le _, by simp, fun j => World.frozen?_alloc_at _ _ _ _ rfl, fun j hj => ?_⟩⟩
  rw [len_one h0 h] at hj
  rw [World.cell?_alloc_at _ _ _ _ rfl]
  obtain rfl : j = 0 := by omega
  unfold digI
  rw [dig_self h]
  rfl
set_option maxRecDepth 100000 in
set_option maxHeartbeats 1000000 in
theorem natGcd_any (A1 A2 : Option Addr) (c1 c2 a b lo1 lo2 : Nat) (w : World) (h1 : NatS w lo1 A1 c1 a) (h2 : NatS w lo2 A2 c2 b) (ha : len a ≤ 200) (hb : len b ≤ 200) :
    Calls Tryz.prog 62 #[.slice A1 (len a) c1, .slice A2 (len b) c2] w fun e w' => RetN e w' 0 (Nat.gcd a b) ∧ Old w w' := by
  obtain ⟨G, hG⟩ : ∃ G, G = Nat.gcd a b := ⟨_, rfl⟩
  have HG := Lib.hid hG
  rw [← hG]
  clear hG
  go_enter Tryz.func62, Tryz.ntmps62
  go_wp2
  go_loopg [0, 1] b (fun k x y wr => ∃ (u : Nat) (A5 : Option Addr) (c5 : Nat) (A6 : Option Addr) (c6 : Nat), x = .slice A5 (len u) c5 ∧ y = .slice A6 (len k) c6 ∧ NatS wr 0 A5 c5 u ∧ NatS wr 0 A6 c6 k ∧ len u ≤ 200 ∧ len k ≤ 200 ∧ Hid (G = Nat.gcd u k) ∧ Old w wr)
  case atStart => exact ⟨a, A1, c1, A2, c2, rfl, rfl, h1.more (Nat.zero_le _), h2.more (Nat.zero_le _), ha, hb, HG, Old.refl w⟩
  case round =>
    obtain ⟨u, A5, c5, A6, c6, rfl, rfl, r5, r6, hu, hv, hg, O⟩ := hrel
    by_cases hl1 : 1 < len gk
    · have hpos : 0 < gk := pos_len (by omega)
      have hml := Nat.mod_lt u hpos
      have hmlen : len (u % gk) ≤ 200 := Nat.le_trans (len_mono (Nat.le_of_lt hml)) hv
      have Hg : Hid (G = Nat.gcd gk (u % gk)) := Lib.hid (by rw [gcd_step]; exact hg.out)
      have Hp := Lib.hid hpos
      have Hml := Lib.hid hml
      have i1 : (1 : Int) < ((len gk : Nat) : Int) := by omega
      clear hml hpos
      go_wp2_with fail
      refine (natDiv_any A5 A6 c5 c6 u gk _ _ _ r5 r6 hu hv Hp.out).mono ?_
      rintro e w1 ⟨⟨A7, c7, A8, c8, rfl, r7, r8⟩, o1⟩
      go_wp2
      go_roundg (u % gk)
      case measure => exact Hml.out
      case rel => exact ⟨gk, A6, c6, A8, c8, rfl, rfl, NatS.below r6 o1, r8, hv, hmlen, Hg, Old.trans O o1⟩
    · have i1 : ¬ (1 : Int) < ((len gk : Nat) : Int) := by omega
      by_cases hl0 : len gk = 0
      · have e : gk = 0 := len_eq_zero.1 hl0
        have He : Hid (G = u) := Lib.hid (by rw [hg.out, e, Nat.gcd_zero_right])
        have i2 : (((len gk : Nat) : Int) == 0) = true := by simp [hl0]
        clear hl0 e
        go_wp2
        go_ret
        exact ⟨by rw [He.out]; exact ⟨A5, c5, rfl, r5⟩, O⟩
      · have i2 : (((len gk : Nat) : Int) == 0) = false := by simp; omega
        have hlk : len gk = 1 := by omega
        have Hd := Lib.hid (one_digit hlk)
        obtain ⟨gb, off, hA, hc⟩ := NatS.cell r6 (j := 0) (by omega)
        have hc0 : wr.cell? ⟨gb, off, none⟩ = some (.int .i64 (gk : Int)) := by rw [Nat.add_zero, Hd.out.1] at hc; exact hc
        have hgb : gb < wr.heap.size := by obtain ⟨b', off', e, _, hs, _⟩ := r6.2 (by omega); rw [hA] at e; injection e with e; injection e with e1 _; rw [e1]; exact hs
        have l01 : (0 : Int) < ((len gk : Nat) : Int) := by omega
        have l02 : 0 < len gk := by omega
        have k9 : gk ≤ 999999999 := Hd.out.2.1
        have k0 : 0 < gk := Hd.out.2.2
        have hml := Nat.mod_lt u k0
        subst hA
        clear hc hl0 hlk hl1
        obtain ⟨x, hx⟩ : ∃ x : Nat, x = u % gk := ⟨_, rfl⟩
        have HX := Lib.hid hx
        rw [← hx] at hml
        clear hx
        go_wp2_with fail
        refine (natDivSmall_any A5 c5 u _ gk _ r5 (by omega) k0 k9).mono ?_
        rintro e w1 ⟨A7, c7, he, r7, o1⟩
        rw [← HX.out] at he
        subst he
        have hc1 : w1.cell? ⟨gb, off, none⟩ = some (.int .i64 (gk : Int)) := (o1.cell (p := ⟨gb, off, none⟩) hgb).trans hc0
        have Hg0 : Hid (G = Nat.gcd gk x) := Lib.hid (by rw [HX.out, gcd_step]; exact hg.out)
        have O1 := Old.trans O o1
        clear hc0 r7
        go_wp2
        clear hc1
        go_loopw [8, 9] (fun p q wr => ∃ (s t : Nat), s ≤ 999999999 ∧ t ≤ 999999999 ∧ 0 < t ∧ p = .int .i64 (s : Int) ∧ q = .int .i64 (t : Int) ∧ Hid (G = Nat.gcd t s) ∧ Old w wr) (fun p _ _ => (intOf p).toNat)
        case atStart => exact ⟨x, gk, by omega, k9, k0, rfl, rfl, Hg0, O1⟩
        case round =>
          clear O1 o1 Hg0
          obtain ⟨s, t, hs9, ht9, ht0, rfl, rfl, hst, Or⟩ := hrel
          have zr := Or.size
          by_cases hs : 0 < s
          · have hp1 : (0 : Int) < (s : Int) := by omega
            have hp2 : ¬ (s : Int) = 0 := by omega
            have hp3 : ((s : Int) == 0) = false := by simp; omega
            have hml2 := Nat.mod_lt t hs
            have Hm : Hid (((t : Int) % (s : Int)) = ((t % s : Nat) : Int)) := Lib.hid (Int.natCast_emod t s).symm
            have Hg2 : Hid (G = Nat.gcd s (t % s)) := Lib.hid (by rw [gcd_step]; exact hst.out)
            have Hml2 := Lib.hid hml2
            clear hml2
            go_wp2
            go_quiet (fail)
            go_wp2
            go_roundw
            case rel => exact ⟨t % s, s, by have := Hml2.out; omega, hs9, hs, congrArg (Value.int .i64) Hm.out, rfl, Hg2, oldA⟩
            case measure => first | (rw [Hm.out]; have := Hml2.out; simp [intOf]; omega) | (have := Hml2.out; have := Hm.out; simp [intOf]; omega)
          · have e : s = 0 := by omega
            have He : Hid (G = t) := Lib.hid (by rw [hst.out, e, Nat.gcd_zero_right])
            subst e
            go_wp2
            go_ret
            have hG1 : len G = 1 := by rw [He.out]; exact len_one ht0 ht9
            exact ⟨⟨_, _, by rw [hG1]; rfl, by rw [He.out]; exact one_row _ t ht0 ht9⟩, oldA⟩
end Go.Proofs.YtgchbbjhdeobpaaGreatDoor
