import Derived.Test.YtgchbbjhdeobpaaGreatDoorNatDiv2
import Derived.Test.YtgchbbjhdeobpaaGreatDoorNumA
import Derived.Laws.FloatArith
import Derived.IntWalk
import Derived.Deep.DeepCutAuto
/-
  The program's search for a digit of a quotient: a first guess by floats, then by halves.
-/
namespace Go.Proofs.YtgchbbjhdeobpaaGreatDoor
set_option linter.unusedVariables false
open Go.RowKit Num

theorem fl_int (n : Nat) (h : n ≤ 999999999) : Flo.Fl (floatOfInt .f64 (n : Int)) n 1 := by
  have e : floatOfInt .f64 (n : Int) = Ieee.double.nearest false n 0 := by
    unfold floatOfInt FloatKind.nearest FloatKind.encode
    have hd : decide ((n : Int) < 0) = false := decide_eq_false (by omega)
    rw [hd, Int.natAbs_natCast]
    rfl
  rw [e]
  exact Flo.fl_of n (Nat.lt_of_le_of_lt h (by decide))
theorem fl_base : Flo.Fl 4741671816366391296 1000000000 0 := by
  refine ⟨8388608000000000, -23, by decide, by omega, by omega, ?_⟩
  have e : Flo.W 8388608000000000 (-23) = Flo.V 1000000000 := by
    have h := Flo.W_pow (m := 1000000000) (p := -23) (by omega) 23
    rw [← Flo.W_zero]
    exact h
  rw [e]
  exact Flo.Close.refl _
/-- The words that the guess goes through. -/
structure Guess (r b m : Nat) (u1 u2 u3 u4 u5 v1 v2 q : Nat) (g : Nat) : Prop where
  e1 : floatBits .mul .f64 (floatOfInt .f64 ((dig r (m + 2) : Nat) : Int)) 4741671816366391296 = some u1
  e2 : floatBits .mul .f64 u1 4741671816366391296 = some u2
  e3 : floatBits .mul .f64 (floatOfInt .f64 ((dig r (m + 1) : Nat) : Int)) 4741671816366391296 = some u3
  e4 : floatBits .add .f64 u2 u3 = some u4
  e5 : floatBits .add .f64 u4 (floatOfInt .f64 ((dig r m : Nat) : Int)) = some u5
  f1 : floatBits .mul .f64 (floatOfInt .f64 ((dig b (m + 1) : Nat) : Int)) 4741671816366391296 = some v1
  f2 : floatBits .add .f64 v1 (floatOfInt .f64 ((dig b m : Nat) : Int)) = some v2
  eq : floatBits .quo .f64 u5 v2 = some q
  ei : floatToIntVal .f64 q .i64 = some (g : Int)
  lo : g ≤ r / b + 2
  hi : r / b ≤ g + 2
theorem guess_ex {r b m : Nat} (hm : len b = m + 2) (hge : b ≤ r) (hlt : r < b * B) : ∃ u1 u2 u3 u4 u5 v1 v2 q g, Guess r b m u1 u2 u3 u4 u5 v1 v2 q g := by
  have d2 := dig_le r (m + 2)
  have d1 := dig_le r (m + 1)
  have d0 := dig_le r m
  have b1 := dig_le b (m + 1)
  have b0 := dig_le b m
  have big : (1000000000000000000000000000000 : Nat) < 2 ^ 200 := by decide
  obtain ⟨u1, e1, k1⟩ := Flo.fl_mul (fl_int _ d2) fl_base (by omega) (by omega)
  obtain ⟨u2, e2, k2⟩ := Flo.fl_mul k1 fl_base (by omega) (by omega)
  obtain ⟨u3, e3, k3⟩ := Flo.fl_mul (fl_int _ d1) fl_base (by omega) (by omega)
  obtain ⟨u4, e4, k4⟩ := Flo.fl_add k2 k3 (by omega) (by omega) (by omega)
  obtain ⟨u5, e5, k5⟩ := Flo.fl_add k4 (fl_int _ d0) (by omega) (by omega) (by omega)
  obtain ⟨v1, f1, l1⟩ := Flo.fl_mul (fl_int _ b1) fl_base (by omega) (by omega)
  obtain ⟨v2, f2, l2⟩ := Flo.fl_add l1 (fl_int _ b0) (by omega) (by omega) (by omega)
  have t3 : top3 r (m + 2) = dig r (m + 2) * 1000000000 * 1000000000 + dig r (m + 1) * 1000000000 + dig r m := by unfold top3; rw [B_eq]; rfl
  have t2 : top2 b (m + 2) = dig b (m + 1) * 1000000000 + dig b m := by unfold top2; rw [B_eq]; rfl
  rw [← t3] at k5
  rw [← t2] at l2
  have hD := top2_ge (by omega : 2 ≤ m + 2) hm
  obtain ⟨q, g, eq, ei, g1, g2, g3⟩ := Flo.guess k5 l2 (top3_pos (by omega) hm hlt hge) (by have := B_pos; omega) (top3_small _ _) (top2_small _ _) (by omega) (top3_lt (by omega) hm hlt)
  obtain ⟨n1, n2⟩ := guess_near (by omega : 2 ≤ m + 2) hm hlt g1 g2
  refine ⟨u1, u2, u3, u4, u5, v1, v2, q, g, e1, e2, e3, e4, e5, f1, f2, eq, ?_, n1, n2⟩
  unfold floatToIntVal
  have hd : (FloatKind.f64.decode q).toInt .zero = some (g : Int) := ei
  rw [hd]
  have hb : IntKind.i64.min ≤ (g : Int) ∧ (g : Int) ≤ IntKind.i64.max := by
    have h1 : IntKind.i64.min = -9223372036854775808 := by decide
    have h2 : IntKind.i64.max = 9223372036854775807 := by decide
    rw [h1, h2]; omega
  simp only [if_pos hb]

theorem top_len {r b : Nat} (hlt : r < b * B) : len r ≤ len b + 1 := by
  apply len_le_iff.2
  rw [Nat.pow_succ]
  exact Nat.lt_of_lt_of_le hlt (Nat.mul_le_mul_right B (Nat.le_of_lt (lt_len b)))
theorem limb_to (k : Nat) (i : Int) (hi : i = (k : Int)) (A : Option Addr) (c x lo : Nat) (w : World) (h : NatS w lo A c x) (hx : len x ≤ 1000) (hk : k ≤ 2000) :
    Calls Tryz.prog 103 #[.slice A (len x) c, .int .i64 i] w fun e w' => e = .returned (.int .i64 ((dig x k : Nat) : Int)) ∧ w = w' := by
  subst hi; exact limb_any A c x lo k w h hx hk
theorem natMul_w (n : Nat) (A1 A2 : Option Addr) (c1 c2 x y lo1 lo2 : Nat) (w : World) (hn : len x = n) (h1 : Row w lo1 A1 n c1 (digI x)) (h2 : NatS w lo2 A2 c2 y) (hx : n ≤ 250) (hy : len y ≤ 250) :
    Calls Tryz.prog 75 #[.slice A1 n c1, .slice A2 (len y) c2] w fun e w' => ∃ A c, e = .returned (.slice A (len (x * y)) c) ∧ NatS w' w.heap.size A c (x * y) ∧ Old w w' := by
  subst hn; exact natMul_any A1 A2 c1 c2 x y lo1 lo2 w h1 h2 hx hy
set_option maxRecDepth 100000 in
set_option maxHeartbeats 1000000 in
theorem digit_core (A1 A2 : Option Addr) (c1 c2 r b m lo1 lo2 : Nat) (w : World) (h1 : NatS w lo1 A1 c1 r) (hm : len b = m + 2) (h2 : Row w lo2 A2 (m + 2) c2 (digI b)) (hr : len r ≤ m + 3) (hm2 : m ≤ 238) (hge : b ≤ r) (hlt : r < b * B) (hb0 : 0 < b) (hq9 : r / b ≤ 999999999) :
    Calls Tryz.prog 115 #[.slice A1 (len r) c1, .slice A2 (m + 2) c2] w fun e w' => e = .returned (.int .i64 ((r / b : Nat) : Int)) ∧ Old w w' := by
  obtain ⟨u1, u2, u3, u4, u5, v1, v2, qf, g, G⟩ := guess_ex hm hge hlt
  obtain ⟨q, hqq⟩ : ∃ q : Nat, q = r / b := ⟨_, rfl⟩
  have glo := G.lo
  have ghi := G.hi
  rw [← hqq] at hq9 glo ghi ⊢
  have HS : Hid (∀ m : Nat, b * m ≤ r ↔ m ≤ q) := Lib.hid fun m => by rw [hqq]; exact digit_le hb0
  have HM := Lib.hid hm
  obtain ⟨b2, off2, rfl, _, _, _, hc2⟩ := h2.2 (by omega)
  have q1 : w.cell? ⟨b2, off2 + (m + 1), none⟩ = some (.int .i64 ((dig b (m + 1) : Nat) : Int)) := hc2 (m + 1) (by omega)
  have q0 : w.cell? ⟨b2, off2 + m, none⟩ = some (.int .i64 ((dig b m : Nat) : Int)) := hc2 m (by omega)
  have x1 : ∀ t w, (binOp .mul t (.float .f64 (floatOfInt .f64 ((dig r (m + 2) : Nat) : Int))) (.float .f64 4741671816366391296)).run Tryz.prog w = .ok (.float .f64 u1) w := fun t w => run_float_arith w .mul t .f64 _ _ _ G.e1
  have x2 : ∀ t w, (binOp .mul t (.float .f64 u1) (.float .f64 4741671816366391296)).run Tryz.prog w = .ok (.float .f64 u2) w := fun t w => run_float_arith w .mul t .f64 _ _ _ G.e2
  have x3 : ∀ t w, (binOp .mul t (.float .f64 (floatOfInt .f64 ((dig r (m + 1) : Nat) : Int))) (.float .f64 4741671816366391296)).run Tryz.prog w = .ok (.float .f64 u3) w := fun t w => run_float_arith w .mul t .f64 _ _ _ G.e3
  have x4 : ∀ t w, (binOp .add t (.float .f64 u2) (.float .f64 u3)).run Tryz.prog w = .ok (.float .f64 u4) w := fun t w => run_float_arith w .add t .f64 _ _ _ G.e4
  have x5 : ∀ t w, (binOp .add t (.float .f64 u4) (.float .f64 (floatOfInt .f64 ((dig r m : Nat) : Int)))).run Tryz.prog w = .ok (.float .f64 u5) w := fun t w => run_float_arith w .add t .f64 _ _ _ G.e5
  have y1 : ∀ t w, (binOp .mul t (.float .f64 (floatOfInt .f64 ((dig b (m + 1) : Nat) : Int))) (.float .f64 4741671816366391296)).run Tryz.prog w = .ok (.float .f64 v1) w := fun t w => run_float_arith w .mul t .f64 _ _ _ G.f1
  have y2 : ∀ t w, (binOp .add t (.float .f64 v1) (.float .f64 (floatOfInt .f64 ((dig b m : Nat) : Int)))).run Tryz.prog w = .ok (.float .f64 v2) w := fun t w => run_float_arith w .add t .f64 _ _ _ G.f2
  have z1 : ∀ t w, (binOp .quo t (.float .f64 u5) (.float .f64 v2)).run Tryz.prog w = .ok (.float .f64 qf) w := fun t w => run_float_arith w .quo t .f64 _ _ _ G.eq
  have z2 : ∀ w, (convert 113 3 (.float .f64 qf)).run Tryz.prog w = .ok (.int .i64 (g : Int)) w := fun w => run_convert_float_int w 113 3 .f64 .i64 qf g rfl Tryz.underlying3 G.ei
  have hr' : ((len r : Nat) : Int) ≤ (m : Int) + 2 + 1 := by omega
  clear hc2 hqq hm hge hlt G hb0
  go_enter Tryz.func115, Tryz.ntmps115
  go_wp2_with fail
  refine (limb_to (m + 2) _ (by omega) A1 c1 r lo1 _ h1 (by omega) (by omega)).mono ?_
  rintro e w' ⟨rfl, rfl⟩
  go_wp2_with fail
  refine (limb_to (m + 1) _ (by omega) A1 c1 r lo1 _ h1 (by omega) (by omega)).mono ?_
  rintro e w' ⟨rfl, rfl⟩
  go_wp2_with fail
  refine (limb_to m _ (by omega) A1 c1 r lo1 _ h1 (by omega) (by omega)).mono ?_
  rintro e w' ⟨rfl, rfl⟩
  go_wp2_with fail
  clear x1 x2 x3 x4 x5
  go_quiet (fail)
  clear y1 y2
  go_upto_region 6 with fail
  rw [show m + 2 - 1 = m + 1 from rfl]
  by_cases hA : 2000 < g
  · have hA1 : (0 : Int) < (g : Int) - 2000 := by omega
    by_cases hB : g < 999997999
    · have hB1 : (g : Int) + 2000 < 999999999 := by omega
      obtain ⟨l0, hl0⟩ : ∃ l0 : Nat, (g : Int) - 2000 = (l0 : Int) := ⟨g - 2000, by omega⟩
      obtain ⟨h0, hh0⟩ : ∃ h0 : Nat, (g : Int) + 2000 = (h0 : Int) := ⟨g + 2000, by omega⟩
      have hl1 : (0 : Int) < (l0 : Int) := by omega
      have hh1 : (h0 : Int) < 999999999 := by omega
      have hlq : l0 ≤ q := by omega
      have hqh : q ≤ h0 := by omega
      clear hA1 hB1 hA hB
      go_wp2_with fail
      clear z1 z2 hl0 hh0
      go_loopw [5, 6] (fun v u wr => ∃ (l h : Nat), l ≤ q ∧ q ≤ h ∧ h ≤ 999999999 ∧ v = .int .i64 (l : Int) ∧ u = .int .i64 (h : Int) ∧ Old w wr) (fun v u _ => (intOf u).toNat - (intOf v).toNat)
      case atStart => exact ⟨l0, h0, hlq, hqh, by omega, rfl, rfl, oldA⟩
      case round =>
        clear hl1 hh1 hlq hqh glo ghi
        obtain ⟨l, h, hl, hh, hh9, rfl, rfl, ho⟩ := hrel
        by_cases hlt : l < h
        · obtain ⟨k, hk, hk1, hk2⟩ := mid_bounds hlt
          have Hk := Lib.hid hk
          have Hkl := mul_le_len (b := b) (m := k) (by omega)
          have hbl : len b ≤ m + 2 := by have := HM.out; omega
          have hk9 : k ≤ 999999999 := by omega
          have hlk : len k ≤ 1 := len_le_iff.2 (by rw [B_eq]; omega)
          clear hk
          go_wp2_with fail
          refine (natOf_to' k _ Hk.out hk9 _).mono ?_
          rintro e w1 ⟨⟨A3, c3, rfl, r3⟩, o1⟩
          go_wp2_with fail
          refine (natMul_w (m + 2) _ A3 c2 c3 b k lo2 _ _ HM.out (Row.below (Row.below h2 ho (Nat.le_refl _)) o1 (Nat.le_refl _)) r3 (by omega) (by omega)).mono ?_
          rintro e w2 ⟨A4, c4, rfl, r4, o2⟩
          go_wp2_with fail
          refine (natCmp_any A4 A1 c4 c1 (b * k) r _ lo1 _ r4 (NatS.below (NatS.below (NatS.below h1 ho) o1) o2) (by omega) (by omega)).mono ?_
          rintro e w3 ⟨rfl, o3⟩
          have o' : Old w w3 := Old.trans (Old.trans (Old.trans ho o1) o2) o3
          by_cases hc : k ≤ q
          · have hc' : cmpN (b * k) r ≤ 0 := cmpN_nonpos.2 ((HS.out k).2 hc)
            go_wp2
            go_roundw
            case rel => exact ⟨k, h, hc, hh, hh9, congrArg (Value.int .i64) Hk.out, rfl, o'⟩
            case measure => rw [Hk.out]; simp [intOf]; omega
          · have hc' : ¬ cmpN (b * k) r ≤ 0 := fun h => hc ((HS.out k).1 (cmpN_nonpos.1 h))
            go_wp2
            go_roundw
            case rel => exact ⟨l, k - 1, hl, by omega, by omega, rfl, congrArg (Value.int .i64) (by have := Hk.out; omega), o'⟩
            case measure => rw [Hk.out]; simp [intOf]; omega
        · have e : l = q := by omega
          subst e
          go_wp2
          go_ret
          exact ⟨rfl, ho⟩
    · have hB1 : ¬ (g : Int) + 2000 < 999999999 := by omega
      go_wp2_with fail
      clear z1 z2
      go_loopw [5, 6] (fun v u wr => ∃ (l h : Nat), l ≤ q ∧ q ≤ h ∧ h ≤ 999999999 ∧ v = .int .i64 (l : Int) ∧ u = .int .i64 (h : Int) ∧ Old w wr) (fun v u _ => (intOf u).toNat - (intOf v).toNat)
      case atStart => exact ⟨g - 2000, 999999999, by omega, by omega, by omega, congrArg (Value.int .i64) (by omega), congrArg (Value.int .i64) (by omega), oldA⟩
      case round =>
        clear hA1 hB1 hA hB glo ghi
        obtain ⟨l, h, hl, hh, hh9, rfl, rfl, ho⟩ := hrel
        by_cases hlt : l < h
        · obtain ⟨k, hk, hk1, hk2⟩ := mid_bounds hlt
          have Hk := Lib.hid hk
          have Hkl := mul_le_len (b := b) (m := k) (by omega)
          have hbl : len b ≤ m + 2 := by have := HM.out; omega
          have hk9 : k ≤ 999999999 := by omega
          have hlk : len k ≤ 1 := len_le_iff.2 (by rw [B_eq]; omega)
          clear hk
          go_wp2_with fail
          refine (natOf_to' k _ Hk.out hk9 _).mono ?_
          rintro e w1 ⟨⟨A3, c3, rfl, r3⟩, o1⟩
          go_wp2_with fail
          refine (natMul_w (m + 2) _ A3 c2 c3 b k lo2 _ _ HM.out (Row.below (Row.below h2 ho (Nat.le_refl _)) o1 (Nat.le_refl _)) r3 (by omega) (by omega)).mono ?_
          rintro e w2 ⟨A4, c4, rfl, r4, o2⟩
          go_wp2_with fail
          refine (natCmp_any A4 A1 c4 c1 (b * k) r _ lo1 _ r4 (NatS.below (NatS.below (NatS.below h1 ho) o1) o2) (by omega) (by omega)).mono ?_
          rintro e w3 ⟨rfl, o3⟩
          have o' : Old w w3 := Old.trans (Old.trans (Old.trans ho o1) o2) o3
          by_cases hc : k ≤ q
          · have hc' : cmpN (b * k) r ≤ 0 := cmpN_nonpos.2 ((HS.out k).2 hc)
            go_wp2
            go_roundw
            case rel => exact ⟨k, h, hc, hh, hh9, congrArg (Value.int .i64) Hk.out, rfl, o'⟩
            case measure => rw [Hk.out]; simp [intOf]; omega
          · have hc' : ¬ cmpN (b * k) r ≤ 0 := fun h => hc ((HS.out k).1 (cmpN_nonpos.1 h))
            go_wp2
            go_roundw
            case rel => exact ⟨l, k - 1, hl, by omega, by omega, rfl, congrArg (Value.int .i64) (by have := Hk.out; omega), o'⟩
            case measure => rw [Hk.out]; simp [intOf]; omega
        · have e : l = q := by omega
          subst e
          go_wp2
          go_ret
          exact ⟨rfl, ho⟩
  · have hA1 : ¬ (0 : Int) < (g : Int) - 2000 := by omega
    by_cases hB : g < 999997999
    · have hB1 : (g : Int) + 2000 < 999999999 := by omega
      go_wp2_with fail
      clear z1 z2
      go_loopw [5, 6] (fun v u wr => ∃ (l h : Nat), l ≤ q ∧ q ≤ h ∧ h ≤ 999999999 ∧ v = .int .i64 (l : Int) ∧ u = .int .i64 (h : Int) ∧ Old w wr) (fun v u _ => (intOf u).toNat - (intOf v).toNat)
      case atStart => exact ⟨0, g + 2000, by omega, by omega, by omega, congrArg (Value.int .i64) (by omega), congrArg (Value.int .i64) (by omega), oldA⟩
      case round =>
        clear hA1 hB1 hA hB glo ghi
        obtain ⟨l, h, hl, hh, hh9, rfl, rfl, ho⟩ := hrel
        by_cases hlt : l < h
        · obtain ⟨k, hk, hk1, hk2⟩ := mid_bounds hlt
          have Hk := Lib.hid hk
          have Hkl := mul_le_len (b := b) (m := k) (by omega)
          have hbl : len b ≤ m + 2 := by have := HM.out; omega
          have hk9 : k ≤ 999999999 := by omega
          have hlk : len k ≤ 1 := len_le_iff.2 (by rw [B_eq]; omega)
          clear hk
          go_wp2_with fail
          refine (natOf_to' k _ Hk.out hk9 _).mono ?_
          rintro e w1 ⟨⟨A3, c3, rfl, r3⟩, o1⟩
          go_wp2_with fail
          refine (natMul_w (m + 2) _ A3 c2 c3 b k lo2 _ _ HM.out (Row.below (Row.below h2 ho (Nat.le_refl _)) o1 (Nat.le_refl _)) r3 (by omega) (by omega)).mono ?_
          rintro e w2 ⟨A4, c4, rfl, r4, o2⟩
          go_wp2_with fail
          refine (natCmp_any A4 A1 c4 c1 (b * k) r _ lo1 _ r4 (NatS.below (NatS.below (NatS.below h1 ho) o1) o2) (by omega) (by omega)).mono ?_
          rintro e w3 ⟨rfl, o3⟩
          have o' : Old w w3 := Old.trans (Old.trans (Old.trans ho o1) o2) o3
          by_cases hc : k ≤ q
          · have hc' : cmpN (b * k) r ≤ 0 := cmpN_nonpos.2 ((HS.out k).2 hc)
            go_wp2
            go_roundw
            case rel => exact ⟨k, h, hc, hh, hh9, congrArg (Value.int .i64) Hk.out, rfl, o'⟩
            case measure => rw [Hk.out]; simp [intOf]; omega
          · have hc' : ¬ cmpN (b * k) r ≤ 0 := fun h => hc ((HS.out k).1 (cmpN_nonpos.1 h))
            go_wp2
            go_roundw
            case rel => exact ⟨l, k - 1, hl, by omega, by omega, rfl, congrArg (Value.int .i64) (by have := Hk.out; omega), o'⟩
            case measure => rw [Hk.out]; simp [intOf]; omega
        · have e : l = q := by omega
          subst e
          go_wp2
          go_ret
          exact ⟨rfl, ho⟩
    · have hB1 : ¬ (g : Int) + 2000 < 999999999 := by omega
      go_wp2_with fail
      clear z1 z2
      go_loopw [5, 6] (fun v u wr => ∃ (l h : Nat), l ≤ q ∧ q ≤ h ∧ h ≤ 999999999 ∧ v = .int .i64 (l : Int) ∧ u = .int .i64 (h : Int) ∧ Old w wr) (fun v u _ => (intOf u).toNat - (intOf v).toNat)
      case atStart => exact ⟨0, 999999999, by omega, by omega, by omega, congrArg (Value.int .i64) (by omega), congrArg (Value.int .i64) (by omega), oldA⟩
      case round =>
        clear hA1 hB1 hA hB glo ghi
        obtain ⟨l, h, hl, hh, hh9, rfl, rfl, ho⟩ := hrel
        by_cases hlt : l < h
        · obtain ⟨k, hk, hk1, hk2⟩ := mid_bounds hlt
          have Hk := Lib.hid hk
          have Hkl := mul_le_len (b := b) (m := k) (by omega)
          have hbl : len b ≤ m + 2 := by have := HM.out; omega
          have hk9 : k ≤ 999999999 := by omega
          have hlk : len k ≤ 1 := len_le_iff.2 (by rw [B_eq]; omega)
          clear hk
          go_wp2_with fail
          refine (natOf_to' k _ Hk.out hk9 _).mono ?_
          rintro e w1 ⟨⟨A3, c3, rfl, r3⟩, o1⟩
          go_wp2_with fail
          refine (natMul_w (m + 2) _ A3 c2 c3 b k lo2 _ _ HM.out (Row.below (Row.below h2 ho (Nat.le_refl _)) o1 (Nat.le_refl _)) r3 (by omega) (by omega)).mono ?_
          rintro e w2 ⟨A4, c4, rfl, r4, o2⟩
          go_wp2_with fail
          refine (natCmp_any A4 A1 c4 c1 (b * k) r _ lo1 _ r4 (NatS.below (NatS.below (NatS.below h1 ho) o1) o2) (by omega) (by omega)).mono ?_
          rintro e w3 ⟨rfl, o3⟩
          have o' : Old w w3 := Old.trans (Old.trans (Old.trans ho o1) o2) o3
          by_cases hc : k ≤ q
          · have hc' : cmpN (b * k) r ≤ 0 := cmpN_nonpos.2 ((HS.out k).2 hc)
            go_wp2
            go_roundw
            case rel => exact ⟨k, h, hc, hh, hh9, congrArg (Value.int .i64) Hk.out, rfl, o'⟩
            case measure => rw [Hk.out]; simp [intOf]; omega
          · have hc' : ¬ cmpN (b * k) r ≤ 0 := fun h => hc ((HS.out k).1 (cmpN_nonpos.1 h))
            go_wp2
            go_roundw
            case rel => exact ⟨l, k - 1, hl, by omega, by omega, rfl, congrArg (Value.int .i64) (by have := Hk.out; omega), o'⟩
            case measure => rw [Hk.out]; simp [intOf]; omega
        · have e : l = q := by omega
          subst e
          go_wp2
          go_ret
          exact ⟨rfl, ho⟩
theorem digit_any (A1 A2 : Option Addr) (c1 c2 r b lo1 lo2 : Nat) (w : World) (h1 : NatS w lo1 A1 c1 r) (h2 : NatS w lo2 A2 c2 b) (hr : len r ≤ 240) (hb : len b ≤ 240) (hlb : 1 < len b) (hge : b ≤ r) (hlt : r < b * B) (hq9 : r / b ≤ 999999999) :
    Calls Tryz.prog 115 #[.slice A1 (len r) c1, .slice A2 (len b) c2] w fun e w' => e = .returned (.int .i64 ((r / b : Nat) : Int)) ∧ Old w w' := by
  obtain ⟨m, hm⟩ : ∃ m, len b = m + 2 := ⟨len b - 2, by omega⟩
  have hb0 : 0 < b := by
    rcases Nat.eq_zero_or_pos b with h | h
    · rw [h, len_zero] at hlb; omega
    · exact h
  have h3 : Row w lo2 A2 (m + 2) c2 (digI b) := by rw [← hm]; exact h2
  have hl := top_len hlt
  rw [hm]
  exact digit_core A1 A2 c1 c2 r b m lo1 lo2 w h1 hm h3 (by omega) (by omega) hge hlt hb0 hq9
end Go.Proofs.YtgchbbjhdeobpaaGreatDoor
