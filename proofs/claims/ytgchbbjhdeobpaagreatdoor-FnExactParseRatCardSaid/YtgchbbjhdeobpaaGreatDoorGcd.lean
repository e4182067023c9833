import Derived.Test.YtgchbbjhdeobpaaGreatDoorNatDiv3
import Derived.Deep.DeepCutAuto
/-
  The greatest common divisor: l02Plain, l02Gcd, natGcd, both NatGcd's.
-/
namespace Go.Proofs.YtgchbbjhdeobpaaGreatDoor
set_option linter.unusedVariables false
open Go.RowKit Num

theorem natX_digI {x : Nat} (hx : len x ≤ 60) : natX (len x) (digI x) = x := by
  obtain ⟨h1, _, h3⟩ := natX_spec (okP_of hx)
  have hd : digs (natX (len x) (digI x)) = digs x := by
    apply List.ext_getElem?
    intro i
    by_cases hi : i < len x
    · rw [digs_get _ _ (by omega), digs_get _ _ hi]
      have := h3 i hi
      simp only [digI] at this
      have e : dig (natX (len x) (digI x)) i = dig x i := by omega
      rw [e]
    · rw [List.getElem?_eq_none (by rw [digs_length]; omega), List.getElem?_eq_none (by rw [digs_length]; omega)]
  exact digs_inj hd
theorem small_le {x : Nat} (h : len x < 3) : x ≤ 999999999999999999 := by
  have h1 := lt_len x
  have h2 := pow_le (show len x ≤ 2 by omega)
  have h3 : B ^ 2 = 1000000000000000000 := by rw [B_eq]
  omega
theorem gcd_step (u v : Nat) : Nat.gcd v (u % v) = Nat.gcd u v := by
  rw [Nat.gcd_comm v, ← Nat.gcd_rec, Nat.gcd_comm]
theorem gcd_len {a b : Nat} {n : Nat} (ha : len a ≤ n) (hb : len b ≤ n) : len (Nat.gcd a b) ≤ n := by
  rcases Nat.eq_zero_or_pos a with h | h
  · subst h; rw [Nat.gcd_zero_left]; exact hb
  · exact Nat.le_trans (len_mono (Nat.le_of_dvd h (Nat.gcd_dvd_left a b))) ha
theorem spec_NatToInt_small (A : Option Addr) (c x lo : Nat) (w : World) (h : NatS w lo A c x) (hx : len x < 3) :
    Calls Tryz.prog 105 #[.slice A (len x) c] w fun e w' => e = .returned (.tuple #[.int .i64 (x : Int), .bool true]) ∧ Old w w' := by
  refine (spec_NatToInt A (len x) c lo (digI x) w h (by omega)).mono ?_
  rintro e w' ⟨rfl, o⟩
  refine ⟨?_, o⟩
  have hle := small_le hx
  unfold rNatToInt0 rNatToInt1
  rw [rNatOk_yes (okP_of (by omega)), natX_digI (by omega), (toInt_yes (by omega : x ≤ 9223372036854775807)).1, (toInt_yes (by omega : x ≤ 9223372036854775807)).2]
  rfl
set_option maxRecDepth 100000 in
set_option maxHeartbeats 1000000 in
theorem l02Plain_any (x y : Nat) (w : World) (hx : x ≤ 9223372036854775807) (hy : y ≤ 9223372036854775807) :
    Calls Tryz.prog 106 #[.int .i64 (x : Int), .int .i64 (y : Int)] w fun e w' => RetN e w' w.heap.size (Nat.gcd x y) ∧ Old w w' := by
  obtain ⟨G, hG⟩ : ∃ G, G = Nat.gcd x y := ⟨_, rfl⟩
  have HG := Lib.hid hG
  rw [← hG]
  clear hG
  go_enter Tryz.func106, Tryz.ntmps106
  go_wp2
  go_loop [0, 1] (fun a b => ∃ (u v : Nat), u ≤ 9223372036854775807 ∧ v ≤ 9223372036854775807 ∧ a = .int .i64 (u : Int) ∧ b = .int .i64 (v : Int) ∧ Hid (G = Nat.gcd u v)) (fun _ b => (intOf b).toNat)
  case atStart => exact ⟨x, y, hx, hy, rfl, rfl, HG⟩
  case round =>
    obtain ⟨u, v, hu, hv, rfl, rfl, hg⟩ := hrel
    by_cases hpos : 0 < v
    · have hp1 : (0 : Int) < (v : Int) := by omega
      have hp2 : ¬ (v : Int) = 0 := by omega
      have hp3 : ((v : Int) == 0) = false := by simp; omega
      have hml := Nat.mod_lt u hpos
      have Hm : Hid (((u : Int) % (v : Int)) = ((u % v : Nat) : Int)) := Lib.hid (Int.natCast_emod u v).symm
      have Hg : Hid (G = Nat.gcd v (u % v)) := Lib.hid (by rw [gcd_step]; exact hg.out)
      have Hml := Lib.hid hml
      clear hml
      go_wp2
      go_round
      case rel => exact ⟨v, u % v, hv, by have := Hml.out; omega, rfl, congrArg (Value.int .i64) Hm.out, Hg⟩
      case measure => rw [Hm.out]; have := Hml.out; simp [intOf]; omega
    · have e : v = 0 := by omega
      have He : Hid (G = u) := Lib.hid (by rw [hg.out, e, Nat.gcd_zero_right])
      have hu2 : u ≤ 9223372036854775807 := hu
      subst e
      go_wp2_with fail
      refine (spec_NatOf (u : Int) _ (by omega)).mono ?_
      rintro e w1 ⟨⟨A1, c1, rfl, r1⟩, o1⟩
      have Hr : Hid (rNatOf (u : Int) = G) := Lib.hid (by rw [He.out, rNatOf_nat hu2])
      rw [Hr.out] at r1
      have hl : len (rNatOf (u : Int)) = len G := by rw [Hr.out]
      go_wp2
      go_ret
      exact ⟨⟨A1, c1, rfl, r1⟩, o1⟩
set_option maxRecDepth 100000 in
set_option maxHeartbeats 1000000 in
theorem l02Gcd_any (A1 A2 : Option Addr) (c1 c2 a b lo1 lo2 : Nat) (w : World) (h1 : NatS w lo1 A1 c1 a) (h2 : NatS w lo2 A2 c2 b) (ha : len a ≤ 200) (hb : len b ≤ 200) :
    Calls Tryz.prog 81 #[.slice A1 (len a) c1, .slice A2 (len b) c2] w fun e w' => RetN e w' w.heap.size (Nat.gcd a b) ∧ Old w w' := by
  obtain ⟨G, hG⟩ : ∃ G, G = Nat.gcd a b := ⟨_, rfl⟩
  have HG := Lib.hid hG
  rw [← hG]
  clear hG
  go_enter Tryz.func81, Tryz.ntmps81
  go_wp2_with (first
    | (at_builtin; refine wpList_clone rfl (.tmp 13) (.tmp 14) rfl (base := w.heap.size) (f := digI a) (lo := lo1) rfl (fresh_own (Nat.le_refl _)) rfl (Row.below (B := w.heap.size) h1 oldA (Nat.le_refl _)) (by omega) (by simp) ?_; intro A5 c5 w1 r5 o5; have o5' : Old w w1 := Below.trans (b := _) oldA o5; have z5 := o5'.size)
    | (at_builtin; refine wpList_clone rfl (.tmp 16) (.tmp 17) rfl (base := w1.heap.size) (f := digI b) (lo := lo2) rfl (fresh_own (Nat.le_refl _)) rfl (Row.below (B := w.heap.size) h2 (Below.trans (b := w1) o5' oldA) (Nat.le_refl _)) (by omega) (by simp) ?_; intro A6 c6 w2 r6 o6; have o6' : Old w1 w2 := Below.trans (b := _) oldA o6; have z6 := o6'.size))
  have O2 := Old.trans o5' o6'
  go_loopg [5, 6] b (fun k x y wr => ∃ (u : Nat) (A5 : Option Addr) (c5 : Nat) (A6 : Option Addr) (c6 : Nat), x = .slice A5 (len u) c5 ∧ y = .slice A6 (len k) c6 ∧ NatS wr w.heap.size A5 c5 u ∧ NatS wr w.heap.size A6 c6 k ∧ len u ≤ 200 ∧ len k ≤ 200 ∧ Hid (G = Nat.gcd u k) ∧ Old w wr)
  case atStart => exact ⟨a, A5, c5, A6, c6, rfl, rfl, NatS.below r5 o6', Row.more r6 z5, ha, hb, HG, O2⟩
  case round =>
    clear r5 o5 o5' z5 r6 o6 o6' z6 O2
    obtain ⟨u, A5, c5, A6, c6, rfl, rfl, r5, r6, hu, hv, hg, O⟩ := hrel
    have zr := O.size
    by_cases hpos : 0 < gk
    · have hlp := len_pos hpos
      by_cases hs : len u < 3 ∧ len gk < 3
      · obtain ⟨hs1, hs2⟩ := hs
        have i1 : ((len u : Nat) : Int) < 3 := by omega
        have i2 : ((len gk : Nat) : Int) < 3 := by omega
        have hu9 := small_le hs1
        have hv9 := small_le hs2
        go_wp2_with fail
        refine (spec_NatToInt_small A5 c5 u _ _ r5 hs1).mono ?_
        rintro e w1 ⟨rfl, o1⟩
        have z1 := o1.size
        go_wp2_with fail
        refine (spec_NatToInt_small A6 c6 gk _ _ (NatS.below r6 o1) hs2).mono ?_
        rintro e w2 ⟨rfl, o2⟩
        have z2 := o2.size
        go_wp2_with fail
        refine (l02Plain_any u gk _ (by omega) (by omega)).mono ?_
        rintro e w3 ⟨⟨A, c, he, r⟩, o3⟩
        rw [← hg.out] at he r
        subst he
        go_wp2
        go_ret
        exact ⟨⟨A, c, rfl, Row.more r leA⟩, Old.trans (Old.trans (Old.trans O o1) o2) o3⟩
      · have hml := Nat.mod_lt u hpos
        have hmlen : len (u % gk) ≤ 200 := Nat.le_trans (len_mono (Nat.le_of_lt hml)) hv
        have Hg : Hid (G = Nat.gcd gk (u % gk)) := Lib.hid (by rw [gcd_step]; exact hg.out)
        have Hp := Lib.hid hpos
        have Hml := Lib.hid hml
        by_cases hs1 : len u < 3
        · have hs2 : ¬ len gk < 3 := fun h => hs ⟨hs1, h⟩
          have i1 : ((len u : Nat) : Int) < 3 := by omega
          have i2 : ¬ ((len gk : Nat) : Int) < 3 := by omega
          clear hs hml hpos
          go_wp2_with fail
          refine (l02Div_any A5 A6 c5 c6 u gk _ _ _ r5 r6 hu hv Hp.out).mono ?_
          rintro e w1 ⟨⟨A7, c7, A8, c8, rfl, r7, r8⟩, o1⟩
          go_wp2
          go_roundg (u % gk)
          case measure => exact Hml.out
          case rel => exact ⟨gk, A6, c6, A8, c8, rfl, rfl, NatS.below r6 o1, Row.more r8 zr, hv, hmlen, Hg, Old.trans O o1⟩
        · have i1 : ¬ ((len u : Nat) : Int) < 3 := by omega
          clear hs hml hpos
          go_wp2_with fail
          refine (l02Div_any A5 A6 c5 c6 u gk _ _ _ r5 r6 hu hv Hp.out).mono ?_
          rintro e w1 ⟨⟨A7, c7, A8, c8, rfl, r7, r8⟩, o1⟩
          go_wp2
          go_roundg (u % gk)
          case measure => exact Hml.out
          case rel => exact ⟨gk, A6, c6, A8, c8, rfl, rfl, NatS.below r6 o1, Row.more r8 zr, hv, hmlen, Hg, Old.trans O o1⟩
    · have e : gk = 0 := by omega
      have He : Hid (G = u) := Lib.hid (by rw [hg.out, e, Nat.gcd_zero_right])
      have hlz : len gk = 0 := by rw [e, len_zero]
      have hl0 : ¬ 0 < len gk := by omega
      have Hl : Hid (len gk = 0) := Lib.hid hlz
      clear hlz e
      rw [Hl.out]
      go_wp2
      go_ret
      exact ⟨by rw [He.out]; exact ⟨A5, c5, rfl, r5⟩, O⟩
theorem dig_self {n : Nat} (h : n ≤ 999999999) : dig n 0 = n := by
  unfold dig; rw [Nat.pow_zero, Nat.div_one, Nat.mod_eq_of_lt (by rw [B_eq]; omega)]
theorem len_one {n : Nat} (h0 : 0 < n) (h : n ≤ 999999999) : len n = 1 := len_eq (by rw [Nat.pow_one, B_eq]; omega) (fun _ => by rw [Nat.sub_self, Nat.pow_zero]; exact h0)
theorem one_row (w : World) (n : Nat) (h0 : 0 < n) (h : n ≤ 999999999) : NatS (w.alloc (.cells #[.int .i64 (n : Int)] 3)) 0 (some ⟨w.heap.size, 0, none⟩) 1 n := by
  refine ⟨by rw [len_one h0 h]; omega, fun _ => ⟨w.heap.size, 0, rfl, Nat.zero_le _, by simp, fun j => World.frozen?_alloc_at _ _ _ _ rfl, fun j hj => ?_⟩⟩
  rw [len_one h0 h] at hj
  rw [World.cell?_alloc_at _ _ _ _ rfl]
  obtain rfl : j = 0 := by omega
  unfold digI
  rw [dig_self h]
  rfl
set_option maxRecDepth 100000 in
set_option maxHeartbeats 1000000 in
theorem natGcd_any (A1 A2 : Option Addr) (c1 c2 a b lo1 lo2 : Nat) (w : World) (h1 : NatS w lo1 A1 c1 a) (h2 : NatS w lo2 A2 c2 b) (ha : len a ≤ 200) (hb : len b ≤ 200) :
    Calls Tryz.prog 62 #[.slice A1 (len a) c1, .slice A2 (len b) c2] w fun e w' => RetN e w' 0 (Nat.gcd a b) ∧ Old w w' := by
  obtain ⟨G, hG⟩ : ∃ G, G = Nat.gcd a b := ⟨_, rfl⟩
  have HG := Lib.hid hG
  rw [← hG]
  clear hG
  go_enter Tryz.func62, Tryz.ntmps62
  go_wp2
  go_loopg [0, 1] b (fun k x y wr => ∃ (u : Nat) (A5 : Option Addr) (c5 : Nat) (A6 : Option Addr) (c6 : Nat), x = .slice A5 (len u) c5 ∧ y = .slice A6 (len k) c6 ∧ NatS wr 0 A5 c5 u ∧ NatS wr 0 A6 c6 k ∧ len u ≤ 200 ∧ len k ≤ 200 ∧ Hid (G = Nat.gcd u k) ∧ Old w wr)
  case atStart => exact ⟨a, A1, c1, A2, c2, rfl, rfl, h1.more (Nat.zero_le _), h2.more (Nat.zero_le _), ha, hb, HG, Old.refl w⟩
  case round =>
    obtain ⟨u, A5, c5, A6, c6, rfl, rfl, r5, r6, hu, hv, hg, O⟩ := hrel
    by_cases hl1 : 1 < len gk
    · have hpos : 0 < gk := pos_len (by omega)
      have hml := Nat.mod_lt u hpos
      have hmlen : len (u % gk) ≤ 200 := Nat.le_trans (len_mono (Nat.le_of_lt hml)) hv
      have Hg : Hid (G = Nat.gcd gk (u % gk)) := Lib.hid (by rw [gcd_step]; exact hg.out)
      have Hp := Lib.hid hpos
      have Hml := Lib.hid hml
      have i1 : (1 : Int) < ((len gk : Nat) : Int) := by omega
      clear hml hpos
      go_wp2_with fail
      refine (natDiv_any A5 A6 c5 c6 u gk _ _ _ r5 r6 hu hv Hp.out).mono ?_
      rintro e w1 ⟨⟨A7, c7, A8, c8, rfl, r7, r8⟩, o1⟩
      go_wp2
      go_roundg (u % gk)
      case measure => exact Hml.out
      case rel => exact ⟨gk, A6, c6, A8, c8, rfl, rfl, NatS.below r6 o1, r8, hv, hmlen, Hg, Old.trans O o1⟩
    · have i1 : ¬ (1 : Int) < ((len gk : Nat) : Int) := by omega
      by_cases hl0 : len gk = 0
      · have e : gk = 0 := len_eq_zero.1 hl0
        have He : Hid (G = u) := Lib.hid (by rw [hg.out, e, Nat.gcd_zero_right])
        have i2 : (((len gk : Nat) : Int) == 0) = true := by simp [hl0]
        clear hl0 e
        go_wp2
        go_ret
        exact ⟨by rw [He.out]; exact ⟨A5, c5, rfl, r5⟩, O⟩
      · have i2 : (((len gk : Nat) : Int) == 0) = false := by simp; omega
        have hlk : len gk = 1 := by omega
        have Hd := Lib.hid (one_digit hlk)
        obtain ⟨gb, off, hA, hc⟩ := NatS.cell r6 (j := 0) (by omega)
        have hc0 : wr.cell? ⟨gb, off, none⟩ = some (.int .i64 (gk : Int)) := by rw [Nat.add_zero, Hd.out.1] at hc; exact hc
        have hgb : gb < wr.heap.size := by obtain ⟨b', off', e, _, hs, _⟩ := r6.2 (by omega); rw [hA] at e; injection e with e; injection e with e1 _; rw [e1]; exact hs
        have l01 : (0 : Int) < ((len gk : Nat) : Int) := by omega
        have l02 : 0 < len gk := by omega
        have k9 : gk ≤ 999999999 := Hd.out.2.1
        have k0 : 0 < gk := Hd.out.2.2
        have hml := Nat.mod_lt u k0
        subst hA
        clear hc hl0 hlk hl1
        obtain ⟨x, hx⟩ : ∃ x : Nat, x = u % gk := ⟨_, rfl⟩
        have HX := Lib.hid hx
        rw [← hx] at hml
        clear hx
        go_wp2_with fail
        refine (natDivSmall_any A5 c5 u _ gk _ r5 (by omega) k0 k9).mono ?_
        rintro e w1 ⟨A7, c7, he, r7, o1⟩
        rw [← HX.out] at he
        subst he
        have hc1 : w1.cell? ⟨gb, off, none⟩ = some (.int .i64 (gk : Int)) := (o1.cell (p := ⟨gb, off, none⟩) hgb).trans hc0
        have Hg0 : Hid (G = Nat.gcd gk x) := Lib.hid (by rw [HX.out, gcd_step]; exact hg.out)
        have O1 := Old.trans O o1
        clear hc0 r7
        go_wp2
        clear hc1
        go_loopw [8, 9] (fun p q wr => ∃ (s t : Nat), s ≤ 999999999 ∧ t ≤ 999999999 ∧ 0 < t ∧ p = .int .i64 (s : Int) ∧ q = .int .i64 (t : Int) ∧ Hid (G = Nat.gcd t s) ∧ Old w wr) (fun p _ _ => (intOf p).toNat)
        case atStart => exact ⟨x, gk, by omega, k9, k0, rfl, rfl, Hg0, O1⟩
        case round =>
          clear O1 o1 Hg0
          obtain ⟨s, t, hs9, ht9, ht0, rfl, rfl, hst, Or⟩ := hrel
          have zr := Or.size
          by_cases hs : 0 < s
          · have hp1 : (0 : Int) < (s : Int) := by omega
            have hp2 : ¬ (s : Int) = 0 := by omega
            have hp3 : ((s : Int) == 0) = false := by simp; omega
            have hml2 := Nat.mod_lt t hs
            have Hm : Hid (((t : Int) % (s : Int)) = ((t % s : Nat) : Int)) := Lib.hid (Int.natCast_emod t s).symm
            have Hg2 : Hid (G = Nat.gcd s (t % s)) := Lib.hid (by rw [gcd_step]; exact hst.out)
            have Hml2 := Lib.hid hml2
            clear hml2
            go_wp2
            go_quiet (fail)
            go_wp2
            go_roundw
            case rel => exact ⟨t % s, s, by have := Hml2.out; omega, hs9, hs, congrArg (Value.int .i64) Hm.out, rfl, Hg2, oldA⟩
            case measure => first | (rw [Hm.out]; have := Hml2.out; simp [intOf]; omega) | (have := Hml2.out; have := Hm.out; simp [intOf]; omega)
          · have e : s = 0 := by omega
            have He : Hid (G = t) := Lib.hid (by rw [hst.out, e, Nat.gcd_zero_right])
            subst e
            go_wp2
            go_ret
            have hG1 : len G = 1 := by rw [He.out]; exact len_one ht0 ht9
            exact ⟨⟨_, _, by rw [hG1]; rfl, by rw [He.out]; exact one_row _ t ht0 ht9⟩, oldA⟩
noncomputable def rNatGcd (n : Nat) (f : Nat → Int) (m : Nat) (g : Nat → Int) : Nat := both n f m g (Nat.gcd (natX n f) (natX m g)) 0
theorem rNatGcd_len (n : Nat) (f : Nat → Int) (m : Nat) (g : Nat → Int) : len (rNatGcd n f m g) ≤ 60 := both_len fun h1 h2 => gcd_len (natX_len h1) (natX_len h2)
end Go.Proofs.YtgchbbjhdeobpaaGreatDoor
