import Derived.Test.YtgchbbjhdeobpaaGreatDoorNatA
import Derived.Test.YtgchbbjhdeobpaaGreatDoorClone
import Derived.Test.YtgchbbjhdeobpaaGreatDoorNumA
/-
  The quotient of natural numbers: by one digit (both), the reference's search for a digit and its long quotient.
-/
namespace Go.Proofs.YtgchbbjhdeobpaaGreatDoor
set_option linter.unusedVariables false
open Go.RowKit Num
theorem small_quo (q x d : Nat) : ((q : Int) * 1000000000 + (x : Int)) / (d : Int) = (((q * 1000000000 + x) / d : Nat) : Int) := by
  rw [Int.natCast_ediv, Int.natCast_add, Int.natCast_mul]; rfl
theorem small_rem (q x d : Nat) : ((q : Int) * 1000000000 + (x : Int)) % (d : Int) = (((q * 1000000000 + x) % d : Nat) : Int) := by
  rw [Int.natCast_emod, Int.natCast_add, Int.natCast_mul]; rfl
/-- The digits from k on have been found. -/
def fromI (x k : Nat) : Nat → Int := fun j => if k ≤ j then digI x j else 0
theorem fromI_len {x n : Nat} (h : len x ≤ n) (j : Nat) : fromI x n j = 0 := by
  unfold fromI digI; split
  · rw [dig_of_len (by omega)]; rfl
  · rfl
theorem fromI_all (x j : Nat) : fromI x 0 j = digI x j := by unfold fromI; rw [if_pos (Nat.zero_le _)]
theorem fromI_step {x k : Nat} {u : Int} (hk : 0 < k) (hu : u = digI x (k - 1)) (j : Nat) : (if j = k - 1 then u else fromI x k j) = fromI x (k - 1) j := by
  unfold fromI
  by_cases h : j = k - 1
  · rw [if_pos h, if_pos (by omega), hu, h]
  · rw [if_neg h]
    by_cases h2 : k ≤ j
    · rw [if_pos h2, if_pos (by omega)]
    · rw [if_neg h2, if_neg (by omega)]
theorem fromI_skip {x k : Nat} (hk : 0 < k) (hu : digI x (k - 1) = 0) (j : Nat) : fromI x k j = fromI x (k - 1) j := by
  unfold fromI
  by_cases h : j = k - 1
  · rw [if_neg (by omega), if_pos (by omega), h, hu]
  · by_cases h2 : k ≤ j
    · rw [if_pos h2, if_pos (by omega)]
    · rw [if_neg h2, if_neg (by omega)]
theorem div_len (a d : Nat) : len (a / d) ≤ len a := len_mono (Nat.div_le_self _ _)
theorem quo_facts {a d k q : Nat} (hd : 0 < d) (hk : 0 < k) (hq : q = a / B ^ k % d) : (q * 1000000000 + dig a (k - 1)) / d = dig (a / d) (k - 1) ∧ (q * 1000000000 + dig a (k - 1)) % d = a / B ^ (k - 1) % d := by
  have h1 := quo_dig a d (k - 1) hd
  have h2 := (quo_step a d (k - 1) hd).2
  rw [show k - 1 + 1 = k by omega, ← hq] at h1 h2
  rw [B_eq] at h1 h2
  exact ⟨h1, by rw [h2, B_eq]⟩
theorem fresh_blk (w : World) (n x : Nat) (h : len x ≤ n) : Blk (w.alloc (.cells (madeCells #[.int .i64 0] n) 3)) w.heap.size n (fromI x n) :=
  (World.rowIs_made _ _ _ _).congr fun j _ => by show _ = Value.int .i64 (fromI x n j); rw [fromI_len h]
/-- Two results: a quotient and a remainder, in memory that is not older than lo. -/
def RetQ (e : Ending) (w : World) (lo q r : Nat) : Prop := ∃ A1 c1 A2 c2, e = .returned (.tuple #[.slice A1 (len q) c1, .slice A2 (len r) c2]) ∧ NatS w lo A1 c1 q ∧ NatS w lo A2 c2 r

set_option maxRecDepth 100000 in
set_option maxHeartbeats 1000000 in
theorem l02Small_any (A : Option Addr) (c a lo d : Nat) (w : World) (h : NatS w lo A c a) (ha : len a ≤ 1000) (hd : 0 < d) (hd2 : d ≤ 999999999) :
    Calls Tryz.prog 124 #[.slice A (len a) c, .int .i64 (d : Int)] w fun e w' => ∃ A' c', e = .returned (.tuple #[.slice A' (len (a / d)) c', .int .i64 ((a % d : Nat) : Int)]) ∧ NatS w' w.heap.size A' c' (a / d) ∧ Old w w' := by
  have H0 : Hid (a / B ^ len a % d = 0) := Lib.hid (by rw [Nat.div_eq_of_lt (lt_len a), Nat.zero_mod])
  have hdl := div_len a d
  have hd0 : ¬ (d : Int) = 0 := by omega
  have hd1 : (0 : Int) < (d : Int) := by omega
  have hdz : ((d : Int) == 0) = false := by simp; omega
  have hdm : ((d : Int) == -1) = false := by simp
  have hmk := fun (w : World) => makeN (len a) (by omega) w
  obtain ⟨z, hz⟩ : ∃ z : Nat, z = a % d := ⟨_, rfl⟩
  have HZ := Lib.hid hz
  rw [← hz]
  clear hz
  obtain ⟨y, hy⟩ : ∃ y : Nat, y = a / d := ⟨_, rfl⟩
  have HY := Lib.hid hy
  rw [← hy] at hdl ⊢
  clear hy
  go_enter Tryz.func124, Tryz.ntmps124
  go_wp2
  clear hmk
  go_loopw [7, 8] (fun v i wr => ∃ (k q : Nat), k ≤ len a ∧ i = .int .i64 ((k : Int) - 1) ∧ q ≤ d - 1 ∧ v = .int .i64 (q : Int) ∧ Hid (q = a / B ^ k % d) ∧ Blk wr w.heap.size (len a) (fromI y k) ∧ Old w wr) (fun _ i _ => (intOf i + 1).toNat)
  case atStart => exact ⟨len a, 0, Nat.le_refl _, rfl, Nat.zero_le _, rfl, Lib.hid (by rw [H0.out]), fresh_blk w _ y hdl, (Old.refl w).alloc (Nat.le_refl _) _⟩
  case round =>
    obtain ⟨k, q, hk, rfl, hq1, rfl, hq, hB, hb⟩ := hrel
    by_cases hpos : 0 < k
    · obtain ⟨b, off, rfl, hc⟩ := NatS.cell (NatS.below h hb) (j := k - 1) (by omega)
      have hdg := dig_le a (k - 1)
      have Hf := Lib.hid (quo_facts hd hpos hq.out)
      have F1 := Lib.hid (small_quo q (dig a (k - 1)) d)
      have F2 := Lib.hid (small_rem q (dig a (k - 1)) d)
      have hbd : (q : Int) * 1000000000 + ((dig a (k - 1) : Nat) : Int) ≤ 999999999999999999 := by omega
      have hbd0 : 0 ≤ (q : Int) * 1000000000 + ((dig a (k - 1) : Nat) : Int) := by omega
      have hcell := Blk.cell hB (k - 1) (by omega)
      have hfz := World.rowIs.frozen hB (k - 1)
      go_wp2
      go_roundw
      case rel => exact ⟨k - 1, (q * 1000000000 + dig a (k - 1)) % d, by omega, by go_num, by have := Nat.mod_lt (q * 1000000000 + dig a (k - 1)) hd; omega, congrArg (Value.int .i64) F2.out, Lib.hid Hf.out.2, (Blk.set_ hB (k - 1) _).to (fun j _ => fromI_step hpos (by rw [F1.out, Hf.out.1, HY.out]; rfl) j), hb.setCell (Nat.le_refl _) _⟩
      case measure => simp [intOf]; omega
    · have e : k = 0 := by omega
      subst e
      have Hq : Hid (z = q) := Lib.hid (by rw [HZ.out, hq.out, Nat.pow_zero, Nat.div_one])
      have hrow : Row wr w.heap.size (some ⟨w.heap.size, 0, none⟩) (len a) (len a) (digI y) := (Blk.to hB fun j _ => fromI_all y j).row (Nat.le_refl _)
      go_wp2_with (go_at_call 50; refine (l02Trim_any _ _ _ y _ _ hrow hdl (by omega)).mono ?_; rintro e w1 ⟨rfl, o1⟩)
      go_ret2
      exact ⟨_, _, by rw [Hq.out]; rfl, NatS.below (hrow.take hdl) o1, Old.trans hb o1⟩
set_option maxRecDepth 100000 in
set_option maxHeartbeats 1000000 in
theorem natDivSmall_any (A : Option Addr) (c a lo d : Nat) (w : World) (h : NatS w lo A c a) (ha : len a ≤ 1000) (hd : 0 < d) (hd2 : d ≤ 999999999) :
    Calls Tryz.prog 91 #[.slice A (len a) c, .int .i64 (d : Int)] w fun e w' => ∃ A' c', e = .returned (.tuple #[.slice A' (len (a / d)) c', .int .i64 ((a % d : Nat) : Int)]) ∧ NatS w' w.heap.size A' c' (a / d) ∧ Old w w' := by
  have H0 : Hid (a / B ^ len a % d = 0) := Lib.hid (by rw [Nat.div_eq_of_lt (lt_len a), Nat.zero_mod])
  have hdl := div_len a d
  have hd0 : ¬ (d : Int) = 0 := by omega
  have hd1 : (0 : Int) < (d : Int) := by omega
  have hdz : ((d : Int) == 0) = false := by simp; omega
  have hdm : ((d : Int) == -1) = false := by simp
  have hmk := fun (w : World) => makeN (len a) (by omega) w
  obtain ⟨z, hz⟩ : ∃ z : Nat, z = a % d := ⟨_, rfl⟩
  have HZ := Lib.hid hz
  rw [← hz]
  clear hz
  obtain ⟨y, hy⟩ : ∃ y : Nat, y = a / d := ⟨_, rfl⟩
  have HY := Lib.hid hy
  rw [← hy] at hdl ⊢
  clear hy
  go_enter Tryz.func91, Tryz.ntmps91
  go_wp2
  clear hmk
  go_loopw [7, 8] (fun v i wr => ∃ (k q : Nat), k ≤ len a ∧ i = .int .i64 ((k : Int) - 1) ∧ q ≤ d - 1 ∧ v = .int .i64 (q : Int) ∧ Hid (q = a / B ^ k % d) ∧ Blk wr w.heap.size (len a) (fromI y k) ∧ Old w wr) (fun _ i _ => (intOf i + 1).toNat)
  case atStart => exact ⟨len a, 0, Nat.le_refl _, rfl, Nat.zero_le _, rfl, Lib.hid (by rw [H0.out]), fresh_blk w _ y hdl, (Old.refl w).alloc (Nat.le_refl _) _⟩
  case round =>
    obtain ⟨k, q, hk, rfl, hq1, rfl, hq, hB, hb⟩ := hrel
    by_cases hpos : 0 < k
    · obtain ⟨b, off, rfl, hc⟩ := NatS.cell (NatS.below h hb) (j := k - 1) (by omega)
      have hdg := dig_le a (k - 1)
      have Hf := Lib.hid (quo_facts hd hpos hq.out)
      have F1 := Lib.hid (small_quo q (dig a (k - 1)) d)
      have F2 := Lib.hid (small_rem q (dig a (k - 1)) d)
      have hbd : (q : Int) * 1000000000 + ((dig a (k - 1) : Nat) : Int) ≤ 999999999999999999 := by omega
      have hbd0 : 0 ≤ (q : Int) * 1000000000 + ((dig a (k - 1) : Nat) : Int) := by omega
      have hcell := Blk.cell hB (k - 1) (by omega)
      have hfz := World.rowIs.frozen hB (k - 1)
      go_wp2
      go_roundw
      case rel => exact ⟨k - 1, (q * 1000000000 + dig a (k - 1)) % d, by omega, by go_num, by have := Nat.mod_lt (q * 1000000000 + dig a (k - 1)) hd; omega, congrArg (Value.int .i64) F2.out, Lib.hid Hf.out.2, (Blk.set_ hB (k - 1) _).to (fun j _ => fromI_step hpos (by rw [F1.out, Hf.out.1, HY.out]; rfl) j), hb.setCell (Nat.le_refl _) _⟩
      case measure => simp [intOf]; omega
    · have e : k = 0 := by omega
      subst e
      have Hq : Hid (z = q) := Lib.hid (by rw [HZ.out, hq.out, Nat.pow_zero, Nat.div_one])
      have hrow : Row wr w.heap.size (some ⟨w.heap.size, 0, none⟩) (len a) (len a) (digI y) := (Blk.to hB fun j _ => fromI_all y j).row (Nat.le_refl _)
      go_wp2_with (go_at_call 59; refine (trimmed_any _ _ _ y _ _ hrow hdl (by omega)).mono ?_; rintro e w1 ⟨rfl, o1⟩)
      go_ret2
      exact ⟨_, _, by rw [Hq.out]; rfl, NatS.below (hrow.take hdl) o1, Old.trans hb o1⟩
theorem rNatOf_nat {m : Nat} (h : m ≤ 9223372036854775807) : rNatOf (m : Int) = m := by unfold rNatOf; rw [if_pos (by omega)]; rfl
theorem mid_bounds {l h : Nat} (hlt : l < h) : ∃ m : Nat, ((l : Int) + (h : Int) + 1) / 2 = (m : Int) ∧ l < m ∧ m ≤ h := ⟨(l + h + 1) / 2, by omega, by omega, by omega⟩
theorem mul_le_len {b m : Nat} (h : m ≤ 999999999) : len (b * m) ≤ len b + 1 := by
  have h1 := mul_len_le b m
  have h2 : len m ≤ 1 := len_le_iff.2 (by rw [B_eq]; omega)
  omega

theorem natOf_to (m : Nat) (a : Int) (ha : a = (m : Int)) (hm : m ≤ 999999999) (w : World) :
    Calls Tryz.prog 121 #[.int .i64 a] w fun e w' => RetN e w' w.heap.size m ∧ Old w w' := by
  subst ha
  have h := spec_NatOf (m : Int) w (by omega)
  rw [rNatOf_nat (by omega)] at h
  exact h
theorem natOf_to' (m : Nat) (a : Int) (ha : a = (m : Int)) (hm : m ≤ 999999999) (w : World) :
    Calls Tryz.prog 114 #[.int .i64 a] w fun e w' => RetN e w' w.heap.size m ∧ Old w w' := by
  subst ha
  have h := natOf_any (m : Int) w (by omega)
  rw [rNatOf_nat (by omega)] at h
  exact h
set_option maxRecDepth 100000 in
set_option maxHeartbeats 1000000 in
theorem l02Digit_any (A1 A2 : Option Addr) (c1 c2 r b lo1 lo2 : Nat) (w : World) (h1 : NatS w lo1 A1 c1 r) (h2 : NatS w lo2 A2 c2 b) (hr : len r ≤ 240) (hb : len b ≤ 240) (hb0 : 0 < b) (hq : r / b ≤ 999999999) :
    Calls Tryz.prog 125 #[.slice A1 (len r) c1, .slice A2 (len b) c2] w fun e w' => e = .returned (.int .i64 ((r / b : Nat) : Int)) ∧ Old w w' := by
  obtain ⟨q, hqq⟩ : ∃ q : Nat, q = r / b := ⟨_, rfl⟩
  rw [← hqq] at hq ⊢
  have HS : Hid (∀ m : Nat, b * m ≤ r ↔ m ≤ q) := Lib.hid fun m => by rw [hqq]; exact digit_le hb0
  clear hqq
  go_enter Tryz.func125, Tryz.ntmps125
  go_wp2
  go_loopw [5, 6] (fun v u wr => ∃ (l h : Nat), l ≤ q ∧ q ≤ h ∧ h ≤ 999999999 ∧ v = .int .i64 (l : Int) ∧ u = .int .i64 (h : Int) ∧ Old w wr) (fun v u _ => (intOf u).toNat - (intOf v).toNat)
  case atStart => exact ⟨0, 999999999, Nat.zero_le _, hq, Nat.le_refl _, rfl, rfl, Old.refl w⟩
  case round =>
    obtain ⟨l, h, hl, hh, hh9, rfl, rfl, ho⟩ := hrel
    by_cases hlt : l < h
    · obtain ⟨m, hm, hm1, hm2⟩ := mid_bounds hlt
      have Hm := Lib.hid hm
      have Hml := mul_le_len (b := b) (m := m) (by omega)
      have hm9 : m ≤ 999999999 := by omega
      have hlm : len m ≤ 1 := len_le_iff.2 (by rw [B_eq]; omega)
      clear hm
      go_wp2_with fail
      refine (natOf_to m _ Hm.out hm9 _).mono ?_
      rintro e w1 ⟨⟨A3, c3, rfl, r3⟩, o1⟩
      have z1 := o1.size
      go_wp2_with fail
      refine (l02Mul_any A2 A3 c2 c3 b m lo2 _ _ (NatS.below (NatS.below h2 ho) o1) r3 (by omega) (by omega)).mono ?_
      rintro e w2 ⟨A4, c4, rfl, r4, o2⟩
      have z2 := o2.size
      go_wp2_with fail
      refine (l02Cmp_any A4 A1 c4 c1 (b * m) r _ lo1 _ r4 (NatS.below (NatS.below (NatS.below h1 ho) o1) o2) (by omega) (by omega)).mono ?_
      rintro e w3 ⟨rfl, o3⟩
      have o' : Old w w3 := Old.trans (Old.trans (Old.trans ho o1) o2) o3
      by_cases hc : m ≤ q
      · have hc' : cmpN (b * m) r ≤ 0 := cmpN_nonpos.2 ((HS.out m).2 hc)
        go_wp2
        go_roundw
        case rel => exact ⟨m, h, hc, hh, hh9, congrArg (Value.int .i64) Hm.out, rfl, o'⟩
        case measure => rw [Hm.out]; simp [intOf]; omega
      · have hc' : ¬ cmpN (b * m) r ≤ 0 := fun h => hc ((HS.out m).1 (cmpN_nonpos.1 h))
        go_wp2
        go_roundw
        case rel => exact ⟨l, m - 1, hl, by omega, by omega, rfl, congrArg (Value.int .i64) (by have := Hm.out; omega), o'⟩
        case measure => rw [Hm.out]; simp [intOf]; omega
    · have e : l = q := by omega
      subst e
      go_wp2
      go_ret
      exact ⟨rfl, ho⟩
end Go.Proofs.YtgchbbjhdeobpaaGreatDoor
