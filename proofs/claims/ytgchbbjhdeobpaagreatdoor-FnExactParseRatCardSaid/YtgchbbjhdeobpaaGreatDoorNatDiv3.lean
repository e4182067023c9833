import Derived.Test.YtgchbbjhdeobpaaGreatDoorNatDiv
import Derived.Test.YtgchbbjhdeobpaaGreatDoorCons
import Derived.Test.YtgchbbjhdeobpaaGreatDoorArgs
import Derived.Test.YtgchbbjhdeobpaaGreatDoorDigit
/-
  The program's long quotient, and both NatDiv's.
-/
namespace Go.Proofs.YtgchbbjhdeobpaaGreatDoor
set_option linter.unusedVariables false
open Go.RowKit Num
set_option maxRecDepth 100000 in
set_option maxHeartbeats 1000000 in
theorem natDiv_one (A1 A2 : Option Addr) (c1 c2 a b lo1 lo2 : Nat) (w : World) (h1 : NatS w lo1 A1 c1 a) (h2 : NatS w lo2 A2 c2 b) (ha : len a ≤ 200) (hb : len b = 1) (hge : b ≤ a) :
    Calls Tryz.prog 90 #[.slice A1 (len a) c1, .slice A2 (len b) c2] w fun e w' => RetQ e w' w.heap.size (a / b) (a % b) ∧ Old w w' := by
  have Hd := Lib.hid (one_digit hb)
  obtain ⟨g, off, hA, hc⟩ := NatS.cell h2 (j := 0) (by omega)
  have hc0 : w.cell? ⟨g, off, none⟩ = some (.int .i64 (b : Int)) := by rw [Nat.add_zero, Hd.out.1] at hc; exact hc
  have hb1 : (((len b : Nat) : Int) == 1) = true := by rw [hb]; rfl
  have hbl : len b ≤ 1000 := by omega
  have Hb := Lib.hid hb
  have hb01 : (0 : Int) < ((len b : Nat) : Int) := by omega
  have hb02 : 0 < len b := by omega
  subst hA
  clear hc hb
  obtain ⟨x, hx⟩ : ∃ x : Nat, x = a % b := ⟨_, rfl⟩
  have hx9 : x ≤ 999999999 := by have := Nat.mod_lt a Hd.out.2.2; have := Hd.out.2.1; omega
  have HX := Lib.hid hx
  rw [← hx]
  clear hx
  have hcm : ¬ cmpN a b < 0 := by have := cmpN_nonneg.2 hge; omega
  clear hge
  go_enter Tryz.func90, Tryz.ntmps90
  go_wp2_with fail
  refine (natCmp_any A1 _ c1 c2 a b lo1 lo2 _ h1 h2 (by omega) (by omega)).mono ?_
  rintro e w0 ⟨rfl, o0⟩
  have hc0' : w0.cell? ⟨g, off, none⟩ = some (.int .i64 (b : Int)) := (o0.cell (p := ⟨g, off, none⟩) (by obtain ⟨b', off', e, _, hs, _⟩ := h2.2 hb02; injection e with e; injection e with e1 _; subst e1; exact hs)).trans hc0
  clear hc0
  go_wp2_with fail
  refine (natDivSmall_any A1 c1 a lo1 b _ (NatS.below h1 o0) (by omega) Hd.out.2.2 Hd.out.2.1).mono ?_
  rintro e w1 ⟨A3, c3, he, r3, o1⟩
  rw [← HX.out] at he
  subst he
  have z1 := o1.size
  have z0 := o0.size
  go_wp2_with fail
  refine (natOf_to' x _ rfl hx9 _).mono ?_
  rintro e w2 ⟨⟨A4, c4, rfl, r4⟩, o2⟩
  have z2 := o2.size
  go_wp2
  go_ret2
  exact ⟨⟨A3, c3, A4, c4, rfl, Row.more (NatS.below r3 o2) leA, Row.more r4 leA⟩, (Old.trans o0 (Old.trans o1 o2))⟩
set_option maxRecDepth 100000 in
set_option maxHeartbeats 1000000 in
theorem natDiv_long (A1 A2 : Option Addr) (c1 c2 a b lo1 lo2 : Nat) (w : World) (h1 : NatS w lo1 A1 c1 a) (h2 : NatS w lo2 A2 c2 b) (ha : len a ≤ 200) (hb : len b ≤ 200) (hb0 : 0 < b) (hb2 : len b ≠ 1) (hge : b ≤ a) :
    Calls Tryz.prog 90 #[.slice A1 (len a) c1, .slice A2 (len b) c2] w fun e w' => RetQ e w' w.heap.size (a / b) (a % b) ∧ Old w w' := by
  have hb1 : (((len b : Nat) : Int) == 1) = false := by simp; omega
  have hl0 : len b ≠ 0 := fun h => by rw [len_eq_zero.1 h] at hb0; omega
  have hlb : 1 < len b := by omega
  have hbm : Hid (∀ x : Nat, x % b < b) := Lib.hid fun x => Nat.mod_lt x hb0
  obtain ⟨y, hy⟩ : ∃ y : Nat, y = a / b := ⟨_, rfl⟩
  have HY := Lib.hid hy
  have hyl : len y ≤ len a := by rw [hy]; exact div_len a b
  obtain ⟨x, hx⟩ : ∃ x : Nat, x = a % b := ⟨_, rfl⟩
  have HX := Lib.hid hx
  have H0 : Hid (0 = a / B ^ len a % b) := Lib.hid (by rw [Nat.div_eq_of_lt (lt_len a), Nat.zero_mod])
  rw [← hy, ← hx]
  clear hy hx hb2
  have hmk := fun (w : World) => makeN (len a) (by omega) w
  have hcm : ¬ cmpN a b < 0 := by have := cmpN_nonneg.2 hge; omega
  clear hge
  go_enter Tryz.func90, Tryz.ntmps90
  go_wp2_with fail
  refine (natCmp_any A1 A2 c1 c2 a b lo1 lo2 _ h1 h2 (by omega) (by omega)).mono ?_
  rintro e w0 ⟨rfl, o0⟩
  replace h1 := NatS.below h1 o0
  replace h2 := NatS.below h2 o0
  have z0 := o0.size
  go_wp2
  clear hmk
  go_loopw [9, 10] (fun v i wr => ∃ (k q : Nat) (A' : Option Addr) (c' : Nat), k ≤ len a ∧ i = .int .i64 ((k : Int) - 1) ∧ v = .slice A' (len q) c' ∧ NatS wr (w0.heap.size + 1) A' c' q ∧ q < b ∧ Hid (q = a / B ^ k % b) ∧ Blk wr w0.heap.size (len a) (fromI y k) ∧ Old w0 wr) (fun _ i _ => (intOf i + 1).toNat)
  case atStart => exact ⟨len a, 0, _, _, Nat.le_refl _, rfl, rfl, NatS.zero _ _ _ _, hb0, H0, (fresh_blk w0 _ y hyl).below (B := w0.heap.size + 1) (by exact oldA) (by omega), oldA⟩
  case round =>
    obtain ⟨k, q, A', c', hk, rfl, rfl, hR, hqb, hq, hB, hb'⟩ := hrel
    by_cases hpos : 0 < k
    · obtain ⟨gb, off, rfl, hc⟩ := NatS.cell (NatS.below h1 hb') (j := k - 1) (by omega)
      have hdg := dig_le a (k - 1)
      have hlq : len q ≤ len b := len_mono (Nat.le_of_lt hqb)
      obtain ⟨d, hd⟩ : ∃ d, d = dig a (k - 1) := ⟨_, rfl⟩
      rw [← hd] at hc hdg
      have Hf := Lib.hid (long_facts hb0 hpos hq.out)
      have HD := Lib.hid hd
      clear hd
      have hBl := hB.lt
      have hzr := hb'.size
      obtain ⟨t, ht⟩ : ∃ t, t = B * q + d := ⟨_, rfl⟩
      have htl : len t ≤ len q + 1 := by rw [ht]; exact cons_len_le hdg
      have HT := Lib.hid ht
      have htb9 : t / b ≤ 999999999 := by rw [ht, HD.out]; exact Hf.out.2.2.1
      have htB : t < b * B := by rw [ht, HD.out]; exact Hf.out.2.2.2
      have HTB := Lib.hid htB
      clear ht htB
      go_wp2_with (at_builtin; refine wpList_cons rfl (.tmp 45) (.tmp 46) rfl (base := wr.heap.size) (f := digI q) (lo := w0.heap.size + 1) rfl (fresh_one (d : Int) (Nat.le_refl _)) rfl (Row.below (B := wr.heap.size) hR oldA (Nat.le_refl _)) (by omega) (by simp) ?_; intro A3 c3 w1 r1 o1)
      have o1' : Old wr w1 := Below.trans (b := _) oldA o1
      have z1 := o1'.size
      have r1' : Row w1 wr.heap.size A3 (len q + 1) c3 (digI t) := by rw [HT.out]; exact cons_row hdg r1
      clear r1
      go_wp2_with fail
      refine (trimmed_any A3 _ c3 t _ _ r1' htl (by omega)).mono ?_
      rintro e w2 ⟨rfl, o2⟩
      have z2 := o2.size
      have r2 : NatS w2 wr.heap.size A3 c3 t := NatS.below (r1'.take htl) o2
      have hb2 := NatS.below (NatS.below (NatS.below h2 hb') o1') o2
      clear r1'
      have o12 := Old.trans o1' o2
      have hzg : w0.heap.size + 1 ≤ wr.heap.size := hBl
      go_wp2_with fail
      refine (natCmp_any A3 A2 c3 c2 t b _ lo2 _ r2 hb2 (by omega) (by omega)).mono ?_
      rintro e w3 ⟨rfl, o3⟩
      have z3 := o3.size
      have o13 := Old.trans o12 o3
      have r3 := NatS.below r2 o3
      have hb3 := NatS.below hb2 o3
      have hB3 := hB.below (B := wr.heap.size) o13 hBl
      clear r2 hb2
      by_cases hlt : t < b
      · have hcc : cmpN t b < 0 := by rw [cmpN_lt hlt]; omega
        have hcc2 : ¬ (0 : Int) ≤ cmpN t b := by omega
        have Hz : Hid (digI y (k - 1) = 0) := Lib.hid (by unfold digI; rw [HY.out, ← Hf.out.1, ← HD.out, ← HT.out, Nat.div_eq_of_lt hlt]; rfl)
        have Hq2 : Hid (t = a / B ^ (k - 1) % b) := Lib.hid (by rw [← Hf.out.2.1, ← HD.out, ← HT.out, Nat.mod_eq_of_lt hlt])
        go_wp2
        go_roundw
        case rel => exact ⟨k - 1, t, A3, c3, by omega, by go_num, rfl, Row.more r3 leA, hlt, Hq2, hB3.to (fun j _ => fromI_skip hpos Hz.out j), Old.trans hb' o13⟩
        case measure => simp [intOf]; omega
      · have hcc : ¬ cmpN t b < 0 := by have := cmpN_nonneg.2 (Nat.le_of_not_lt hlt); omega
        have hcc2 : (0 : Int) ≤ cmpN t b := cmpN_nonneg.2 (Nat.le_of_not_lt hlt)
        obtain ⟨m, hm⟩ : ∃ m : Nat, m = t / b := ⟨_, rfl⟩
        have HM := Lib.hid hm
        have hm9 : m ≤ 999999999 := by rw [hm]; exact htb9
        have hbt : b * m ≤ t := by rw [hm]; exact Nat.mul_div_le t b
        have hlm : len m ≤ 1 := len_le_iff.2 (by rw [B_eq]; omega)
        have Hml := mul_le_len (b := b) (m := m) hm9
        have Hu : Hid ((m : Int) = digI y (k - 1)) := Lib.hid (by unfold digI; rw [HY.out, ← Hf.out.1, ← HD.out, ← HT.out, HM.out])
        have Hq2 : Hid (t - b * m = a / B ^ (k - 1) % b) := Lib.hid (by rw [← Hf.out.2.1, ← HD.out, ← HT.out, HM.out, sub_mul_mod])
        have hsb : t - b * m < b := by rw [HM.out, sub_mul_mod]; exact hbm.out t
        clear hm
        go_wp2_with fail
        refine (digit_any A3 A2 c3 c2 t b _ lo2 _ r3 hb3 (by omega) (by omega) hlb (Nat.le_of_not_lt hlt) HTB.out htb9).mono ?_
        rintro e w4 ⟨he, o4⟩
        rw [← HM.out] at he
        subst he
        have z4 := o4.size
        have o04 : Old w0 w4 := Old.trans (Old.trans hb' o13) o4
        have r4 := NatS.below r3 o4
        have hB4 := hB3.below (B := w3.heap.size) o4 (by omega)
        clear r3 hb3 hB3 hB
        have hcell := Blk.cell hB4 (k - 1) (by omega)
        have hfz := World.rowIs.frozen hB4 (k - 1)
        have o05 : Old w0 (w4.setCell ⟨w0.heap.size, k - 1, none⟩ (.int .i64 (m : Int))) := oldA
        have hB5 : Blk (w4.setCell ⟨w0.heap.size, k - 1, none⟩ (.int .i64 (m : Int))) w0.heap.size (len a) (fromI y (k - 1)) := (Blk.set_ hB4 (k - 1) _).to (fun j _ => fromI_step hpos Hu.out j)
        have r5 : NatS (w4.setCell ⟨w0.heap.size, k - 1, none⟩ (.int .i64 (m : Int))) wr.heap.size A3 c3 t := Row.far_set r4 (by show w0.heap.size < wr.heap.size; omega) _
        have hb5 := NatS.below h2 o05
        clear r4
        go_wp2_with fail
        refine (natOf_to' m _ rfl hm9 _).mono ?_
        rintro e w6 ⟨⟨A6, c6, rfl, r6⟩, o6⟩
        have z6 : w4.heap.size ≤ w6.heap.size := by have h := o6.size; simpa [World.setCell] using h
        replace r6 : NatS w6 w4.heap.size A6 c6 m := Row.more r6 (by simp [World.setCell])
        have o06 := Old.trans o05 o6
        have hB6 := hB5.below o6 (by simp [World.setCell]; omega)
        have t6 := NatS.below r5 o6
        have hb6 := NatS.below hb5 o6
        clear hB5 r5 hb5 hB4 hcell hfz o05
        go_wp2_with fail
        refine (natMul_any A2 A6 c2 c6 b m lo2 _ _ hb6 r6 (by omega) (by omega)).mono ?_
        rintro e w7 ⟨A7, c7, rfl, r7, o7⟩
        have z7 := o7.size
        have hB7 := hB6.below o7 (by omega)
        have t7 := NatS.below t6 o7
        have o07 := Old.trans o06 o7
        clear hB6 t6 hb6 r6
        go_wp2_with fail
        refine (natSub_any A3 A7 c3 c7 t (b * m) _ _ _ t7 r7 (by omega) (by omega) hbt).mono ?_
        rintro e w8 ⟨A8, c8, rfl, r8, o8⟩
        have z8 := o8.size
        have hB8 := hB7.below o8 (by omega)
        have o08 := Old.trans o07 o8
        clear hB7 t7 r7
        go_wp2
        go_roundw
        case rel => exact ⟨k - 1, t - b * m, A8, c8, by omega, by go_num, rfl, Row.more r8 leA, hsb, Hq2, hB8, o08⟩
        case measure => simp [intOf]; omega
    · have e : k = 0 := by omega
      subst e
      have Hq : Hid (x = q) := Lib.hid (by rw [HX.out, hq.out, Nat.pow_zero, Nat.div_one])
      have hrow : Row wr w0.heap.size (some ⟨w0.heap.size, 0, none⟩) (len a) (len a) (digI y) := (Blk.to hB fun j _ => fromI_all y j).row (Nat.le_refl _)
      go_wp2_with (go_at_call 59; refine (trimmed_any _ _ _ y _ _ hrow hyl (by omega)).mono ?_; rintro e w1 ⟨rfl, o1⟩)
      go_ret2
      exact ⟨RetQ.to ⟨_, _, _, _, rfl, Row.more (NatS.below (hrow.take hyl) o1) leA, Row.more (NatS.below hR o1) leA⟩ rfl Hq.out.symm, Old.trans o0 (Old.trans hb' o1)⟩
set_option maxRecDepth 100000 in
set_option maxHeartbeats 1000000 in
theorem natDiv_less (A1 A2 : Option Addr) (c1 c2 a b lo1 lo2 : Nat) (w : World) (h1 : NatS w lo1 A1 c1 a) (h2 : NatS w lo2 A2 c2 b) (ha : len a ≤ 200) (hb : len b ≤ 200) (hlt : a < b) :
    Calls Tryz.prog 90 #[.slice A1 (len a) c1, .slice A2 (len b) c2] w fun e w' => e = .returned (.tuple #[.slice none 0 0, .slice A1 (len a) c1]) ∧ Old w w' := by
  have hcm : cmpN a b < 0 := by rw [cmpN_lt hlt]; omega
  clear hlt
  go_enter Tryz.func90, Tryz.ntmps90
  go_wp2_with fail
  refine (natCmp_any A1 A2 c1 c2 a b lo1 lo2 _ h1 h2 (by omega) (by omega)).mono ?_
  rintro e w0 ⟨rfl, o0⟩
  go_wp2
  go_ret2
  exact ⟨rfl, o0⟩
theorem natDiv_any (A1 A2 : Option Addr) (c1 c2 a b lo1 lo2 : Nat) (w : World) (h1 : NatS w lo1 A1 c1 a) (h2 : NatS w lo2 A2 c2 b) (ha : len a ≤ 200) (hb : len b ≤ 200) (hb0 : 0 < b) :
    Calls Tryz.prog 90 #[.slice A1 (len a) c1, .slice A2 (len b) c2] w fun e w' => RetQ e w' 0 (a / b) (a % b) ∧ Old w w' := by
  have more : ∀ e w', (RetQ e w' w.heap.size (a / b) (a % b) ∧ Old w w') → RetQ e w' 0 (a / b) (a % b) ∧ Old w w' := by
    rintro e w' ⟨⟨A3, c3, A4, c4, he, r3, r4⟩, o⟩
    exact ⟨⟨A3, c3, A4, c4, he, r3.more (Nat.zero_le _), r4.more (Nat.zero_le _)⟩, o⟩
  by_cases hlt : a < b
  · refine (natDiv_less A1 A2 c1 c2 a b lo1 lo2 w h1 h2 ha hb hlt).mono ?_
    rintro e w' ⟨rfl, o⟩
    refine ⟨RetQ.to ⟨none, 0, A1, c1, by rw [len_zero], NatS.zero _ _ _ _, (NatS.below h1 o).more (Nat.zero_le _)⟩ (Nat.div_eq_of_lt hlt).symm (Nat.mod_eq_of_lt hlt).symm, o⟩
  · by_cases h : len b = 1
    · exact (natDiv_one A1 A2 c1 c2 a b lo1 lo2 w h1 h2 ha h (Nat.le_of_not_lt hlt)).mono more
    · exact (natDiv_long A1 A2 c1 c2 a b lo1 lo2 w h1 h2 ha hb hb0 h (Nat.le_of_not_lt hlt)).mono more

/-- The rows of two results do not share a block. -/
def Apart (A : Option Addr) (n : Nat) (A' : Option Addr) (m : Nat) : Prop := ∀ a a', 0 < n → 0 < m → A = some a → A' = some a' → a.block ≠ a'.block
theorem Apart.of {w : World} {lo' hi n m c' : Nat} {A A' : Option Addr} {g : Nat → Int} (h1 : Lim hi A n) (h2 : Row w lo' A' m c' g) (hl : hi ≤ lo') : Apart A n A' m := by
  intro a a' hn hm e e'
  have q1 := h1 hn a e
  have q2 := h2.low hm a' e'
  omega
def RetQA (e : Ending) (w : World) (lo q r : Nat) : Prop := ∃ A1 c1 A2 c2, e = .returned (.tuple #[.slice A1 (len q) c1, .slice A2 (len r) c2]) ∧ NatS w lo A1 c1 q ∧ NatS w lo A2 c2 r ∧ Apart A1 (len q) A2 (len r)
open Classical in
/-- Two lists that are natural numbers, the second not 0. -/
def divP (n : Nat) (f : Nat → Int) (m : Nat) (g : Nat → Int) : Prop := okP n f ∧ okP m g ∧ 0 < m
open Classical in
noncomputable def rNatDiv0 (n : Nat) (f : Nat → Int) (m : Nat) (g : Nat → Int) : Nat := if divP n f m g then natX n f / natX m g else 0
open Classical in
noncomputable def rNatDiv1 (n : Nat) (f : Nat → Int) (m : Nat) (g : Nat → Int) : Nat := if divP n f m g then natX n f % natX m g else 0
theorem rNatDiv_yes {n m : Nat} {f g : Nat → Int} (k : divP n f m g) : rNatDiv0 n f m g = natX n f / natX m g ∧ rNatDiv1 n f m g = natX n f % natX m g := ⟨if_pos k, if_pos k⟩
theorem rNatDiv_no {n m : Nat} {f g : Nat → Int} (k : ¬ divP n f m g) : rNatDiv0 n f m g = 0 ∧ rNatDiv1 n f m g = 0 := ⟨if_neg k, if_neg k⟩
theorem rNatDiv0_len (n : Nat) (f : Nat → Int) (m : Nat) (g : Nat → Int) : len (rNatDiv0 n f m g) ≤ 60 := by
  by_cases k : divP n f m g
  · rw [(rNatDiv_yes k).1]; have := div_len (natX n f) (natX m g); have := natX_len k.1; omega
  · rw [(rNatDiv_no k).1, len_zero]; omega
theorem rNatDiv1_len (n : Nat) (f : Nat → Int) (m : Nat) (g : Nat → Int) : len (rNatDiv1 n f m g) ≤ 60 := by
  by_cases k : divP n f m g
  · rw [(rNatDiv_yes k).2]; have := len_mono (Nat.mod_le (natX n f) (natX m g)); have := natX_len k.1; omega
  · rw [(rNatDiv_no k).2, len_zero]; omega
theorem len_pos {x : Nat} (h : 0 < x) : 0 < len x := Nat.pos_of_ne_zero fun e => by rw [len_eq_zero.1 e] at h; omega
theorem pos_len {x : Nat} (h : 0 < len x) : 0 < x := Nat.pos_of_ne_zero fun e => by rw [e, len_zero] at h; omega
end Go.Proofs.YtgchbbjhdeobpaaGreatDoor
