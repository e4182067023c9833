import Derived.BigQuiet
import Derived.Deep.OwnRows
import Derived.Deep.QuietTactic
import Derived.Deep.Upon
import Derived.Lib.Hide
import Derived.Test.YtgchbbjhdeobpaaGreatDoorRows
import Derived.WalkKit
import Derived.WalkLawsBesides
import Derived.WalkSpells
import Ieee.Arith
import Derived.Test.YtgchbbjhdeobpaaGreatDoorW1
import Derived.Test.YtgchbbjhdeobpaaGreatDoorW3
import Derived.Test.YtgchbbjhdeobpaaGreatDoorW4
/- What the claim's proof reaches of: Clone, NatDiv, Cons. -/
namespace Go.Proofs.YtgchbbjhdeobpaaGreatDoor
set_option linter.unusedVariables false
open Go.RowKit

/-- The first n numbers of f, as cells. -/
def IV (n : Nat) (f : Nat → Int) : List Value := (List.range n).map fun j => Value.int .i64 (f j)
theorem IV_get (n : Nat) (f : Nat → Int) (j : Nat) (h : j < n) : (IV n f)[j]? = some (.int .i64 (f j)) := by simp [IV, h]
theorem IV_length (n : Nat) (f : Nat → Int) : (IV n f).length = n := by simp [IV]
theorem own_rowI {w : World} {base n : Nat} {v : Value} {f : Nat → Int} (h : w.ownsRow base 3 1 v n (IV n f)) :
    ∃ A c, v = .slice A n c ∧ Row w base A n c f := by
  obtain ⟨h1, h2⟩ := h
  rcases h2 with ⟨rfl, rfl⟩ | ⟨g, cap, cur, rfl, hb, hg, hn, hm, hs, ht⟩
  · exact ⟨none, 0, rfl, Row.zero _ _ _ _ _⟩
  · refine ⟨_, cap, rfl, hn, fun _ => ⟨g, 0, rfl, hb, (Array.getElem?_eq_some_iff.1 hg).1, fun j => ?_, fun j hj => ?_⟩⟩
    · simp [World.frozen?, hg]
    · rw [cell_of_row w g _ cur _ (0, 0) hg, Nat.zero_add]
      have := IV_get n f j hj
      rw [← ht, List.getElem?_take, if_pos (by omega)] at this
      simpa using this

set_option maxRecDepth 100000 in
/-- 'append(own, m...)' where own is an empty row of the call's own. -/
theorem wpList_clone {w : World} {ops : Array Oper} {rest : List Oper} {o : Oper} {a : Act} {Q : Exit → Act → World → Prop} (hgd : o.guard = none) (s x : Operand)
    (ho : o.op = .call { callee := .builtin .append, args := #[s, x], argTypes := #[22, 22] })
    {base n lo c : Nat} {A : Option Addr} {f : Nat → Int} {v : Value} (hs : a.eval s = v) (hown : w.ownsRow base 3 1 v 0 [])
    (hx : a.eval x = .slice A n c) (hr : Row w lo A n c f) (hn : n ≤ 1048576) (hbase : base ≤ w.heap.size)
    (h : ∀ A' c' w', Row w' base A' n c' f → Below base w w' → wpList Tryz.prog ops Q rest (a.put o.dst (.slice A' n c')) w') : wpList Tryz.prog ops Q (o :: rest) a w := by
  obtain ⟨i0, hi, hz0, hz1, hz2⟩ := info_parts int_info
  cases A with
  | none =>
    obtain rfl : n = 0 := by
      rcases Nat.eq_zero_or_pos n with h0 | h0
      · exact h0
      · obtain ⟨b, off, e, _⟩ := hr.2 h0
        cases e
    obtain ⟨A0, c0, rfl, hr0⟩ := own_rowI (f := f) (n := 0) hown
    refine wpList_plain hgd fun K hK => ?_
    have hrun := run_append_nothing (P := Tryz.prog) w 22 22 o.type 3 i0 Tryz.underlying22 hi A0 0 c0 (Nat.zero_le _) (.slice none 0 c)
      ⟨.inl ⟨_, Tryz.underlying22⟩, fun _ => rfl, rfl, rfl, by simp, fun u hu => by cases hu⟩
    unfold Oper.wp execOp
    simp only [ho, resolve, invoke, builtin, Sem.run_bind, Sem.run_pure, Result.andThen_ok, List.map_toArray, List.map_cons, List.map_nil, hs, hx, hrun]
    exact hK _ _ (h _ _ _ ⟨Nat.zero_le _, fun h => by omega⟩ (Below.refl _ _))
  | some ad =>
    refine wpList_append_own w hgd s x 22 ho base 3 i0 (.int .i64 0) 1 8 Tryz.underlying22 hi hz0 hz1 hz2 rfl (by decide) v 0 [] hs hown ad n c (IV n f) hx (by simp [IV_length]) ?_ ?_ (by simp only [maxLen]; omega) (by omega) hbase ?_
    · intro j u hu
      have hj : j < n := by
        have := (List.getElem?_eq_some_iff.1 hu).1
        rwa [IV_length] at this
      rw [IV_get n f j hj] at hu
      injection hu with hu
      subst hu
      obtain ⟨b, off, e, hl, hsz, hfz, hc⟩ := hr.2 (by omega)
      injection e with e
      subst e
      rw [Addr.add_lit]
      exact hc j hj
    · intro u hu
      obtain ⟨j, _, rfl⟩ := List.mem_map.1 hu
      rfl
    · intro v' w' h1 h2 _
      rw [Nat.zero_add, List.nil_append] at h1
      obtain ⟨A', c', rfl, r⟩ := own_rowI h1
      exact h A' c' w' r ((Below.refl base w).grown h2 hbase fun k hk => (hown.lt k hk).1)
theorem fresh_own {w : World} {base : Nat} (hb : base ≤ w.heap.size) : (w.alloc (.cells #[] 3)).ownsRow base 3 1 (.slice (some ⟨w.heap.size, 0, none⟩) 0 0) 0 [] :=
  World.ownsRow_made w #[] 0 hb (Nat.zero_le _) rfl

set_option maxRecDepth 100000 in
set_option maxHeartbeats 1000000 in
theorem clone_any (A : Option Addr) (n c lo : Nat) (f : Nat → Int) (w : World) (h : Row w lo A n c f) (hn : n ≤ 1048576) :
    Calls Tryz.prog 77 #[.slice A n c] w fun e w' => ∃ A' c', e = .returned (.slice A' n c') ∧ Row w' w.heap.size A' n c' f ∧ Old w w' := by
  have q := fun (w : World) (a : Option Addr) (n c n' c' : Nat) => Lib.run_eql_slice_nil (P := Tryz.prog) w 22 3 a n c n' c' Tryz.underlying22
  cases A with
  | none =>
    obtain rfl : n = 0 := by
      rcases Nat.eq_zero_or_pos n with h0 | h0
      · exact h0
      · obtain ⟨b, off, e, _⟩ := h.2 h0
        cases e
    go_enter Tryz.func77, Tryz.ntmps77
    go_wp2
    go_ret
    exact ⟨none, 0, rfl, Row.zero _ _ _ _ _, Old.refl _⟩
  | some a =>
    go_enter Tryz.func77, Tryz.ntmps77
    go_wp2_with (at_builtin; refine wpList_clone rfl _ _ rfl (base := w.heap.size) (f := f) (lo := lo) rfl (fresh_own (Nat.le_refl _)) rfl (h.below (B := w.heap.size) oldA (Nat.le_refl _)) hn (by simp) ?_; intro A' c' w1 r1 o1)
    go_ret
    exact ⟨A', c', rfl, r1, Below.trans oldA o1⟩
end Go.Proofs.YtgchbbjhdeobpaaGreatDoor

namespace Go.Proofs.YtgchbbjhdeobpaaGreatDoor
set_option linter.unusedVariables false
open Go.RowKit Num
theorem small_quo (q x d : Nat) : ((q : Int) * 1000000000 + (x : Int)) / (d : Int) = (((q * 1000000000 + x) / d : Nat) : Int) := by
  rw [Int.natCast_ediv, Int.natCast_add, Int.natCast_mul]; rfl
theorem small_rem (q x d : Nat) : ((q : Int) * 1000000000 + (x : Int)) % (d : Int) = (((q * 1000000000 + x) % d : Nat) : Int) := by
  rw [Int.natCast_emod, Int.natCast_add, Int.natCast_mul]; rfl
/-- The digits from k on have been found. -/
def fromI (x k : Nat) : Nat → Int := fun j => if k ≤ j then digI x j else 0
theorem fromI_len {x n : Nat} (h : len x ≤ n) (j : Nat) : fromI x n j = 0 := by
  unfold fromI digI; split
  · rw [dig_of_len (by omega)]; rfl
  · rfl
theorem fromI_all (x j : Nat) : fromI x 0 j = digI x j := by unfold fromI; rw [if_pos (Nat.zero_le _)]
theorem fromI_step {x k : Nat} {u : Int} (hk : 0 < k) (hu : u = digI x (k - 1)) (j : Nat) : (if j = k - 1 then u else fromI x k j) = fromI x (k - 1) j := by
  unfold fromI
  by_cases h : j = k - 1
  · rw [if_pos h, if_pos (by omega), hu, h]
  · rw [if_neg h]
    by_cases h2 : k ≤ j
    · rw [if_pos h2, if_pos (by omega)]
    · rw [if_neg h2, if_neg (by omega)]
theorem fromI_skip {x k : Nat} (hk : 0 < k) (hu : digI x (k - 1) = 0) (j : Nat) : fromI x k j = fromI x (k - 1) j := by
  unfold fromI
  by_cases h : j = k - 1
  · rw [if_neg (by omega), if_pos (by omega), h, hu]
  · by_cases h2 : k ≤ j
    · rw [if_pos h2, if_pos (by omega)]
    · rw [if_neg h2, if_neg (by omega)]
theorem div_len (a d : Nat) : len (a / d) ≤ len a := len_mono (Nat.div_le_self _ _)
theorem quo_facts {a d k q : Nat} (hd : 0 < d) (hk : 0 < k) (hq : q = a / B ^ k % d) : (q * 1000000000 + dig a (k - 1)) / d = dig (a / d) (k - 1) ∧ (q * 1000000000 + dig a (k - 1)) % d = a / B ^ (k - 1) % d := by
  have h1 := quo_dig a d (k - 1) hd
  have h2 := (quo_step a d (k - 1) hd).2
  rw [show k - 1 + 1 = k by omega, ← hq] at h1 h2
  rw [B_eq] at h1 h2
  exact ⟨h1, by rw [h2, B_eq]⟩
theorem fresh_blk (w : World) (n x : Nat) (h : len x ≤ n) : Blk (w.alloc (.cells (madeCells #[.int .i64 0] n) 3)) w.heap.size n (fromI x n) :=
  (World.rowIs_made _ _ _ _).congr fun j _ => by show _ = Value.int .i64 (fromI x n j); rw [fromI_len h]
/-- Two results: a quotient and a remainder, in memory that is not older than lo. -/
def RetQ (e : Ending) (w : World) (lo q r : Nat) : Prop := ∃ A1 c1 A2 c2, e = .returned (.tuple #[.slice A1 (len q) c1, .slice A2 (len r) c2]) ∧ NatS w lo A1 c1 q ∧ NatS w lo A2 c2 r

set_option maxRecDepth 100000 in
set_option maxHeartbeats 1000000 in
theorem l02Small_any (A : Option Addr) (c a lo d : Nat) (w : World) (h : NatS w lo A c a) (ha : len a ≤ 1000) (hd : 0 < d) (hd2 : d ≤ 999999999) :
    Calls Tryz.prog 124 #[.slice A (len a) c, .int .i64 (d : Int)] w fun e w' => ∃ A' c', e = .returned (.tuple #[.slice A' (len (a / d)) c', .int .i64 ((a % d : Nat) : Int)]) ∧ NatS w' w.heap.size A' c' (a / d) ∧ Old w w' := by
  have H0 : Hid (a / B ^ len a % d = 0) := Lib.hid (by rw [Nat.div_eq_of_lt (lt_len a), Nat.zero_mod])
  have hdl := div_len a d
  have hd0 : ¬ (d : Int) = 0 := by omega
  have hd1 : (0 : Int) < (d : Int) := by omega
  have hdz : ((d : Int) == 0) = false := by simp; omega
  have hdm : ((d : Int) == -1) = false := by simp
  have hmk := fun (w : World) => makeN (len a) (by omega) w
  obtain ⟨z, hz⟩ : ∃ z : Nat, z = a % d := ⟨_, rfl⟩
  have HZ := Lib.hid hz
  rw [← hz]
  clear hz
  obtain ⟨y, hy⟩ : ∃ y : Nat, y = a / d := ⟨_, rfl⟩
  have HY := Lib.hid hy
  rw [← hy] at hdl ⊢
  clear hy
  go_enter Tryz.func124, Tryz.ntmps124
  go_wp2
  clear hmk
  go_loopw [7, 8] (fun v i wr => ∃ (k q : Nat), k ≤ len a ∧ i = .int .i64 ((k : Int) - 1) ∧ q ≤ d - 1 ∧ v = .int .i64 (q : Int) ∧ Hid (q = a / B ^ k % d) ∧ Blk wr w.heap.size (len a) (fromI y k) ∧ Old w wr) (fun _ i _ => (intOf i + 1).toNat)
  case atStart => exact ⟨len a, 0, Nat.le_refl _, rfl, Nat.zero_le _, rfl, Lib.hid (by rw [H0.out]), fresh_blk w _ y hdl, (Old.refl w).alloc (Nat.le_refl _) _⟩
  case round =>
    obtain ⟨k, q, hk, rfl, hq1, rfl, hq, hB, hb⟩ := hrel
    by_cases hpos : 0 < k
    · obtain ⟨b, off, rfl, hc⟩ := NatS.cell (NatS.below h hb) (j := k - 1) (by omega)
      have hdg := dig_le a (k - 1)
      have Hf := Lib.hid (quo_facts hd hpos hq.out)
      have F1 := Lib.hid (small_quo q (dig a (k - 1)) d)
      have F2 := Lib.hid (small_rem q (dig a (k - 1)) d)
      have hbd : (q : Int) * 1000000000 + ((dig a (k - 1) : Nat) : Int) ≤ 999999999999999999 := by omega
      have hbd0 : 0 ≤ (q : Int) * 1000000000 + ((dig a (k - 1) : Nat) : Int) := by omega
      have hcell := Blk.cell hB (k - 1) (by omega)
      have hfz := World.rowIs.frozen hB (k - 1)
      go_wp2
      go_roundw
      case rel => exact ⟨k - 1, (q * 1000000000 + dig a (k - 1)) % d, by omega, by go_num, by have := Nat.mod_lt (q * 1000000000 + dig a (k - 1)) hd; omega, congrArg (Value.int .i64) F2.out, Lib.hid Hf.out.2, (Blk.set_ hB (k - 1) _).to (fun j _ => fromI_step hpos (by rw [F1.out, Hf.out.1, HY.out]; rfl) j), hb.setCell (Nat.le_refl _) _⟩
      case measure => simp [intOf]; omega
    · have e : k = 0 := by omega
      subst e
      have Hq : Hid (z = q) := Lib.hid (by rw [HZ.out, hq.out, Nat.pow_zero, Nat.div_one])
      have hrow : Row wr w.heap.size (some ⟨w.heap.size, 0, none⟩) (len a) (len a) (digI y) := (Blk.to hB fun j _ => fromI_all y j).row (Nat.le_refl _)
      go_wp2_with (go_at_call 50; refine (l02Trim_any _ _ _ y _ _ hrow hdl (by omega)).mono ?_; rintro e w1 ⟨rfl, o1⟩)
      go_ret2
      exact ⟨_, _, by rw [Hq.out]; rfl, NatS.below (hrow.take hdl) o1, Old.trans hb o1⟩
set_option maxRecDepth 100000 in
set_option maxHeartbeats 1000000 in
theorem natDivSmall_any (A : Option Addr) (c a lo d : Nat) (w : World) (h : NatS w lo A c a) (ha : len a ≤ 1000) (hd : 0 < d) (hd2 : d ≤ 999999999) :
    Calls Tryz.prog 91 #[.slice A (len a) c, .int .i64 (d : Int)] w fun e w' => ∃ A' c', e = .returned (.tuple #[.slice A' (len (a / d)) c', .int .i64 ((a % d : Nat) : Int)]) ∧ NatS w' w.heap.size A' c' (a / d) ∧ Old w w' := by
  have H0 : Hid (a / B ^ len a % d = 0) := Lib.hid (by rw [Nat.div_eq_of_lt (lt_len a), Nat.zero_mod])
  have hdl := div_len a d
  have hd0 : ¬ (d : Int) = 0 := by omega
  have hd1 : (0 : Int) < (d : Int) := by omega
  have hdz : ((d : Int) == 0) = false := by simp; omega
  have hdm : ((d : Int) == -1) = false := by simp
  have hmk := fun (w : World) => makeN (len a) (by omega) w
  obtain ⟨z, hz⟩ : ∃ z : Nat, z = a % d := ⟨_, rfl⟩
  have HZ := Lib.hid hz
  rw [← hz]
  clear hz
  obtain ⟨y, hy⟩ : ∃ y : Nat, y = a / d := ⟨_, rfl⟩
  have HY := Lib.hid hy
  rw [← hy] at hdl ⊢
  clear hy
  go_enter Tryz.func91, Tryz.ntmps91
  go_wp2
  clear hmk
  go_loopw [7, 8] (fun v i wr => ∃ (k q : Nat), k ≤ len a ∧ i = .int .i64 ((k : Int) - 1) ∧ q ≤ d - 1 ∧ v = .int .i64 (q : Int) ∧ Hid (q = a / B ^ k % d) ∧ Blk wr w.heap.size (len a) (fromI y k) ∧ Old w wr) (fun _ i _ => (intOf i + 1).toNat)
  case atStart => exact ⟨len a, 0, Nat.le_refl _, rfl, Nat.zero_le _, rfl, Lib.hid (by rw [H0.out]), fresh_blk w _ y hdl, (Old.refl w).alloc (Nat.le_refl _) _⟩
  case round =>
    obtain ⟨k, q, hk, rfl, hq1, rfl, hq, hB, hb⟩ := hrel
    by_cases hpos : 0 < k
    · obtain ⟨b, off, rfl, hc⟩ := NatS.cell (NatS.below h hb) (j := k - 1) (by omega)
      have hdg := dig_le a (k - 1)
      have Hf := Lib.hid (quo_facts hd hpos hq.out)
      have F1 := Lib.hid (small_quo q (dig a (k - 1)) d)
      have F2 := Lib.hid (small_rem q (dig a (k - 1)) d)
      have hbd : (q : Int) * 1000000000 + ((dig a (k - 1) : Nat) : Int) ≤ 999999999999999999 := by omega
      have hbd0 : 0 ≤ (q : Int) * 1000000000 + ((dig a (k - 1) : Nat) : Int) := by omega
      have hcell := Blk.cell hB (k - 1) (by omega)
      have hfz := World.rowIs.frozen hB (k - 1)
      go_wp2
      go_roundw
      case rel => exact ⟨k - 1, (q * 1000000000 + dig a (k - 1)) % d, by omega, by go_num, by have := Nat.mod_lt (q * 1000000000 + dig a (k - 1)) hd; omega, congrArg (Value.int .i64) F2.out, Lib.hid Hf.out.2, (Blk.set_ hB (k - 1) _).to (fun j _ => fromI_step hpos (by rw [F1.out, Hf.out.1, HY.out]; rfl) j), hb.setCell (Nat.le_refl _) _⟩
      case measure => simp [intOf]; omega
    · have e : k = 0 := by omega
      subst e
      have Hq : Hid (z = q) := Lib.hid (by rw [HZ.out, hq.out, Nat.pow_zero, Nat.div_one])
      have hrow : Row wr w.heap.size (some ⟨w.heap.size, 0, none⟩) (len a) (len a) (digI y) := (Blk.to hB fun j _ => fromI_all y j).row (Nat.le_refl _)
      go_wp2_with (go_at_call 59; refine (trimmed_any _ _ _ y _ _ hrow hdl (by omega)).mono ?_; rintro e w1 ⟨rfl, o1⟩)
      go_ret2
      exact ⟨_, _, by rw [Hq.out]; rfl, NatS.below (hrow.take hdl) o1, Old.trans hb o1⟩
theorem rNatOf_nat {m : Nat} (h : m ≤ 9223372036854775807) : rNatOf (m : Int) = m := by unfold rNatOf; rw [if_pos (by omega)]; rfl
theorem mid_bounds {l h : Nat} (hlt : l < h) : ∃ m : Nat, ((l : Int) + (h : Int) + 1) / 2 = (m : Int) ∧ l < m ∧ m ≤ h := ⟨(l + h + 1) / 2, by omega, by omega, by omega⟩
theorem mul_le_len {b m : Nat} (h : m ≤ 999999999) : len (b * m) ≤ len b + 1 := by
  have h1 := mul_len_le b m
  have h2 : len m ≤ 1 := len_le_iff.2 (by rw [B_eq]; omega)
  omega

theorem natOf_to (m : Nat) (a : Int) (ha : a = (m : Int)) (hm : m ≤ 999999999) (w : World) :
    Calls Tryz.prog 121 #[.int .i64 a] w fun e w' => RetN e w' w.heap.size m ∧ Old w w' := by
  subst ha
  have h := spec_NatOf (m : Int) w (by omega)
  rw [rNatOf_nat (by omega)] at h
  exact h
theorem natOf_to' (m : Nat) (a : Int) (ha : a = (m : Int)) (hm : m ≤ 999999999) (w : World) :
    Calls Tryz.prog 114 #[.int .i64 a] w fun e w' => RetN e w' w.heap.size m ∧ Old w w' := by
  subst ha
  have h := natOf_any (m : Int) w (by omega)
  rw [rNatOf_nat (by omega)] at h
  exact h
set_option maxRecDepth 100000 in
set_option maxHeartbeats 1000000 in
theorem l02Digit_any (A1 A2 : Option Addr) (c1 c2 r b lo1 lo2 : Nat) (w : World) (h1 : NatS w lo1 A1 c1 r) (h2 : NatS w lo2 A2 c2 b) (hr : len r ≤ 240) (hb : len b ≤ 240) (hb0 : 0 < b) (hq : r / b ≤ 999999999) :
    Calls Tryz.prog 125 #[.slice A1 (len r) c1, .slice A2 (len b) c2] w fun e w' => e = .returned (.int .i64 ((r / b : Nat) : Int)) ∧ Old w w' := by
  obtain ⟨q, hqq⟩ : ∃ q : Nat, q = r / b := ⟨_, rfl⟩
  rw [← hqq] at hq ⊢
  have HS : Hid (∀ m : Nat, b * m ≤ r ↔ m ≤ q) := Lib.hid fun m => by rw [hqq]; exact digit_le hb0
  clear hqq
  go_enter Tryz.func125, Tryz.ntmps125
  go_wp2
  go_loopw [5, 6] (fun v u wr => ∃ (l h : Nat), l ≤ q ∧ q ≤ h ∧ h ≤ 999999999 ∧ v = .int .i64 (l : Int) ∧ u = .int .i64 (h : Int) ∧ Old w wr) (fun v u _ => (intOf u).toNat - (intOf v).toNat)
  case atStart => exact ⟨0, 999999999, Nat.zero_le _, hq, Nat.le_refl _, rfl, rfl, Old.refl w⟩
  case round =>
    obtain ⟨l, h, hl, hh, hh9, rfl, rfl, ho⟩ := hrel
    by_cases hlt : l < h
    · obtain ⟨m, hm, hm1, hm2⟩ := mid_bounds hlt
      have Hm := Lib.hid hm
      have Hml := mul_le_len (b := b) (m := m) (by omega)
      have hm9 : m ≤ 999999999 := by omega
      have hlm : len m ≤ 1 := len_le_iff.2 (by rw [B_eq]; omega)
      clear hm
      go_wp2_with fail
      refine (natOf_to m _ Hm.out hm9 _).mono ?_
      rintro e w1 ⟨⟨A3, c3, rfl, r3⟩, o1⟩
      have z1 := o1.size
      go_wp2_with fail
      refine (l02Mul_any A2 A3 c2 c3 b m lo2 _ _ (NatS.below (NatS.below h2 ho) o1) r3 (by omega) (by omega)).mono ?_
      rintro e w2 ⟨A4, c4, rfl, r4, o2⟩
      have z2 := o2.size
      go_wp2_with fail
      refine (l02Cmp_any A4 A1 c4 c1 (b * m) r _ lo1 _ r4 (NatS.below (NatS.below (NatS.below h1 ho) o1) o2) (by omega) (by omega)).mono ?_
      rintro e w3 ⟨rfl, o3⟩
      have o' : Old w w3 := Old.trans (Old.trans (Old.trans ho o1) o2) o3
      by_cases hc : m ≤ q
      · have hc' : cmpN (b * m) r ≤ 0 := cmpN_nonpos.2 ((HS.out m).2 hc)
        go_wp2
        go_roundw
        case rel => exact ⟨m, h, hc, hh, hh9, congrArg (Value.int .i64) Hm.out, rfl, o'⟩
        case measure => rw [Hm.out]; simp [intOf]; omega
      · have hc' : ¬ cmpN (b * m) r ≤ 0 := fun h => hc ((HS.out m).1 (cmpN_nonpos.1 h))
        go_wp2
        go_roundw
        case rel => exact ⟨l, m - 1, hl, by omega, by omega, rfl, congrArg (Value.int .i64) (by have := Hm.out; omega), o'⟩
        case measure => rw [Hm.out]; simp [intOf]; omega
    · have e : l = q := by omega
      subst e
      go_wp2
      go_ret
      exact ⟨rfl, ho⟩
end Go.Proofs.YtgchbbjhdeobpaaGreatDoor

namespace Go.Proofs.YtgchbbjhdeobpaaGreatDoor
set_option linter.unusedVariables false
open Go.RowKit Num

/-- d ahead of f. -/
def consI (d : Int) (f : Nat → Int) : Nat → Int := fun j => if j = 0 then d else f (j - 1)
theorem IV_cons (n : Nat) (d : Int) (f : Nat → Int) : Value.int .i64 d :: IV n f = IV (n + 1) (consI d f) := by
  unfold IV
  rw [List.range_succ_eq_map, List.map_cons, List.map_map]
  rfl
set_option maxRecDepth 100000 in
/-- 'append(own, m...)' where own is a row of the call's own that holds the one number d. -/
theorem wpList_cons {w : World} {ops : Array Oper} {rest : List Oper} {o : Oper} {a : Act} {Q : Exit → Act → World → Prop} (hgd : o.guard = none) (s x : Operand)
    (ho : o.op = .call { callee := .builtin .append, args := #[s, x], argTypes := #[22, 22] })
    {base n lo c : Nat} {A : Option Addr} {f : Nat → Int} {d : Int} {v : Value} (hs : a.eval s = v) (hown : w.ownsRow base 3 1 v 1 [.int .i64 d])
    (hx : a.eval x = .slice A n c) (hr : Row w lo A n c f) (hn : n ≤ 1048576) (hbase : base ≤ w.heap.size)
    (h : ∀ A' c' w', Row w' base A' (n + 1) c' (consI d f) → Below base w w' → wpList Tryz.prog ops Q rest (a.put o.dst (.slice A' (n + 1) c')) w') : wpList Tryz.prog ops Q (o :: rest) a w := by
  obtain ⟨i0, hi, hz0, hz1, hz2⟩ := info_parts int_info
  have e0 : [Value.int .i64 d] = IV 1 (consI d f) := rfl
  cases A with
  | none =>
    obtain rfl : n = 0 := by
      rcases Nat.eq_zero_or_pos n with h0 | h0
      · exact h0
      · obtain ⟨b, off, e, _⟩ := hr.2 h0
        cases e
    rw [e0] at hown
    obtain ⟨A0, c0, rfl, hr0⟩ := own_rowI hown
    refine wpList_plain hgd fun K hK => ?_
    have hrun := run_append_nothing (P := Tryz.prog) w 22 22 o.type 3 i0 Tryz.underlying22 hi A0 1 c0 hr0.1 (.slice none 0 c)
      ⟨.inl ⟨_, Tryz.underlying22⟩, fun _ => rfl, rfl, rfl, by simp, fun u hu => by cases hu⟩
    unfold Oper.wp execOp
    simp only [ho, resolve, invoke, builtin, Sem.run_bind, Sem.run_pure, Result.andThen_ok, List.map_toArray, List.map_cons, List.map_nil, hs, hx, hrun]
    exact hK _ _ (h _ _ _ hr0 (Below.refl _ _))
  | some ad =>
    refine wpList_append_own w hgd s x 22 ho base 3 i0 (.int .i64 0) 1 8 Tryz.underlying22 hi hz0 hz1 hz2 rfl (by decide) v 1 [.int .i64 d] hs hown ad n c (IV n f) hx (by simp [IV_length]) ?_ ?_ (by simp only [maxLen]; omega) (by omega) hbase ?_
    · intro j u hu
      have hj : j < n := by
        have := (List.getElem?_eq_some_iff.1 hu).1
        rwa [IV_length] at this
      rw [IV_get n f j hj] at hu
      injection hu with hu
      subst hu
      obtain ⟨b, off, e, hl, hsz, hfz, hc⟩ := hr.2 (by omega)
      injection e with e
      subst e
      rw [Addr.add_lit]
      exact hc j hj
    · intro u hu
      obtain ⟨j, _, rfl⟩ := List.mem_map.1 hu
      rfl
    · intro v' w' h1 h2 _
      rw [List.singleton_append, IV_cons, Nat.add_comm 1 n] at h1
      obtain ⟨A', c', rfl, r⟩ := own_rowI h1
      exact h A' c' w' r ((Below.refl base w).grown h2 hbase fun k hk => (hown.lt k hk).1)
theorem fresh_one {w : World} {base : Nat} (d : Int) (hb : base ≤ w.heap.size) : (w.alloc (.cells #[.int .i64 d] 3)).ownsRow base 3 1 (.slice (some ⟨w.heap.size, 0, none⟩) 1 1) 1 [.int .i64 d] :=
  ⟨by simp, .inr ⟨w.heap.size, 1, #[.int .i64 d], rfl, hb, heap_alloc_new w _, Nat.le_refl _, by simp [maxLen], by simp, by simp⟩⟩
/-- The number whose lowest digit is d and whose others are r's. -/
theorem cons_row {w : World} {lo c d r : Nat} {A : Option Addr} (hd : d ≤ 999999999) (h : Row w lo A (len r + 1) c (consI (d : Int) (digI r))) : Row w lo A (len r + 1) c (digI (B * r + d)) := by
  have hd' : d < B := by rw [B_eq]; omega
  refine h.congr fun j hj => ?_
  unfold consI digI
  rw [Nat.add_comm (B * r)]
  by_cases h0 : j = 0
  · subst h0; rw [if_pos rfl, dig_cons_zero hd']
  · rw [if_neg h0]
    have e := dig_cons_succ (d := d) (v := r) (j - 1) hd'
    rw [show j - 1 + 1 = j by omega] at e
    rw [e]
theorem cons_len_le {d r : Nat} (hd : d ≤ 999999999) : len (B * r + d) ≤ len r + 1 := len_le_iff.2 (cons_lt d r (by rw [B_eq]; omega))
end Go.Proofs.YtgchbbjhdeobpaaGreatDoor
