import Derived.Test.YtgchbbjhdeobpaaGreatDoorWk
/-
  Fractions that are valid: isOne, RatOk, isGood.
-/
namespace Go.Proofs.YtgchbbjhdeobpaaGreatDoor
set_option linter.unusedVariables false
open Go.RowKit Num
attribute [local go_sem ↓] Go.wp_at_zero Go.wp_at_succ
set_option maxRecDepth 100000 in
set_option maxHeartbeats 1000000 in
theorem l04One_any (A : Option Addr) (c x lo : Nat) (w : World) (h : NatS w lo A c x) :
    Calls Tryz.prog 52 #[.slice A (len x) c] w fun e w' => e = .returned (.bool (decide (x = 1))) ∧ Old w w' := by
  by_cases h1 : len x = 1
  · obtain ⟨g, off, rfl, hc⟩ := NatS.cell h (j := 0) (by omega)
    rw [(one_digit h1).1, Nat.add_zero] at hc
    have hl : (((len x : Nat) : Int) == 1) = true := by rw [h1]; rfl
    have hl0 : (0 : Int) < ((len x : Nat) : Int) := by omega
    by_cases hx : x = 1
    · have hx1 : ((x : Int) == 1) = true := by rw [hx]; rfl
      have Hd : Hid (decide (x = 1) = true) := Lib.hid (decide_eq_true hx)
      rw [Hd.out]
      clear hx
      go_enter Tryz.func52, Tryz.ntmps52
      go_wp2
      go_ret
      exact ⟨rfl, oldA⟩
    · have hx1 : ((x : Int) == 1) = false := by simp; omega
      have Hd : Hid (decide (x = 1) = false) := Lib.hid (decide_eq_false hx)
      rw [Hd.out]
      clear hx
      go_enter Tryz.func52, Tryz.ntmps52
      go_wp2
      go_ret
      exact ⟨rfl, oldA⟩
  · have hl : (((len x : Nat) : Int) == 1) = false := by simp; omega
    have Hd : Hid (decide (x = 1) = false) := Lib.hid (decide_eq_false fun e => h1 (by rw [e, len_1]))
    rw [Hd.out]
    clear h1
    go_enter Tryz.func52, Tryz.ntmps52
    go_wp2
    go_ret
    exact ⟨rfl, oldA⟩
set_option maxRecDepth 100000 in
set_option maxHeartbeats 1000000 in
theorem isOne_any (A : Option Addr) (c x lo : Nat) (w : World) (h : NatS w lo A c x) :
    Calls Tryz.prog 61 #[.slice A (len x) c] w fun e w' => e = .returned (.bool (decide (x = 1))) ∧ Old w w' := by
  by_cases h1 : len x = 1
  · obtain ⟨g, off, rfl, hc⟩ := NatS.cell h (j := 0) (by omega)
    rw [(one_digit h1).1, Nat.add_zero] at hc
    have hl : (((len x : Nat) : Int) == 1) = true := by rw [h1]; rfl
    have hl0 : (0 : Int) < ((len x : Nat) : Int) := by omega
    by_cases hx : x = 1
    · have hx1 : ((x : Int) == 1) = true := by rw [hx]; rfl
      have Hd : Hid (decide (x = 1) = true) := Lib.hid (decide_eq_true hx)
      rw [Hd.out]
      clear hx
      go_enter Tryz.func61, Tryz.ntmps61
      go_wp2
      go_ret
      exact ⟨rfl, oldA⟩
    · have hx1 : ((x : Int) == 1) = false := by simp; omega
      have Hd : Hid (decide (x = 1) = false) := Lib.hid (decide_eq_false hx)
      rw [Hd.out]
      clear hx
      go_enter Tryz.func61, Tryz.ntmps61
      go_wp2
      go_ret
      exact ⟨rfl, oldA⟩
  · have hl : (((len x : Nat) : Int) == 1) = false := by simp; omega
    have Hd : Hid (decide (x = 1) = false) := Lib.hid (decide_eq_false fun e => h1 (by rw [e, len_1]))
    rw [Hd.out]
    clear h1
    go_enter Tryz.func61, Tryz.ntmps61
    go_wp2
    go_ret
    exact ⟨rfl, oldA⟩
open Classical in
noncomputable def rRatOk (b : Bool) (n : Nat) (f : Nat → Int) (m : Nat) (g : Nat → Int) : Bool := decide (okR b n f m g)
theorem rRatOk_yes {b : Bool} {n m : Nat} {f g : Nat → Int} (h : okR b n f m g) : rRatOk b n f m g = true := by simp [rRatOk, h]
theorem rRatOk_no {b : Bool} {n m : Nat} {f g : Nat → Int} (h : ¬ okR b n f m g) : rRatOk b n f m g = false := by simp [rRatOk, h]
set_option maxRecDepth 100000 in
set_option maxHeartbeats 1000000 in
theorem spec_RatOk (b1 : Bool) (A1 : Option Addr) (n1 c1 l1 : Nat) (f1 : Nat → Int) (D1 : Option Addr) (m1 e1 u1 : Nat) (g1 : Nat → Int) (w : World) (h1 : Row w l1 A1 n1 c1 f1) (k1 : Row w u1 D1 m1 e1 g1) (hn1 : n1 ≤ 1048576) (hm1 : m1 ≤ 1048576) :
    Calls Tryz.prog 51 #[.agg #[.bool b1, .slice A1 n1 c1, .slice D1 m1 e1]] w fun e w' => e = .returned (.bool (rRatOk b1 n1 f1 m1 g1)) ∧ Old w w' := by
  by_cases kb : okB b1 n1 f1
  case neg =>
    have Hr := Lib.hid (rRatOk_no (m := m1) (g := g1) fun h => kb h.1)
    have KB := Lib.hid kb
    clear kb
    have O : Old w (w.alloc (.cells #[.bool b1, .slice A1 n1 c1, .slice D1 m1 e1] 26)) := oldA
    have B_r : Bx (w.alloc (.cells #[.bool b1, .slice A1 n1 c1, .slice D1 m1 e1] 26)) (w.heap.size) #[.bool b1, .slice A1 n1 c1, .slice D1 m1 e1] := by have h := (Bx.new w #[.bool b1, .slice A1 n1 c1, .slice D1 m1 e1] 26); simpa using h
    have ze : w.heap.size + 1 ≤ (w.alloc (.cells #[.bool b1, .slice A1 n1 c1, .slice D1 m1 e1] 26)).heap.size := (by simp)
    go_enter Tryz.func51, Tryz.ntmps51
    go_wp2_with fail
    refine callsNamed ?_
    intro p1 hp
    have O' : Old w p1 := (by rw [hp]; exact Below.trans (b := (w.alloc (.cells #[.bool b1, .slice A1 n1 c1, .slice D1 m1 e1] 26))) O oldA)
    replace B_r : Bx p1 (w.heap.size) #[.bool b1, .slice A1 n1 c1, .slice D1 m1 e1] := (bxK B_r hp)
    have zp1 : (w.alloc (.cells #[.bool b1, .slice A1 n1 c1, .slice D1 m1 e1] 26)).heap.size ≤ p1.heap.size := (by rw [hp]; exact leA)
    clear hp O
    have O := O'
    clear O'
    refine (plain_to (by rw [rBigIntOk_no KB.out]) (spec_BigIntOk b1 A1 n1 c1 l1 f1 _ (Row.below (B := w.heap.size) h1 O (Nat.le_refl _)) hn1)).mono ?_
    rintro e w1 ⟨rfl, o1⟩
    replace B_r := Bx.old B_r o1
    replace O := Old.trans O o1
    have zw1 := o1.size
    obtain ⟨q_r_0, q_r_1, q_r_2, f_r_0, f_r_1, f_r_2, q_r⟩ := B_r.all3
    go_wp2
    go_ret
    exact ⟨by rw [Hr.out]; try rfl, Below.trans (b := w1) O oldA⟩
  by_cases kn : okP m1 g1
  case neg =>
    have Hr := Lib.hid (rRatOk_no (b := b1) (n := n1) (f := f1) fun h => kn h.2.1)
    have KB := Lib.hid kb
    have KN := Lib.hid kn
    clear kb kn
    have O : Old w (w.alloc (.cells #[.bool b1, .slice A1 n1 c1, .slice D1 m1 e1] 26)) := oldA
    have B_r : Bx (w.alloc (.cells #[.bool b1, .slice A1 n1 c1, .slice D1 m1 e1] 26)) (w.heap.size) #[.bool b1, .slice A1 n1 c1, .slice D1 m1 e1] := by have h := (Bx.new w #[.bool b1, .slice A1 n1 c1, .slice D1 m1 e1] 26); simpa using h
    have ze : w.heap.size + 1 ≤ (w.alloc (.cells #[.bool b1, .slice A1 n1 c1, .slice D1 m1 e1] 26)).heap.size := (by simp)
    go_enter Tryz.func51, Tryz.ntmps51
    go_wp2_with fail
    refine callsNamed ?_
    intro p1 hp
    have O' : Old w p1 := (by rw [hp]; exact Below.trans (b := (w.alloc (.cells #[.bool b1, .slice A1 n1 c1, .slice D1 m1 e1] 26))) O oldA)
    replace B_r : Bx p1 (w.heap.size) #[.bool b1, .slice A1 n1 c1, .slice D1 m1 e1] := (bxK B_r hp)
    have zp1 : (w.alloc (.cells #[.bool b1, .slice A1 n1 c1, .slice D1 m1 e1] 26)).heap.size ≤ p1.heap.size := (by rw [hp]; exact leA)
    clear hp O
    have O := O'
    clear O'
    refine (plain_to (by rw [rBigIntOk_yes KB.out]) (spec_BigIntOk b1 A1 n1 c1 l1 f1 _ (Row.below (B := w.heap.size) h1 O (Nat.le_refl _)) hn1)).mono ?_
    rintro e w1 ⟨rfl, o1⟩
    replace B_r := Bx.old B_r o1
    replace O := Old.trans O o1
    have zw1 := o1.size
    obtain ⟨q_r_0, q_r_1, q_r_2, f_r_0, f_r_1, f_r_2, q_r⟩ := B_r.all3
    go_wp2_with fail
    refine callsNamed ?_
    intro p2 hp
    clear q_r_0 q_r_1 q_r_2 f_r_0 f_r_1 f_r_2 q_r
    have O' : Old w p2 := (by rw [hp]; exact Below.trans (b := w1) O oldA)
    replace B_r : Bx p2 (w.heap.size) #[.bool b1, .slice A1 n1 c1, .slice D1 m1 e1] := (bxK B_r hp)
    have zp2 : w1.heap.size ≤ p2.heap.size := (by rw [hp]; exact leA)
    clear hp O
    have O := O'
    clear O'
    refine (plain_to (by rw [rNatOk_no KN.out]) (spec_NatOk D1 m1 e1 u1 g1 _ (Row.below (B := w.heap.size) k1 O (Nat.le_refl _)) hm1)).mono ?_
    rintro e w2 ⟨rfl, o2⟩
    replace B_r := Bx.old B_r o2
    replace O := Old.trans O o2
    have zw2 := o2.size
    obtain ⟨q_r_0, q_r_1, q_r_2, f_r_0, f_r_1, f_r_2, q_r⟩ := B_r.all3
    go_wp2
    go_ret
    exact ⟨by rw [Hr.out]; try rfl, Below.trans (b := w2) O oldA⟩
  by_cases k0 : 0 < m1
  case neg =>
    have Hr := Lib.hid (rRatOk_no (b := b1) (n := n1) (f := f1) (m := m1) (g := g1) fun h => k0 h.2.2.1)
    have KB := Lib.hid kb
    have KN := Lib.hid kn
    clear kb kn
    have hz : ((m1 : Int) == 0) = true := by simp; omega
    have O : Old w (w.alloc (.cells #[.bool b1, .slice A1 n1 c1, .slice D1 m1 e1] 26)) := oldA
    have B_r : Bx (w.alloc (.cells #[.bool b1, .slice A1 n1 c1, .slice D1 m1 e1] 26)) (w.heap.size) #[.bool b1, .slice A1 n1 c1, .slice D1 m1 e1] := by have h := (Bx.new w #[.bool b1, .slice A1 n1 c1, .slice D1 m1 e1] 26); simpa using h
    have ze : w.heap.size + 1 ≤ (w.alloc (.cells #[.bool b1, .slice A1 n1 c1, .slice D1 m1 e1] 26)).heap.size := (by simp)
    go_enter Tryz.func51, Tryz.ntmps51
    go_wp2_with fail
    refine callsNamed ?_
    intro p1 hp
    have O' : Old w p1 := (by rw [hp]; exact Below.trans (b := (w.alloc (.cells #[.bool b1, .slice A1 n1 c1, .slice D1 m1 e1] 26))) O oldA)
    replace B_r : Bx p1 (w.heap.size) #[.bool b1, .slice A1 n1 c1, .slice D1 m1 e1] := (bxK B_r hp)
    have zp1 : (w.alloc (.cells #[.bool b1, .slice A1 n1 c1, .slice D1 m1 e1] 26)).heap.size ≤ p1.heap.size := (by rw [hp]; exact leA)
    clear hp O
    have O := O'
    clear O'
    refine (plain_to (by rw [rBigIntOk_yes KB.out]) (spec_BigIntOk b1 A1 n1 c1 l1 f1 _ (Row.below (B := w.heap.size) h1 O (Nat.le_refl _)) hn1)).mono ?_
    rintro e w1 ⟨rfl, o1⟩
    replace B_r := Bx.old B_r o1
    replace O := Old.trans O o1
    have zw1 := o1.size
    obtain ⟨q_r_0, q_r_1, q_r_2, f_r_0, f_r_1, f_r_2, q_r⟩ := B_r.all3
    go_wp2_with fail
    refine callsNamed ?_
    intro p2 hp
    clear q_r_0 q_r_1 q_r_2 f_r_0 f_r_1 f_r_2 q_r
    have O' : Old w p2 := (by rw [hp]; exact Below.trans (b := w1) O oldA)
    replace B_r : Bx p2 (w.heap.size) #[.bool b1, .slice A1 n1 c1, .slice D1 m1 e1] := (bxK B_r hp)
    have zp2 : w1.heap.size ≤ p2.heap.size := (by rw [hp]; exact leA)
    clear hp O
    have O := O'
    clear O'
    refine (plain_to (by rw [rNatOk_yes KN.out]) (spec_NatOk D1 m1 e1 u1 g1 _ (Row.below (B := w.heap.size) k1 O (Nat.le_refl _)) hm1)).mono ?_
    rintro e w2 ⟨rfl, o2⟩
    replace B_r := Bx.old B_r o2
    replace O := Old.trans O o2
    have zw2 := o2.size
    obtain ⟨q_r_0, q_r_1, q_r_2, f_r_0, f_r_1, f_r_2, q_r⟩ := B_r.all3
    go_wp2
    go_ret
    exact ⟨by rw [Hr.out]; try rfl, Below.trans (b := w2) O oldA⟩
  by_cases k24 : m1 ≤ 24
  case neg =>
    have Hr := Lib.hid (rRatOk_no (b := b1) (n := n1) (f := f1) (m := m1) (g := g1) fun h => k24 h.2.2.2.2.1)
    have KB := Lib.hid kb
    have KN := Lib.hid kn
    clear kb kn
    have hz : ((m1 : Int) == 0) = false := by simp; omega
    have hz1 : (24 : Int) < (m1 : Int) := by omega
    have O : Old w (w.alloc (.cells #[.bool b1, .slice A1 n1 c1, .slice D1 m1 e1] 26)) := oldA
    have B_r : Bx (w.alloc (.cells #[.bool b1, .slice A1 n1 c1, .slice D1 m1 e1] 26)) (w.heap.size) #[.bool b1, .slice A1 n1 c1, .slice D1 m1 e1] := by have h := (Bx.new w #[.bool b1, .slice A1 n1 c1, .slice D1 m1 e1] 26); simpa using h
    have ze : w.heap.size + 1 ≤ (w.alloc (.cells #[.bool b1, .slice A1 n1 c1, .slice D1 m1 e1] 26)).heap.size := (by simp)
    go_enter Tryz.func51, Tryz.ntmps51
    go_wp2_with fail
    refine callsNamed ?_
    intro p1 hp
    have O' : Old w p1 := (by rw [hp]; exact Below.trans (b := (w.alloc (.cells #[.bool b1, .slice A1 n1 c1, .slice D1 m1 e1] 26))) O oldA)
    replace B_r : Bx p1 (w.heap.size) #[.bool b1, .slice A1 n1 c1, .slice D1 m1 e1] := (bxK B_r hp)
    have zp1 : (w.alloc (.cells #[.bool b1, .slice A1 n1 c1, .slice D1 m1 e1] 26)).heap.size ≤ p1.heap.size := (by rw [hp]; exact leA)
    clear hp O
    have O := O'
    clear O'
    refine (plain_to (by rw [rBigIntOk_yes KB.out]) (spec_BigIntOk b1 A1 n1 c1 l1 f1 _ (Row.below (B := w.heap.size) h1 O (Nat.le_refl _)) hn1)).mono ?_
    rintro e w1 ⟨rfl, o1⟩
    replace B_r := Bx.old B_r o1
    replace O := Old.trans O o1
    have zw1 := o1.size
    obtain ⟨q_r_0, q_r_1, q_r_2, f_r_0, f_r_1, f_r_2, q_r⟩ := B_r.all3
    go_wp2_with fail
    refine callsNamed ?_
    intro p2 hp
    clear q_r_0 q_r_1 q_r_2 f_r_0 f_r_1 f_r_2 q_r
    have O' : Old w p2 := (by rw [hp]; exact Below.trans (b := w1) O oldA)
    replace B_r : Bx p2 (w.heap.size) #[.bool b1, .slice A1 n1 c1, .slice D1 m1 e1] := (bxK B_r hp)
    have zp2 : w1.heap.size ≤ p2.heap.size := (by rw [hp]; exact leA)
    clear hp O
    have O := O'
    clear O'
    refine (plain_to (by rw [rNatOk_yes KN.out]) (spec_NatOk D1 m1 e1 u1 g1 _ (Row.below (B := w.heap.size) k1 O (Nat.le_refl _)) hm1)).mono ?_
    rintro e w2 ⟨rfl, o2⟩
    replace B_r := Bx.old B_r o2
    replace O := Old.trans O o2
    have zw2 := o2.size
    obtain ⟨q_r_0, q_r_1, q_r_2, f_r_0, f_r_1, f_r_2, q_r⟩ := B_r.all3
    go_wp2
    go_ret
    exact ⟨by rw [Hr.out]; try rfl, Below.trans (b := w2) O oldA⟩
  by_cases j24 : n1 ≤ 24
  case neg =>
    have Hr := Lib.hid (rRatOk_no (b := b1) (n := n1) (f := f1) (m := m1) (g := g1) fun h => j24 h.2.2.2.1)
    have KB := Lib.hid kb
    have KN := Lib.hid kn
    clear kb kn
    have hz : ((m1 : Int) == 0) = false := by simp; omega
    have hz1 : ¬ (24 : Int) < (m1 : Int) := by omega
    have hz2 : (24 : Int) < (n1 : Int) := by omega
    have O : Old w (w.alloc (.cells #[.bool b1, .slice A1 n1 c1, .slice D1 m1 e1] 26)) := oldA
    have B_r : Bx (w.alloc (.cells #[.bool b1, .slice A1 n1 c1, .slice D1 m1 e1] 26)) (w.heap.size) #[.bool b1, .slice A1 n1 c1, .slice D1 m1 e1] := by have h := (Bx.new w #[.bool b1, .slice A1 n1 c1, .slice D1 m1 e1] 26); simpa using h
    have ze : w.heap.size + 1 ≤ (w.alloc (.cells #[.bool b1, .slice A1 n1 c1, .slice D1 m1 e1] 26)).heap.size := (by simp)
    go_enter Tryz.func51, Tryz.ntmps51
    go_wp2_with fail
    refine callsNamed ?_
    intro p1 hp
    have O' : Old w p1 := (by rw [hp]; exact Below.trans (b := (w.alloc (.cells #[.bool b1, .slice A1 n1 c1, .slice D1 m1 e1] 26))) O oldA)
    replace B_r : Bx p1 (w.heap.size) #[.bool b1, .slice A1 n1 c1, .slice D1 m1 e1] := (bxK B_r hp)
    have zp1 : (w.alloc (.cells #[.bool b1, .slice A1 n1 c1, .slice D1 m1 e1] 26)).heap.size ≤ p1.heap.size := (by rw [hp]; exact leA)
    clear hp O
    have O := O'
    clear O'
    refine (plain_to (by rw [rBigIntOk_yes KB.out]) (spec_BigIntOk b1 A1 n1 c1 l1 f1 _ (Row.below (B := w.heap.size) h1 O (Nat.le_refl _)) hn1)).mono ?_
    rintro e w1 ⟨rfl, o1⟩
    replace B_r := Bx.old B_r o1
    replace O := Old.trans O o1
    have zw1 := o1.size
    obtain ⟨q_r_0, q_r_1, q_r_2, f_r_0, f_r_1, f_r_2, q_r⟩ := B_r.all3
    go_wp2_with fail
    refine callsNamed ?_
    intro p2 hp
    clear q_r_0 q_r_1 q_r_2 f_r_0 f_r_1 f_r_2 q_r
    have O' : Old w p2 := (by rw [hp]; exact Below.trans (b := w1) O oldA)
    replace B_r : Bx p2 (w.heap.size) #[.bool b1, .slice A1 n1 c1, .slice D1 m1 e1] := (bxK B_r hp)
    have zp2 : w1.heap.size ≤ p2.heap.size := (by rw [hp]; exact leA)
    clear hp O
    have O := O'
    clear O'
    refine (plain_to (by rw [rNatOk_yes KN.out]) (spec_NatOk D1 m1 e1 u1 g1 _ (Row.below (B := w.heap.size) k1 O (Nat.le_refl _)) hm1)).mono ?_
    rintro e w2 ⟨rfl, o2⟩
    replace B_r := Bx.old B_r o2
    replace O := Old.trans O o2
    have zw2 := o2.size
    obtain ⟨q_r_0, q_r_1, q_r_2, f_r_0, f_r_1, f_r_2, q_r⟩ := B_r.all3
    go_wp2
    go_ret
    exact ⟨by rw [Hr.out]; try rfl, Below.trans (b := w2) O oldA⟩
  have HK : Hid (rRatOk b1 n1 f1 m1 g1 = decide (Nat.gcd (natX n1 f1) (natX m1 g1) = 1)) := Lib.hid (by
    by_cases hg : Nat.gcd (natX n1 f1) (natX m1 g1) = 1
    · rw [rRatOk_yes ⟨kb, kn, k0, j24, k24, hg⟩, decide_eq_true hg]
    · rw [rRatOk_no fun h => hg h.2.2.2.2.2, decide_eq_false hg])
  have hz : ((m1 : Int) == 0) = false := by simp; omega
  have hz1 : ¬ (24 : Int) < (m1 : Int) := by omega
  have hz2 : ¬ (24 : Int) < (n1 : Int) := by omega
  have KB := Lib.hid kb
  have KN := Lib.hid kn
  obtain ⟨x, e1, hx, hxv, s1⟩ := row_nat h1 kb.1
  obtain ⟨d, e2, hd, hdv, s2⟩ := row_nat k1 kn
  rw [hxv, hdv] at HK
  clear kb kn hxv hdv
  have hx4 : len x ≤ 24 := by omega
  have hd4 : len d ≤ 24 := by omega
  subst e1 e2
  have O : Old w (w.alloc (.cells #[.bool b1, .slice A1 (len x) c1, .slice D1 (len d) e1] 26)) := oldA
  have B_r : Bx (w.alloc (.cells #[.bool b1, .slice A1 (len x) c1, .slice D1 (len d) e1] 26)) (w.heap.size) #[.bool b1, .slice A1 (len x) c1, .slice D1 (len d) e1] := by have h := (Bx.new w #[.bool b1, .slice A1 (len x) c1, .slice D1 (len d) e1] 26); simpa using h
  have ze : w.heap.size + 1 ≤ (w.alloc (.cells #[.bool b1, .slice A1 (len x) c1, .slice D1 (len d) e1] 26)).heap.size := (by simp)
  go_enter Tryz.func51, Tryz.ntmps51
  go_wp2_with fail
  refine callsNamed ?_
  intro p1 hp
  have O' : Old w p1 := (by rw [hp]; exact Below.trans (b := (w.alloc (.cells #[.bool b1, .slice A1 (len x) c1, .slice D1 (len d) e1] 26))) O oldA)
  replace B_r : Bx p1 (w.heap.size) #[.bool b1, .slice A1 (len x) c1, .slice D1 (len d) e1] := (bxK B_r hp)
  have zp1 : (w.alloc (.cells #[.bool b1, .slice A1 (len x) c1, .slice D1 (len d) e1] 26)).heap.size ≤ p1.heap.size := (by rw [hp]; exact leA)
  clear hp O
  have O := O'
  clear O'
  refine (plain_to (by rw [rBigIntOk_yes KB.out]) (spec_BigIntOk b1 A1 _ c1 l1 f1 _ (Row.below (B := w.heap.size) h1 O (Nat.le_refl _)) hn1)).mono ?_
  rintro e w1 ⟨rfl, o1⟩
  replace B_r := Bx.old B_r o1
  replace O := Old.trans O o1
  have zw1 := o1.size
  obtain ⟨q_r_0, q_r_1, q_r_2, f_r_0, f_r_1, f_r_2, q_r⟩ := B_r.all3
  go_wp2_with fail
  refine callsNamed ?_
  intro p2 hp
  clear q_r_0 q_r_1 q_r_2 f_r_0 f_r_1 f_r_2 q_r
  have O' : Old w p2 := (by rw [hp]; exact Below.trans (b := w1) O oldA)
  replace B_r : Bx p2 (w.heap.size) #[.bool b1, .slice A1 (len x) c1, .slice D1 (len d) e1] := (bxK B_r hp)
  have zp2 : w1.heap.size ≤ p2.heap.size := (by rw [hp]; exact leA)
  clear hp O
  have O := O'
  clear O'
  refine (plain_to (by rw [rNatOk_yes KN.out]) (spec_NatOk D1 _ e1 u1 g1 _ (Row.below (B := w.heap.size) k1 O (Nat.le_refl _)) hm1)).mono ?_
  rintro e w2 ⟨rfl, o2⟩
  replace B_r := Bx.old B_r o2
  replace O := Old.trans O o2
  have zw2 := o2.size
  obtain ⟨q_r_0, q_r_1, q_r_2, f_r_0, f_r_1, f_r_2, q_r⟩ := B_r.all3
  go_wp2_with fail
  refine callsNamed ?_
  intro p3 hp
  clear q_r_0 q_r_1 q_r_2 f_r_0 f_r_1 f_r_2 q_r
  have O' : Old w p3 := (by rw [hp]; exact Below.trans (b := w2) O oldA)
  replace B_r : Bx p3 (w.heap.size) #[.bool b1, .slice A1 (len x) c1, .slice D1 (len d) e1] := (bxK B_r hp)
  have zp3 : w2.heap.size ≤ p3.heap.size := (by rw [hp]; exact leA)
  clear hp O
  have O := O'
  clear O'
  refine (l02Gcd_any A1 D1 c1 e1 x d l1 u1 _ (Row.below (B := w.heap.size) s1 O (Nat.le_refl _)) (Row.below (B := w.heap.size) s2 O (Nat.le_refl _)) (by omega) (by omega)).mono ?_
  rintro e w3 ⟨⟨G, cG, rfl, r1⟩, o3⟩
  replace B_r := Bx.old B_r o3
  replace O := Old.trans O o3
  have zw3 := o3.size
  have lim_r1 := Row.lim r1
  obtain ⟨q_r_0, q_r_1, q_r_2, f_r_0, f_r_1, f_r_2, q_r⟩ := B_r.all3
  go_wp2_with fail
  refine callsNamed ?_
  intro p4 hp
  clear q_r_0 q_r_1 q_r_2 f_r_0 f_r_1 f_r_2 q_r
  have O' : Old w p4 := (by rw [hp]; exact Below.trans (b := w3) O oldA)
  replace B_r : Bx p4 (w.heap.size) #[.bool b1, .slice A1 (len x) c1, .slice D1 (len d) e1] := (bxK B_r hp)
  replace r1 := rowK r1 hp
  have zp4 : w3.heap.size ≤ p4.heap.size := (by rw [hp]; exact leA)
  clear hp O
  have O := O'
  clear O'
  refine (l04One_any G cG (Nat.gcd x d) _ _ r1).mono ?_
  rintro e w4 ⟨rfl, o4⟩
  replace B_r := Bx.old B_r o4
  replace r1 := Row.below r1 o4 (Nat.le_refl _)
  replace O := Old.trans O o4
  have zw4 := o4.size
  obtain ⟨q_r_0, q_r_1, q_r_2, f_r_0, f_r_1, f_r_2, q_r⟩ := B_r.all3
  go_wp2
  go_ret
  exact ⟨by rw [HK.out]; try rfl, Below.trans (b := w4) O oldA⟩
theorem spec_RatOk_yes (z1 : Int) (d1 : Nat) (A1 D1 : Option Addr) (c1 e1 l1 m1 : Nat) (w : World) (h1 : NatS w l1 A1 c1 (magZ z1)) (k1 : NatS w m1 D1 e1 d1) (n1 : normF (z1, d1)) (p1 : 0 < d1) : Calls Tryz.prog 51 #[.agg #[.bool (sgnZ z1), .slice A1 (len (magZ z1)) c1, .slice D1 (len d1) e1]] w fun e w' => e = .returned (.bool true) ∧ Old w w' :=
  (spec_RatOk (sgnZ z1) A1 _ c1 l1 _ D1 _ e1 m1 _ w h1 k1 (by have := norm_len n1; simp only at this; omega) (by have := norm_len n1; simp only at this; omega)).mono fun e w' he => ⟨by rw [he.1, rRatOk_yes ((okR_val n1).2 p1)], he.2⟩
theorem spec_RatOk_no (b1 : Bool) (A1 : Option Addr) (n1 c1 l1 : Nat) (f1 : Nat → Int) (D1 : Option Addr) (m1 e1 u1 : Nat) (g1 : Nat → Int) (w : World) (h1 : Row w l1 A1 n1 c1 f1) (k1 : Row w u1 D1 m1 e1 g1) (hn1 : n1 ≤ 1048576) (hm1 : m1 ≤ 1048576) (q1 : ¬ okR b1 n1 f1 m1 g1) : Calls Tryz.prog 51 #[.agg #[.bool b1, .slice A1 n1 c1, .slice D1 m1 e1]] w fun e w' => e = .returned (.bool false) ∧ Old w w' :=
  (spec_RatOk b1 A1 n1 c1 l1 f1 D1 m1 e1 u1 g1 w h1 k1 hn1 hm1).mono fun e w' he => ⟨by rw [he.1, rRatOk_no q1], he.2⟩
theorem spec_RatOk_zero (z1 : Int) (d1 : Nat) (A1 D1 : Option Addr) (c1 e1 l1 m1 : Nat) (w : World) (h1 : NatS w l1 A1 c1 (magZ z1)) (k1 : NatS w m1 D1 e1 d1) (n1 : normF (z1, d1)) (p1 : ¬ 0 < d1) : Calls Tryz.prog 51 #[.agg #[.bool (sgnZ z1), .slice A1 (len (magZ z1)) c1, .slice D1 (len d1) e1]] w fun e w' => e = .returned (.bool false) ∧ Old w w' :=
  (spec_RatOk (sgnZ z1) A1 _ c1 l1 _ D1 _ e1 m1 _ w h1 k1 (by have := norm_len n1; simp only at this; omega) (by have := norm_len n1; simp only at this; omega)).mono fun e w' he => ⟨by rw [he.1, rRatOk_no (fun k => p1 ((okR_val n1).1 k))], he.2⟩
set_option maxRecDepth 100000 in
set_option maxHeartbeats 1000000 in
theorem impl_RatOk (b1 : Bool) (A1 : Option Addr) (n1 c1 l1 : Nat) (f1 : Nat → Int) (D1 : Option Addr) (m1 e1 u1 : Nat) (g1 : Nat → Int) (w : World) (h1 : Row w l1 A1 n1 c1 f1) (k1 : Row w u1 D1 m1 e1 g1) (hn1 : n1 ≤ 1048576) (hm1 : m1 ≤ 1048576) :
    Calls Tryz.prog 28 #[.agg #[.bool b1, .slice A1 n1 c1, .slice D1 m1 e1]] w fun e w' => e = .returned (.bool (rRatOk b1 n1 f1 m1 g1)) ∧ Old w w' := by
  by_cases kb : okB b1 n1 f1
  case neg =>
    have Hr := Lib.hid (rRatOk_no (m := m1) (g := g1) fun h => kb h.1)
    have KB := Lib.hid kb
    clear kb
    have O : Old w (w.alloc (.cells #[.bool b1, .slice A1 n1 c1, .slice D1 m1 e1] 26)) := oldA
    have B_r : Bx (w.alloc (.cells #[.bool b1, .slice A1 n1 c1, .slice D1 m1 e1] 26)) (w.heap.size) #[.bool b1, .slice A1 n1 c1, .slice D1 m1 e1] := by have h := (Bx.new w #[.bool b1, .slice A1 n1 c1, .slice D1 m1 e1] 26); simpa using h
    have ze : w.heap.size + 1 ≤ (w.alloc (.cells #[.bool b1, .slice A1 n1 c1, .slice D1 m1 e1] 26)).heap.size := (by simp)
    go_enter Tryz.func28, Tryz.ntmps28
    go_wp2_with fail
    refine callsNamed ?_
    intro p1 hp
    have O' : Old w p1 := (by rw [hp]; exact Below.trans (b := (w.alloc (.cells #[.bool b1, .slice A1 n1 c1, .slice D1 m1 e1] 26))) O oldA)
    replace B_r : Bx p1 (w.heap.size) #[.bool b1, .slice A1 n1 c1, .slice D1 m1 e1] := (bxK B_r hp)
    have zp1 : (w.alloc (.cells #[.bool b1, .slice A1 n1 c1, .slice D1 m1 e1] 26)).heap.size ≤ p1.heap.size := (by rw [hp]; exact leA)
    clear hp O
    have O := O'
    clear O'
    refine (plain_to (by rw [rBigIntOk_no KB.out]) (impl_BigIntOk b1 A1 n1 c1 l1 f1 _ (Row.below (B := w.heap.size) h1 O (Nat.le_refl _)) hn1)).mono ?_
    rintro e w1 ⟨rfl, o1⟩
    replace B_r := Bx.old B_r o1
    replace O := Old.trans O o1
    have zw1 := o1.size
    obtain ⟨q_r_0, q_r_1, q_r_2, f_r_0, f_r_1, f_r_2, q_r⟩ := B_r.all3
    go_wp2
    go_ret
    exact ⟨by rw [Hr.out]; try rfl, Below.trans (b := w1) O oldA⟩
  by_cases kn : okP m1 g1
  case neg =>
    have Hr := Lib.hid (rRatOk_no (b := b1) (n := n1) (f := f1) fun h => kn h.2.1)
    have KB := Lib.hid kb
    have KN := Lib.hid kn
    clear kb kn
    have O : Old w (w.alloc (.cells #[.bool b1, .slice A1 n1 c1, .slice D1 m1 e1] 26)) := oldA
    have B_r : Bx (w.alloc (.cells #[.bool b1, .slice A1 n1 c1, .slice D1 m1 e1] 26)) (w.heap.size) #[.bool b1, .slice A1 n1 c1, .slice D1 m1 e1] := by have h := (Bx.new w #[.bool b1, .slice A1 n1 c1, .slice D1 m1 e1] 26); simpa using h
    have ze : w.heap.size + 1 ≤ (w.alloc (.cells #[.bool b1, .slice A1 n1 c1, .slice D1 m1 e1] 26)).heap.size := (by simp)
    go_enter Tryz.func28, Tryz.ntmps28
    go_wp2_with fail
    refine callsNamed ?_
    intro p1 hp
    have O' : Old w p1 := (by rw [hp]; exact Below.trans (b := (w.alloc (.cells #[.bool b1, .slice A1 n1 c1, .slice D1 m1 e1] 26))) O oldA)
    replace B_r : Bx p1 (w.heap.size) #[.bool b1, .slice A1 n1 c1, .slice D1 m1 e1] := (bxK B_r hp)
    have zp1 : (w.alloc (.cells #[.bool b1, .slice A1 n1 c1, .slice D1 m1 e1] 26)).heap.size ≤ p1.heap.size := (by rw [hp]; exact leA)
    clear hp O
    have O := O'
    clear O'
    refine (plain_to (by rw [rBigIntOk_yes KB.out]) (impl_BigIntOk b1 A1 n1 c1 l1 f1 _ (Row.below (B := w.heap.size) h1 O (Nat.le_refl _)) hn1)).mono ?_
    rintro e w1 ⟨rfl, o1⟩
    replace B_r := Bx.old B_r o1
    replace O := Old.trans O o1
    have zw1 := o1.size
    obtain ⟨q_r_0, q_r_1, q_r_2, f_r_0, f_r_1, f_r_2, q_r⟩ := B_r.all3
    go_wp2_with fail
    refine callsNamed ?_
    intro p2 hp
    clear q_r_0 q_r_1 q_r_2 f_r_0 f_r_1 f_r_2 q_r
    have O' : Old w p2 := (by rw [hp]; exact Below.trans (b := w1) O oldA)
    replace B_r : Bx p2 (w.heap.size) #[.bool b1, .slice A1 n1 c1, .slice D1 m1 e1] := (bxK B_r hp)
    have zp2 : w1.heap.size ≤ p2.heap.size := (by rw [hp]; exact leA)
    clear hp O
    have O := O'
    clear O'
    refine (plain_to (by rw [rNatOk_no KN.out]) (impl_NatOk D1 m1 e1 u1 g1 _ (Row.below (B := w.heap.size) k1 O (Nat.le_refl _)) hm1)).mono ?_
    rintro e w2 ⟨rfl, o2⟩
    replace B_r := Bx.old B_r o2
    replace O := Old.trans O o2
    have zw2 := o2.size
    obtain ⟨q_r_0, q_r_1, q_r_2, f_r_0, f_r_1, f_r_2, q_r⟩ := B_r.all3
    go_wp2
    go_ret
    exact ⟨by rw [Hr.out]; try rfl, Below.trans (b := w2) O oldA⟩
  by_cases k0 : 0 < m1
  case neg =>
    have Hr := Lib.hid (rRatOk_no (b := b1) (n := n1) (f := f1) (m := m1) (g := g1) fun h => k0 h.2.2.1)
    have KB := Lib.hid kb
    have KN := Lib.hid kn
    clear kb kn
    have hz : ((m1 : Int) == 0) = true := by simp; omega
    have O : Old w (w.alloc (.cells #[.bool b1, .slice A1 n1 c1, .slice D1 m1 e1] 26)) := oldA
    have B_r : Bx (w.alloc (.cells #[.bool b1, .slice A1 n1 c1, .slice D1 m1 e1] 26)) (w.heap.size) #[.bool b1, .slice A1 n1 c1, .slice D1 m1 e1] := by have h := (Bx.new w #[.bool b1, .slice A1 n1 c1, .slice D1 m1 e1] 26); simpa using h
    have ze : w.heap.size + 1 ≤ (w.alloc (.cells #[.bool b1, .slice A1 n1 c1, .slice D1 m1 e1] 26)).heap.size := (by simp)
    go_enter Tryz.func28, Tryz.ntmps28
    go_wp2_with fail
    refine callsNamed ?_
    intro p1 hp
    have O' : Old w p1 := (by rw [hp]; exact Below.trans (b := (w.alloc (.cells #[.bool b1, .slice A1 n1 c1, .slice D1 m1 e1] 26))) O oldA)
    replace B_r : Bx p1 (w.heap.size) #[.bool b1, .slice A1 n1 c1, .slice D1 m1 e1] := (bxK B_r hp)
    have zp1 : (w.alloc (.cells #[.bool b1, .slice A1 n1 c1, .slice D1 m1 e1] 26)).heap.size ≤ p1.heap.size := (by rw [hp]; exact leA)
    clear hp O
    have O := O'
    clear O'
    refine (plain_to (by rw [rBigIntOk_yes KB.out]) (impl_BigIntOk b1 A1 n1 c1 l1 f1 _ (Row.below (B := w.heap.size) h1 O (Nat.le_refl _)) hn1)).mono ?_
    rintro e w1 ⟨rfl, o1⟩
    replace B_r := Bx.old B_r o1
    replace O := Old.trans O o1
    have zw1 := o1.size
    obtain ⟨q_r_0, q_r_1, q_r_2, f_r_0, f_r_1, f_r_2, q_r⟩ := B_r.all3
    go_wp2_with fail
    refine callsNamed ?_
    intro p2 hp
    clear q_r_0 q_r_1 q_r_2 f_r_0 f_r_1 f_r_2 q_r
    have O' : Old w p2 := (by rw [hp]; exact Below.trans (b := w1) O oldA)
    replace B_r : Bx p2 (w.heap.size) #[.bool b1, .slice A1 n1 c1, .slice D1 m1 e1] := (bxK B_r hp)
    have zp2 : w1.heap.size ≤ p2.heap.size := (by rw [hp]; exact leA)
    clear hp O
    have O := O'
    clear O'
    refine (plain_to (by rw [rNatOk_yes KN.out]) (impl_NatOk D1 m1 e1 u1 g1 _ (Row.below (B := w.heap.size) k1 O (Nat.le_refl _)) hm1)).mono ?_
    rintro e w2 ⟨rfl, o2⟩
    replace B_r := Bx.old B_r o2
    replace O := Old.trans O o2
    have zw2 := o2.size
    obtain ⟨q_r_0, q_r_1, q_r_2, f_r_0, f_r_1, f_r_2, q_r⟩ := B_r.all3
    go_wp2
    go_ret
    exact ⟨by rw [Hr.out]; try rfl, Below.trans (b := w2) O oldA⟩
  by_cases k24 : m1 ≤ 24
  case neg =>
    have Hr := Lib.hid (rRatOk_no (b := b1) (n := n1) (f := f1) (m := m1) (g := g1) fun h => k24 h.2.2.2.2.1)
    have KB := Lib.hid kb
    have KN := Lib.hid kn
    clear kb kn
    have hz : ((m1 : Int) == 0) = false := by simp; omega
    have hz1 : (24 : Int) < (m1 : Int) := by omega
    by_cases hz3 : (24 : Int) < (n1 : Int)
    case pos =>
      have O : Old w (w.alloc (.cells #[.bool b1, .slice A1 n1 c1, .slice D1 m1 e1] 26)) := oldA
      have B_r : Bx (w.alloc (.cells #[.bool b1, .slice A1 n1 c1, .slice D1 m1 e1] 26)) (w.heap.size) #[.bool b1, .slice A1 n1 c1, .slice D1 m1 e1] := by have h := (Bx.new w #[.bool b1, .slice A1 n1 c1, .slice D1 m1 e1] 26); simpa using h
      have ze : w.heap.size + 1 ≤ (w.alloc (.cells #[.bool b1, .slice A1 n1 c1, .slice D1 m1 e1] 26)).heap.size := (by simp)
      go_enter Tryz.func28, Tryz.ntmps28
      go_wp2_with fail
      refine callsNamed ?_
      intro p1 hp
      have O' : Old w p1 := (by rw [hp]; exact Below.trans (b := (w.alloc (.cells #[.bool b1, .slice A1 n1 c1, .slice D1 m1 e1] 26))) O oldA)
      replace B_r : Bx p1 (w.heap.size) #[.bool b1, .slice A1 n1 c1, .slice D1 m1 e1] := (bxK B_r hp)
      have zp1 : (w.alloc (.cells #[.bool b1, .slice A1 n1 c1, .slice D1 m1 e1] 26)).heap.size ≤ p1.heap.size := (by rw [hp]; exact leA)
      clear hp O
      have O := O'
      clear O'
      refine (plain_to (by rw [rBigIntOk_yes KB.out]) (impl_BigIntOk b1 A1 n1 c1 l1 f1 _ (Row.below (B := w.heap.size) h1 O (Nat.le_refl _)) hn1)).mono ?_
      rintro e w1 ⟨rfl, o1⟩
      replace B_r := Bx.old B_r o1
      replace O := Old.trans O o1
      have zw1 := o1.size
      obtain ⟨q_r_0, q_r_1, q_r_2, f_r_0, f_r_1, f_r_2, q_r⟩ := B_r.all3
      go_wp2_with fail
      refine callsNamed ?_
      intro p2 hp
      clear q_r_0 q_r_1 q_r_2 f_r_0 f_r_1 f_r_2 q_r
      have O' : Old w p2 := (by rw [hp]; exact Below.trans (b := w1) O oldA)
      replace B_r : Bx p2 (w.heap.size) #[.bool b1, .slice A1 n1 c1, .slice D1 m1 e1] := (bxK B_r hp)
      have zp2 : w1.heap.size ≤ p2.heap.size := (by rw [hp]; exact leA)
      clear hp O
      have O := O'
      clear O'
      refine (plain_to (by rw [rNatOk_yes KN.out]) (impl_NatOk D1 m1 e1 u1 g1 _ (Row.below (B := w.heap.size) k1 O (Nat.le_refl _)) hm1)).mono ?_
      rintro e w2 ⟨rfl, o2⟩
      replace B_r := Bx.old B_r o2
      replace O := Old.trans O o2
      have zw2 := o2.size
      obtain ⟨q_r_0, q_r_1, q_r_2, f_r_0, f_r_1, f_r_2, q_r⟩ := B_r.all3
      go_wp2
      go_ret
      exact ⟨by rw [Hr.out]; try rfl, Below.trans (b := w2) O oldA⟩
    have O : Old w (w.alloc (.cells #[.bool b1, .slice A1 n1 c1, .slice D1 m1 e1] 26)) := oldA
    have B_r : Bx (w.alloc (.cells #[.bool b1, .slice A1 n1 c1, .slice D1 m1 e1] 26)) (w.heap.size) #[.bool b1, .slice A1 n1 c1, .slice D1 m1 e1] := by have h := (Bx.new w #[.bool b1, .slice A1 n1 c1, .slice D1 m1 e1] 26); simpa using h
    have ze : w.heap.size + 1 ≤ (w.alloc (.cells #[.bool b1, .slice A1 n1 c1, .slice D1 m1 e1] 26)).heap.size := (by simp)
    go_enter Tryz.func28, Tryz.ntmps28
    go_wp2_with fail
    refine callsNamed ?_
    intro p1 hp
    have O' : Old w p1 := (by rw [hp]; exact Below.trans (b := (w.alloc (.cells #[.bool b1, .slice A1 n1 c1, .slice D1 m1 e1] 26))) O oldA)
    replace B_r : Bx p1 (w.heap.size) #[.bool b1, .slice A1 n1 c1, .slice D1 m1 e1] := (bxK B_r hp)
    have zp1 : (w.alloc (.cells #[.bool b1, .slice A1 n1 c1, .slice D1 m1 e1] 26)).heap.size ≤ p1.heap.size := (by rw [hp]; exact leA)
    clear hp O
    have O := O'
    clear O'
    refine (plain_to (by rw [rBigIntOk_yes KB.out]) (impl_BigIntOk b1 A1 n1 c1 l1 f1 _ (Row.below (B := w.heap.size) h1 O (Nat.le_refl _)) hn1)).mono ?_
    rintro e w1 ⟨rfl, o1⟩
    replace B_r := Bx.old B_r o1
    replace O := Old.trans O o1
    have zw1 := o1.size
    obtain ⟨q_r_0, q_r_1, q_r_2, f_r_0, f_r_1, f_r_2, q_r⟩ := B_r.all3
    go_wp2_with fail
    refine callsNamed ?_
    intro p2 hp
    clear q_r_0 q_r_1 q_r_2 f_r_0 f_r_1 f_r_2 q_r
    have O' : Old w p2 := (by rw [hp]; exact Below.trans (b := w1) O oldA)
    replace B_r : Bx p2 (w.heap.size) #[.bool b1, .slice A1 n1 c1, .slice D1 m1 e1] := (bxK B_r hp)
    have zp2 : w1.heap.size ≤ p2.heap.size := (by rw [hp]; exact leA)
    clear hp O
    have O := O'
    clear O'
    refine (plain_to (by rw [rNatOk_yes KN.out]) (impl_NatOk D1 m1 e1 u1 g1 _ (Row.below (B := w.heap.size) k1 O (Nat.le_refl _)) hm1)).mono ?_
    rintro e w2 ⟨rfl, o2⟩
    replace B_r := Bx.old B_r o2
    replace O := Old.trans O o2
    have zw2 := o2.size
    obtain ⟨q_r_0, q_r_1, q_r_2, f_r_0, f_r_1, f_r_2, q_r⟩ := B_r.all3
    go_wp2
    go_ret
    exact ⟨by rw [Hr.out]; try rfl, Below.trans (b := w2) O oldA⟩
  by_cases j24 : n1 ≤ 24
  case neg =>
    have Hr := Lib.hid (rRatOk_no (b := b1) (n := n1) (f := f1) (m := m1) (g := g1) fun h => j24 h.2.2.2.1)
    have KB := Lib.hid kb
    have KN := Lib.hid kn
    clear kb kn
    have hz : ((m1 : Int) == 0) = false := by simp; omega
    have hz1 : ¬ (24 : Int) < (m1 : Int) := by omega
    have hz2 : (24 : Int) < (n1 : Int) := by omega
    have O : Old w (w.alloc (.cells #[.bool b1, .slice A1 n1 c1, .slice D1 m1 e1] 26)) := oldA
    have B_r : Bx (w.alloc (.cells #[.bool b1, .slice A1 n1 c1, .slice D1 m1 e1] 26)) (w.heap.size) #[.bool b1, .slice A1 n1 c1, .slice D1 m1 e1] := by have h := (Bx.new w #[.bool b1, .slice A1 n1 c1, .slice D1 m1 e1] 26); simpa using h
    have ze : w.heap.size + 1 ≤ (w.alloc (.cells #[.bool b1, .slice A1 n1 c1, .slice D1 m1 e1] 26)).heap.size := (by simp)
    go_enter Tryz.func28, Tryz.ntmps28
    go_wp2_with fail
    refine callsNamed ?_
    intro p1 hp
    have O' : Old w p1 := (by rw [hp]; exact Below.trans (b := (w.alloc (.cells #[.bool b1, .slice A1 n1 c1, .slice D1 m1 e1] 26))) O oldA)
    replace B_r : Bx p1 (w.heap.size) #[.bool b1, .slice A1 n1 c1, .slice D1 m1 e1] := (bxK B_r hp)
    have zp1 : (w.alloc (.cells #[.bool b1, .slice A1 n1 c1, .slice D1 m1 e1] 26)).heap.size ≤ p1.heap.size := (by rw [hp]; exact leA)
    clear hp O
    have O := O'
    clear O'
    refine (plain_to (by rw [rBigIntOk_yes KB.out]) (impl_BigIntOk b1 A1 n1 c1 l1 f1 _ (Row.below (B := w.heap.size) h1 O (Nat.le_refl _)) hn1)).mono ?_
    rintro e w1 ⟨rfl, o1⟩
    replace B_r := Bx.old B_r o1
    replace O := Old.trans O o1
    have zw1 := o1.size
    obtain ⟨q_r_0, q_r_1, q_r_2, f_r_0, f_r_1, f_r_2, q_r⟩ := B_r.all3
    go_wp2_with fail
    refine callsNamed ?_
    intro p2 hp
    clear q_r_0 q_r_1 q_r_2 f_r_0 f_r_1 f_r_2 q_r
    have O' : Old w p2 := (by rw [hp]; exact Below.trans (b := w1) O oldA)
    replace B_r : Bx p2 (w.heap.size) #[.bool b1, .slice A1 n1 c1, .slice D1 m1 e1] := (bxK B_r hp)
    have zp2 : w1.heap.size ≤ p2.heap.size := (by rw [hp]; exact leA)
    clear hp O
    have O := O'
    clear O'
    refine (plain_to (by rw [rNatOk_yes KN.out]) (impl_NatOk D1 m1 e1 u1 g1 _ (Row.below (B := w.heap.size) k1 O (Nat.le_refl _)) hm1)).mono ?_
    rintro e w2 ⟨rfl, o2⟩
    replace B_r := Bx.old B_r o2
    replace O := Old.trans O o2
    have zw2 := o2.size
    obtain ⟨q_r_0, q_r_1, q_r_2, f_r_0, f_r_1, f_r_2, q_r⟩ := B_r.all3
    go_wp2
    go_ret
    exact ⟨by rw [Hr.out]; try rfl, Below.trans (b := w2) O oldA⟩
  have HK : Hid (rRatOk b1 n1 f1 m1 g1 = decide (Nat.gcd (natX n1 f1) (natX m1 g1) = 1)) := Lib.hid (by
    by_cases hg : Nat.gcd (natX n1 f1) (natX m1 g1) = 1
    · rw [rRatOk_yes ⟨kb, kn, k0, j24, k24, hg⟩, decide_eq_true hg]
    · rw [rRatOk_no fun h => hg h.2.2.2.2.2, decide_eq_false hg])
  have hz : ((m1 : Int) == 0) = false := by simp; omega
  have hz1 : ¬ (24 : Int) < (m1 : Int) := by omega
  have hz2 : ¬ (24 : Int) < (n1 : Int) := by omega
  have KB := Lib.hid kb
  have KN := Lib.hid kn
  obtain ⟨x, e1, hx, hxv, s1⟩ := row_nat h1 kb.1
  obtain ⟨d, e2, hd, hdv, s2⟩ := row_nat k1 kn
  rw [hxv, hdv] at HK
  clear kb kn hxv hdv
  have hx4 : len x ≤ 24 := by omega
  have hd4 : len d ≤ 24 := by omega
  subst e1 e2
  by_cases hd1 : d = 1
  case pos =>
    have Hr : Hid (rRatOk b1 (len x) f1 (len d) g1 = true) := Lib.hid (by rw [HK.out]; exact decide_eq_true (by rw [hd1, Nat.gcd_one_right]))
    have HD := Lib.hid hd1
    clear hd1
    have O : Old w (w.alloc (.cells #[.bool b1, .slice A1 (len x) c1, .slice D1 (len d) e1] 26)) := oldA
    have B_r : Bx (w.alloc (.cells #[.bool b1, .slice A1 (len x) c1, .slice D1 (len d) e1] 26)) (w.heap.size) #[.bool b1, .slice A1 (len x) c1, .slice D1 (len d) e1] := by have h := (Bx.new w #[.bool b1, .slice A1 (len x) c1, .slice D1 (len d) e1] 26); simpa using h
    have ze : w.heap.size + 1 ≤ (w.alloc (.cells #[.bool b1, .slice A1 (len x) c1, .slice D1 (len d) e1] 26)).heap.size := (by simp)
    go_enter Tryz.func28, Tryz.ntmps28
    go_wp2_with fail
    refine callsNamed ?_
    intro p1 hp
    have O' : Old w p1 := (by rw [hp]; exact Below.trans (b := (w.alloc (.cells #[.bool b1, .slice A1 (len x) c1, .slice D1 (len d) e1] 26))) O oldA)
    replace B_r : Bx p1 (w.heap.size) #[.bool b1, .slice A1 (len x) c1, .slice D1 (len d) e1] := (bxK B_r hp)
    have zp1 : (w.alloc (.cells #[.bool b1, .slice A1 (len x) c1, .slice D1 (len d) e1] 26)).heap.size ≤ p1.heap.size := (by rw [hp]; exact leA)
    clear hp O
    have O := O'
    clear O'
    refine (plain_to (by rw [rBigIntOk_yes KB.out]) (impl_BigIntOk b1 A1 _ c1 l1 f1 _ (Row.below (B := w.heap.size) h1 O (Nat.le_refl _)) hn1)).mono ?_
    rintro e w1 ⟨rfl, o1⟩
    replace B_r := Bx.old B_r o1
    replace O := Old.trans O o1
    have zw1 := o1.size
    obtain ⟨q_r_0, q_r_1, q_r_2, f_r_0, f_r_1, f_r_2, q_r⟩ := B_r.all3
    go_wp2_with fail
    refine callsNamed ?_
    intro p2 hp
    clear q_r_0 q_r_1 q_r_2 f_r_0 f_r_1 f_r_2 q_r
    have O' : Old w p2 := (by rw [hp]; exact Below.trans (b := w1) O oldA)
    replace B_r : Bx p2 (w.heap.size) #[.bool b1, .slice A1 (len x) c1, .slice D1 (len d) e1] := (bxK B_r hp)
    have zp2 : w1.heap.size ≤ p2.heap.size := (by rw [hp]; exact leA)
    clear hp O
    have O := O'
    clear O'
    refine (plain_to (by rw [rNatOk_yes KN.out]) (impl_NatOk D1 _ e1 u1 g1 _ (Row.below (B := w.heap.size) k1 O (Nat.le_refl _)) hm1)).mono ?_
    rintro e w2 ⟨rfl, o2⟩
    replace B_r := Bx.old B_r o2
    replace O := Old.trans O o2
    have zw2 := o2.size
    obtain ⟨q_r_0, q_r_1, q_r_2, f_r_0, f_r_1, f_r_2, q_r⟩ := B_r.all3
    go_wp2_with fail
    refine callsNamed ?_
    intro p3 hp
    clear q_r_0 q_r_1 q_r_2 f_r_0 f_r_1 f_r_2 q_r
    have O' : Old w p3 := (by rw [hp]; exact Below.trans (b := w2) O oldA)
    replace B_r : Bx p3 (w.heap.size) #[.bool b1, .slice A1 (len x) c1, .slice D1 (len d) e1] := (bxK B_r hp)
    have zp3 : w2.heap.size ≤ p3.heap.size := (by rw [hp]; exact leA)
    clear hp O
    have O := O'
    clear O'
    refine (plain_to (by rw [decide_eq_true HD.out]) (isOne_any D1 e1 d u1 _ (Row.below (B := w.heap.size) s2 O (Nat.le_refl _)))).mono ?_
    rintro e w3 ⟨rfl, o3⟩
    replace B_r := Bx.old B_r o3
    replace O := Old.trans O o3
    have zw3 := o3.size
    obtain ⟨q_r_0, q_r_1, q_r_2, f_r_0, f_r_1, f_r_2, q_r⟩ := B_r.all3
    go_wp2
    go_ret
    exact ⟨by rw [Hr.out]; try rfl, Below.trans (b := w3) O oldA⟩
  have HD := Lib.hid hd1
  clear hd1
  have O : Old w (w.alloc (.cells #[.bool b1, .slice A1 (len x) c1, .slice D1 (len d) e1] 26)) := oldA
  have B_r : Bx (w.alloc (.cells #[.bool b1, .slice A1 (len x) c1, .slice D1 (len d) e1] 26)) (w.heap.size) #[.bool b1, .slice A1 (len x) c1, .slice D1 (len d) e1] := by have h := (Bx.new w #[.bool b1, .slice A1 (len x) c1, .slice D1 (len d) e1] 26); simpa using h
  have ze : w.heap.size + 1 ≤ (w.alloc (.cells #[.bool b1, .slice A1 (len x) c1, .slice D1 (len d) e1] 26)).heap.size := (by simp)
  go_enter Tryz.func28, Tryz.ntmps28
  go_wp2_with fail
  refine callsNamed ?_
  intro p1 hp
  have O' : Old w p1 := (by rw [hp]; exact Below.trans (b := (w.alloc (.cells #[.bool b1, .slice A1 (len x) c1, .slice D1 (len d) e1] 26))) O oldA)
  replace B_r : Bx p1 (w.heap.size) #[.bool b1, .slice A1 (len x) c1, .slice D1 (len d) e1] := (bxK B_r hp)
  have zp1 : (w.alloc (.cells #[.bool b1, .slice A1 (len x) c1, .slice D1 (len d) e1] 26)).heap.size ≤ p1.heap.size := (by rw [hp]; exact leA)
  clear hp O
  have O := O'
  clear O'
  refine (plain_to (by rw [rBigIntOk_yes KB.out]) (impl_BigIntOk b1 A1 _ c1 l1 f1 _ (Row.below (B := w.heap.size) h1 O (Nat.le_refl _)) hn1)).mono ?_
  rintro e w1 ⟨rfl, o1⟩
  replace B_r := Bx.old B_r o1
  replace O := Old.trans O o1
  have zw1 := o1.size
  obtain ⟨q_r_0, q_r_1, q_r_2, f_r_0, f_r_1, f_r_2, q_r⟩ := B_r.all3
  go_wp2_with fail
  refine callsNamed ?_
  intro p2 hp
  clear q_r_0 q_r_1 q_r_2 f_r_0 f_r_1 f_r_2 q_r
  have O' : Old w p2 := (by rw [hp]; exact Below.trans (b := w1) O oldA)
  replace B_r : Bx p2 (w.heap.size) #[.bool b1, .slice A1 (len x) c1, .slice D1 (len d) e1] := (bxK B_r hp)
  have zp2 : w1.heap.size ≤ p2.heap.size := (by rw [hp]; exact leA)
  clear hp O
  have O := O'
  clear O'
  refine (plain_to (by rw [rNatOk_yes KN.out]) (impl_NatOk D1 _ e1 u1 g1 _ (Row.below (B := w.heap.size) k1 O (Nat.le_refl _)) hm1)).mono ?_
  rintro e w2 ⟨rfl, o2⟩
  replace B_r := Bx.old B_r o2
  replace O := Old.trans O o2
  have zw2 := o2.size
  obtain ⟨q_r_0, q_r_1, q_r_2, f_r_0, f_r_1, f_r_2, q_r⟩ := B_r.all3
  go_wp2_with fail
  refine callsNamed ?_
  intro p3 hp
  clear q_r_0 q_r_1 q_r_2 f_r_0 f_r_1 f_r_2 q_r
  have O' : Old w p3 := (by rw [hp]; exact Below.trans (b := w2) O oldA)
  replace B_r : Bx p3 (w.heap.size) #[.bool b1, .slice A1 (len x) c1, .slice D1 (len d) e1] := (bxK B_r hp)
  have zp3 : w2.heap.size ≤ p3.heap.size := (by rw [hp]; exact leA)
  clear hp O
  have O := O'
  clear O'
  refine (plain_to (by rw [decide_eq_false HD.out]) (isOne_any D1 e1 d u1 _ (Row.below (B := w.heap.size) s2 O (Nat.le_refl _)))).mono ?_
  rintro e w3 ⟨rfl, o3⟩
  replace B_r := Bx.old B_r o3
  replace O := Old.trans O o3
  have zw3 := o3.size
  obtain ⟨q_r_0, q_r_1, q_r_2, f_r_0, f_r_1, f_r_2, q_r⟩ := B_r.all3
  go_wp2_with fail
  refine callsNamed ?_
  intro p4 hp
  clear q_r_0 q_r_1 q_r_2 f_r_0 f_r_1 f_r_2 q_r
  have O' : Old w p4 := (by rw [hp]; exact Below.trans (b := w3) O oldA)
  replace B_r : Bx p4 (w.heap.size) #[.bool b1, .slice A1 (len x) c1, .slice D1 (len d) e1] := (bxK B_r hp)
  have zp4 : w3.heap.size ≤ p4.heap.size := (by rw [hp]; exact leA)
  clear hp O
  have O := O'
  clear O'
  refine (natGcd_any A1 D1 c1 e1 x d l1 u1 _ (Row.below (B := w.heap.size) s1 O (Nat.le_refl _)) (Row.below (B := w.heap.size) s2 O (Nat.le_refl _)) (by omega) (by omega)).mono ?_
  rintro e w4 ⟨⟨G, cG, rfl, r1⟩, o4⟩
  replace B_r := Bx.old B_r o4
  replace O := Old.trans O o4
  have zw4 := o4.size
  have lim_r1 := Row.lim r1
  obtain ⟨q_r_0, q_r_1, q_r_2, f_r_0, f_r_1, f_r_2, q_r⟩ := B_r.all3
  go_wp2_with fail
  refine callsNamed ?_
  intro p5 hp
  clear q_r_0 q_r_1 q_r_2 f_r_0 f_r_1 f_r_2 q_r
  have O' : Old w p5 := (by rw [hp]; exact Below.trans (b := w4) O oldA)
  replace B_r : Bx p5 (w.heap.size) #[.bool b1, .slice A1 (len x) c1, .slice D1 (len d) e1] := (bxK B_r hp)
  replace r1 := rowK r1 hp
  have zp5 : w4.heap.size ≤ p5.heap.size := (by rw [hp]; exact leA)
  clear hp O
  have O := O'
  clear O'
  refine (isOne_any G cG (Nat.gcd x d) _ _ r1).mono ?_
  rintro e w5 ⟨rfl, o5⟩
  replace B_r := Bx.old B_r o5
  replace r1 := Row.below r1 o5 (Nat.le_refl _)
  replace O := Old.trans O o5
  have zw5 := o5.size
  obtain ⟨q_r_0, q_r_1, q_r_2, f_r_0, f_r_1, f_r_2, q_r⟩ := B_r.all3
  go_wp2
  go_ret
  exact ⟨by rw [HK.out]; try rfl, Below.trans (b := w5) O oldA⟩
theorem impl_RatOk_yes (z1 : Int) (d1 : Nat) (A1 D1 : Option Addr) (c1 e1 l1 m1 : Nat) (w : World) (h1 : NatS w l1 A1 c1 (magZ z1)) (k1 : NatS w m1 D1 e1 d1) (n1 : normF (z1, d1)) (p1 : 0 < d1) : Calls Tryz.prog 28 #[.agg #[.bool (sgnZ z1), .slice A1 (len (magZ z1)) c1, .slice D1 (len d1) e1]] w fun e w' => e = .returned (.bool true) ∧ Old w w' :=
  (impl_RatOk (sgnZ z1) A1 _ c1 l1 _ D1 _ e1 m1 _ w h1 k1 (by have := norm_len n1; simp only at this; omega) (by have := norm_len n1; simp only at this; omega)).mono fun e w' he => ⟨by rw [he.1, rRatOk_yes ((okR_val n1).2 p1)], he.2⟩
theorem impl_RatOk_no (b1 : Bool) (A1 : Option Addr) (n1 c1 l1 : Nat) (f1 : Nat → Int) (D1 : Option Addr) (m1 e1 u1 : Nat) (g1 : Nat → Int) (w : World) (h1 : Row w l1 A1 n1 c1 f1) (k1 : Row w u1 D1 m1 e1 g1) (hn1 : n1 ≤ 1048576) (hm1 : m1 ≤ 1048576) (q1 : ¬ okR b1 n1 f1 m1 g1) : Calls Tryz.prog 28 #[.agg #[.bool b1, .slice A1 n1 c1, .slice D1 m1 e1]] w fun e w' => e = .returned (.bool false) ∧ Old w w' :=
  (impl_RatOk b1 A1 n1 c1 l1 f1 D1 m1 e1 u1 g1 w h1 k1 hn1 hm1).mono fun e w' he => ⟨by rw [he.1, rRatOk_no q1], he.2⟩
theorem impl_RatOk_zero (z1 : Int) (d1 : Nat) (A1 D1 : Option Addr) (c1 e1 l1 m1 : Nat) (w : World) (h1 : NatS w l1 A1 c1 (magZ z1)) (k1 : NatS w m1 D1 e1 d1) (n1 : normF (z1, d1)) (p1 : ¬ 0 < d1) : Calls Tryz.prog 28 #[.agg #[.bool (sgnZ z1), .slice A1 (len (magZ z1)) c1, .slice D1 (len d1) e1]] w fun e w' => e = .returned (.bool false) ∧ Old w w' :=
  (impl_RatOk (sgnZ z1) A1 _ c1 l1 _ D1 _ e1 m1 _ w h1 k1 (by have := norm_len n1; simp only at this; omega) (by have := norm_len n1; simp only at this; omega)).mono fun e w' he => ⟨by rw [he.1, rRatOk_no (fun k => p1 ((okR_val n1).1 k))], he.2⟩
set_option maxRecDepth 100000 in
set_option maxHeartbeats 1000000 in
theorem isGood_any (b1 : Bool) (A1 D1 : Option Addr) (n1 c1 m1 e1 : Nat) (w : World) :
    Calls Tryz.prog 71 #[.agg #[.bool b1, .slice A1 n1 c1, .slice D1 m1 e1]] w fun e w' => e = .returned (.bool (decide (0 < m1))) ∧ Old w w' := by
  go_enter Tryz.func71, Tryz.ntmps71
  go_wp2
  go_ret
  exact ⟨rfl, oldA⟩
theorem isGood_yes (b1 : Bool) (A1 D1 : Option Addr) (n1 c1 d e1 : Nat) (w : World) (h : 0 < d) :
    Calls Tryz.prog 71 #[.agg #[.bool b1, .slice A1 n1 c1, .slice D1 (len d) e1]] w fun e w' => e = .returned (.bool true) ∧ Old w w' := plain_to (by rw [decide_eq_true (len_pos h)]) (isGood_any b1 A1 D1 n1 c1 (len d) e1 w)
theorem isGood_no (b1 : Bool) (A1 D1 : Option Addr) (n1 c1 d e1 : Nat) (w : World) (h : ¬ 0 < d) :
    Calls Tryz.prog 71 #[.agg #[.bool b1, .slice A1 n1 c1, .slice D1 (len d) e1]] w fun e w' => e = .returned (.bool false) ∧ Old w w' := plain_to (by rw [decide_eq_false (fun k => h (pos_len k))]) (isGood_any b1 A1 D1 n1 c1 (len d) e1 w)
end Go.Proofs.YtgchbbjhdeobpaaGreatDoor
