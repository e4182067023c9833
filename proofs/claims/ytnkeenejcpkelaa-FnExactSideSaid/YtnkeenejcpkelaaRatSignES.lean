import Derived.Test.YtnkeenejcpkelaaRatOk
/-
  The exported RatSign's: the program's and the reference's.
-/
namespace Go.Proofs.Ytnkeenejcpkelaa
set_option linter.unusedVariables false
open Go.RowKit Num
attribute [local go_sem ↓] Go.wp_at_zero Go.wp_at_succ
noncomputable def rRatSign (b1 : Bool) (n1 : Nat) (f1 : Nat → Int) (m1 : Nat) (g1 : Nat → Int) : Int := sgnF (vR b1 n1 f1 m1 g1)
set_option maxRecDepth 100000 in
set_option maxHeartbeats 1000000 in
theorem spec_RatSign_zero (z1 : Int) (d1 : Nat) (A1 D1 : Option Addr) (c1 e1 l1 m1 : Nat) (w : World) (h1 : NatS w l1 A1 c1 (magZ z1)) (k1 : NatS w m1 D1 e1 d1) (n1 : normF (z1, d1)) (p1 : 0 < d1) (h0 : z1 = 0) :
    Calls Try.prog 45 #[.agg #[.bool (sgnZ z1), .slice A1 (len (magZ z1)) c1, .slice D1 (len d1) e1]] w fun e w' => e = .returned (.int .i64 (0)) ∧ Old w w' := by
  have N1 := Lib.hid n1
  have LN1 := norm_len n1
  have La1 : len (magZ z1) ≤ 24 := LN1.1
  have Lb1 : len d1 ≤ 24 := LN1.2
  clear n1 LN1
  have hz0 : (((len (magZ z1) : Nat) : Int) == 0) = true := by rw [h0, len_mag0]; rfl
  clear h0
  have P1 := Lib.hid p1
  clear p1
  have O : Old w (w.alloc (.cells #[.bool (sgnZ z1), .slice A1 (len (magZ z1)) c1, .slice D1 (len d1) e1] 31)) := oldA
  have B_x : Bx (w.alloc (.cells #[.bool (sgnZ z1), .slice A1 (len (magZ z1)) c1, .slice D1 (len d1) e1] 31)) (w.heap.size) #[.bool (sgnZ z1), .slice A1 (len (magZ z1)) c1, .slice D1 (len d1) e1] := by have h := (Bx.new w #[.bool (sgnZ z1), .slice A1 (len (magZ z1)) c1, .slice D1 (len d1) e1] 31); simpa using h
  have ze : w.heap.size + 1 ≤ (w.alloc (.cells #[.bool (sgnZ z1), .slice A1 (len (magZ z1)) c1, .slice D1 (len d1) e1] 31)).heap.size := (by simp)
  go_enter Try.func45, Try.ntmps45
  go_wp2_with fail
  refine callsNamed ?_
  intro p1 hp
  have O' : Old w p1 := (by rw [hp]; exact Below.trans (b := (w.alloc (.cells #[.bool (sgnZ z1), .slice A1 (len (magZ z1)) c1, .slice D1 (len d1) e1] 31))) O oldA)
  replace B_x : Bx p1 (w.heap.size) #[.bool (sgnZ z1), .slice A1 (len (magZ z1)) c1, .slice D1 (len d1) e1] := (bxK B_x hp)
  have zp1 : (w.alloc (.cells #[.bool (sgnZ z1), .slice A1 (len (magZ z1)) c1, .slice D1 (len d1) e1] 31)).heap.size ≤ p1.heap.size := (by rw [hp]; exact leA)
  clear hp O
  have O := O'
  clear O'
  refine (spec_RatOk_yes z1 d1 A1 D1 c1 e1 l1 m1 _ (Row.below (B := w.heap.size) h1 O (Nat.le_refl _)) (Row.below (B := w.heap.size) k1 O (Nat.le_refl _)) N1.out P1.out).mono ?_
  rintro e w1 ⟨rfl, o1⟩
  replace B_x := Bx.old B_x o1
  replace O := Old.trans O o1
  have zw1 := o1.size
  obtain ⟨q_x_0, q_x_1, q_x_2, f_x_0, f_x_1, f_x_2, q_x⟩ := B_x.all3
  go_wp2
  go_ret
  exact ⟨rfl, Below.trans (b := w1) O oldA⟩
set_option maxRecDepth 100000 in
set_option maxHeartbeats 1000000 in
theorem spec_RatSign_neg (z1 : Int) (d1 : Nat) (A1 D1 : Option Addr) (c1 e1 l1 m1 : Nat) (w : World) (h1 : NatS w l1 A1 c1 (magZ z1)) (k1 : NatS w m1 D1 e1 d1) (n1 : normF (z1, d1)) (p1 : 0 < d1) (h0 : z1 < 0) :
    Calls Try.prog 45 #[.agg #[.bool (sgnZ z1), .slice A1 (len (magZ z1)) c1, .slice D1 (len d1) e1]] w fun e w' => e = .returned (.int .i64 (-1)) ∧ Old w w' := by
  have N1 := Lib.hid n1
  have LN1 := norm_len n1
  have La1 : len (magZ z1) ≤ 24 := LN1.1
  have Lb1 : len d1 ≤ 24 := LN1.2
  clear n1 LN1
  have hz0 : (((len (magZ z1) : Nat) : Int) == 0) = false := by have := len_pos (show 0 < magZ z1 by unfold magZ; omega); simp; omega
  have hs : sgnZ z1 = true := decide_eq_true h0
  clear h0
  have P1 := Lib.hid p1
  clear p1
  have OK := fun w h1 k1 => spec_RatOk_yes z1 d1 A1 D1 c1 e1 l1 m1 w h1 k1 N1.out P1.out
  obtain ⟨s, hse⟩ : ∃ s, s = sgnZ z1 := ⟨_, rfl⟩
  rw [← hse] at hs ⊢
  rw [← hse] at OK
  subst hs
  clear hse
  have OK' := Lib.hid OK
  clear OK
  have O : Old w (w.alloc (.cells #[.bool true, .slice A1 (len (magZ z1)) c1, .slice D1 (len d1) e1] 31)) := oldA
  have B_x : Bx (w.alloc (.cells #[.bool true, .slice A1 (len (magZ z1)) c1, .slice D1 (len d1) e1] 31)) (w.heap.size) #[.bool true, .slice A1 (len (magZ z1)) c1, .slice D1 (len d1) e1] := by have h := (Bx.new w #[.bool true, .slice A1 (len (magZ z1)) c1, .slice D1 (len d1) e1] 31); simpa using h
  have ze : w.heap.size + 1 ≤ (w.alloc (.cells #[.bool true, .slice A1 (len (magZ z1)) c1, .slice D1 (len d1) e1] 31)).heap.size := (by simp)
  go_enter Try.func45, Try.ntmps45
  go_wp2_with fail
  refine callsNamed ?_
  intro p1 hp
  have O' : Old w p1 := (by rw [hp]; exact Below.trans (b := (w.alloc (.cells #[.bool true, .slice A1 (len (magZ z1)) c1, .slice D1 (len d1) e1] 31))) O oldA)
  replace B_x : Bx p1 (w.heap.size) #[.bool true, .slice A1 (len (magZ z1)) c1, .slice D1 (len d1) e1] := (bxK B_x hp)
  have zp1 : (w.alloc (.cells #[.bool true, .slice A1 (len (magZ z1)) c1, .slice D1 (len d1) e1] 31)).heap.size ≤ p1.heap.size := (by rw [hp]; exact leA)
  clear hp O
  have O := O'
  clear O'
  refine (OK'.out _ (Row.below (B := w.heap.size) h1 O (Nat.le_refl _)) (Row.below (B := w.heap.size) k1 O (Nat.le_refl _))).mono ?_
  rintro e w1 ⟨rfl, o1⟩
  replace B_x := Bx.old B_x o1
  replace O := Old.trans O o1
  have zw1 := o1.size
  obtain ⟨q_x_0, q_x_1, q_x_2, f_x_0, f_x_1, f_x_2, q_x⟩ := B_x.all3
  go_wp2
  go_ret
  exact ⟨rfl, Below.trans (b := w1) O oldA⟩
set_option maxRecDepth 100000 in
set_option maxHeartbeats 1000000 in
theorem spec_RatSign_pos (z1 : Int) (d1 : Nat) (A1 D1 : Option Addr) (c1 e1 l1 m1 : Nat) (w : World) (h1 : NatS w l1 A1 c1 (magZ z1)) (k1 : NatS w m1 D1 e1 d1) (n1 : normF (z1, d1)) (p1 : 0 < d1) (h0 : 0 < z1) :
    Calls Try.prog 45 #[.agg #[.bool (sgnZ z1), .slice A1 (len (magZ z1)) c1, .slice D1 (len d1) e1]] w fun e w' => e = .returned (.int .i64 (1)) ∧ Old w w' := by
  have N1 := Lib.hid n1
  have LN1 := norm_len n1
  have La1 : len (magZ z1) ≤ 24 := LN1.1
  have Lb1 : len d1 ≤ 24 := LN1.2
  clear n1 LN1
  have hz0 : (((len (magZ z1) : Nat) : Int) == 0) = false := by have := len_pos (show 0 < magZ z1 by unfold magZ; omega); simp; omega
  have hs : sgnZ z1 = false := decide_eq_false (by omega)
  clear h0
  have P1 := Lib.hid p1
  clear p1
  have OK := fun w h1 k1 => spec_RatOk_yes z1 d1 A1 D1 c1 e1 l1 m1 w h1 k1 N1.out P1.out
  obtain ⟨s, hse⟩ : ∃ s, s = sgnZ z1 := ⟨_, rfl⟩
  rw [← hse] at hs ⊢
  rw [← hse] at OK
  subst hs
  clear hse
  have OK' := Lib.hid OK
  clear OK
  have O : Old w (w.alloc (.cells #[.bool false, .slice A1 (len (magZ z1)) c1, .slice D1 (len d1) e1] 31)) := oldA
  have B_x : Bx (w.alloc (.cells #[.bool false, .slice A1 (len (magZ z1)) c1, .slice D1 (len d1) e1] 31)) (w.heap.size) #[.bool false, .slice A1 (len (magZ z1)) c1, .slice D1 (len d1) e1] := by have h := (Bx.new w #[.bool false, .slice A1 (len (magZ z1)) c1, .slice D1 (len d1) e1] 31); simpa using h
  have ze : w.heap.size + 1 ≤ (w.alloc (.cells #[.bool false, .slice A1 (len (magZ z1)) c1, .slice D1 (len d1) e1] 31)).heap.size := (by simp)
  go_enter Try.func45, Try.ntmps45
  go_wp2_with fail
  refine callsNamed ?_
  intro p1 hp
  have O' : Old w p1 := (by rw [hp]; exact Below.trans (b := (w.alloc (.cells #[.bool false, .slice A1 (len (magZ z1)) c1, .slice D1 (len d1) e1] 31))) O oldA)
  replace B_x : Bx p1 (w.heap.size) #[.bool false, .slice A1 (len (magZ z1)) c1, .slice D1 (len d1) e1] := (bxK B_x hp)
  have zp1 : (w.alloc (.cells #[.bool false, .slice A1 (len (magZ z1)) c1, .slice D1 (len d1) e1] 31)).heap.size ≤ p1.heap.size := (by rw [hp]; exact leA)
  clear hp O
  have O := O'
  clear O'
  refine (OK'.out _ (Row.below (B := w.heap.size) h1 O (Nat.le_refl _)) (Row.below (B := w.heap.size) k1 O (Nat.le_refl _))).mono ?_
  rintro e w1 ⟨rfl, o1⟩
  replace B_x := Bx.old B_x o1
  replace O := Old.trans O o1
  have zw1 := o1.size
  obtain ⟨q_x_0, q_x_1, q_x_2, f_x_0, f_x_1, f_x_2, q_x⟩ := B_x.all3
  go_wp2
  go_ret
  exact ⟨rfl, Below.trans (b := w1) O oldA⟩
theorem spec_RatSign_yes (z1 : Int) (d1 : Nat) (A1 D1 : Option Addr) (c1 e1 l1 m1 : Nat) (w : World) (h1 : NatS w l1 A1 c1 (magZ z1)) (k1 : NatS w m1 D1 e1 d1) (n1 : normF (z1, d1)) (p1 : 0 < d1) :
    Calls Try.prog 45 #[.agg #[.bool (sgnZ z1), .slice A1 (len (magZ z1)) c1, .slice D1 (len d1) e1]] w fun e w' => e = .returned (.int .i64 (sgnF (z1, d1))) ∧ Old w w' := by
  rcases Int.lt_trichotomy z1 0 with h0 | h0 | h0
  · rw [show sgnF (z1, d1) = -1 from if_pos h0]; exact spec_RatSign_neg z1 d1 A1 D1 c1 e1 l1 m1 w h1 k1 n1 p1 h0
  · rw [show sgnF (z1, d1) = 0 by subst h0; rfl]; exact spec_RatSign_zero z1 d1 A1 D1 c1 e1 l1 m1 w h1 k1 n1 p1 h0
  · rw [show sgnF (z1, d1) = 1 by unfold sgnF; rw [if_neg (show ¬ z1 < 0 by omega), if_neg (show ¬ z1 = 0 by omega)]]; exact spec_RatSign_pos z1 d1 A1 D1 c1 e1 l1 m1 w h1 k1 n1 p1 h0
set_option maxRecDepth 100000 in
set_option maxHeartbeats 1000000 in
theorem spec_RatSign_no (b1 : Bool) (A1 : Option Addr) (n1 c1 l1 : Nat) (f1 : Nat → Int) (D1 : Option Addr) (m1 e1 u1 : Nat) (g1 : Nat → Int) (w : World) (h1 : Row w l1 A1 n1 c1 f1) (k1 : Row w u1 D1 m1 e1 g1) (hn1 : n1 ≤ 1048576) (hm1 : m1 ≤ 1048576) (q1 : ¬ okR b1 n1 f1 m1 g1) :
    Calls Try.prog 45 #[.agg #[.bool b1, .slice A1 n1 c1, .slice D1 m1 e1]] w fun e w' => e = .returned (.int .i64 (0)) ∧ Old w w' := by
  have Q1 := Lib.hid q1
  clear q1
  have O : Old w (w.alloc (.cells #[.bool b1, .slice A1 n1 c1, .slice D1 m1 e1] 31)) := oldA
  have B_x : Bx (w.alloc (.cells #[.bool b1, .slice A1 n1 c1, .slice D1 m1 e1] 31)) (w.heap.size) #[.bool b1, .slice A1 n1 c1, .slice D1 m1 e1] := by have h := (Bx.new w #[.bool b1, .slice A1 n1 c1, .slice D1 m1 e1] 31); simpa using h
  have ze : w.heap.size + 1 ≤ (w.alloc (.cells #[.bool b1, .slice A1 n1 c1, .slice D1 m1 e1] 31)).heap.size := (by simp)
  go_enter Try.func45, Try.ntmps45
  go_wp2_with fail
  refine callsNamed ?_
  intro p1 hp
  have O' : Old w p1 := (by rw [hp]; exact Below.trans (b := (w.alloc (.cells #[.bool b1, .slice A1 n1 c1, .slice D1 m1 e1] 31))) O oldA)
  replace B_x : Bx p1 (w.heap.size) #[.bool b1, .slice A1 n1 c1, .slice D1 m1 e1] := (bxK B_x hp)
  have zp1 : (w.alloc (.cells #[.bool b1, .slice A1 n1 c1, .slice D1 m1 e1] 31)).heap.size ≤ p1.heap.size := (by rw [hp]; exact leA)
  clear hp O
  have O := O'
  clear O'
  refine (spec_RatOk_no b1 A1 n1 c1 l1 f1 D1 m1 e1 u1 g1 _ (Row.below (B := w.heap.size) h1 O (Nat.le_refl _)) (Row.below (B := w.heap.size) k1 O (Nat.le_refl _)) hn1 hm1 Q1.out).mono ?_
  rintro e w1 ⟨rfl, o1⟩
  replace B_x := Bx.old B_x o1
  replace O := Old.trans O o1
  have zw1 := o1.size
  obtain ⟨q_x_0, q_x_1, q_x_2, f_x_0, f_x_1, f_x_2, q_x⟩ := B_x.all3
  go_wp2
  go_ret
  exact ⟨rfl, Below.trans (b := w1) O oldA⟩
theorem spec_RatSign (b1 : Bool) (A1 : Option Addr) (n1 c1 l1 : Nat) (f1 : Nat → Int) (D1 : Option Addr) (m1 e1 u1 : Nat) (g1 : Nat → Int) (w : World) (h1 : Row w l1 A1 n1 c1 f1) (k1 : Row w u1 D1 m1 e1 g1) (hn1 : n1 ≤ 1048576) (hm1 : m1 ≤ 1048576) :
    Calls Try.prog 45 #[.agg #[.bool b1, .slice A1 n1 c1, .slice D1 m1 e1]] w fun e w' => e = .returned (.int .i64 (rRatSign b1 n1 f1 m1 g1)) ∧ Old w w' := by
  unfold rRatSign
  by_cases q1 : okR b1 n1 f1 m1 g1
  · obtain ⟨z1, d1, e1', e2', e3', p1, nn1, v1, s1, s1'⟩ := okR_z q1 h1 k1
    rw [v1, e1', e2', e3']
    exact spec_RatSign_yes z1 d1 A1 D1 c1 e1 l1 u1 w s1 s1' nn1 p1
  · rw [vR_no q1, show sgnF (0, 0) = 0 from rfl]
    exact spec_RatSign_no b1 A1 n1 c1 l1 f1 D1 m1 e1 u1 g1 w h1 k1 hn1 hm1 q1
theorem spec_RatSign_v (z1 : Int) (d1 : Nat) (A1 D1 : Option Addr) (c1 e1 l1 m1 : Nat) (w : World) (h1 : NatS w l1 A1 c1 (magZ z1)) (k1 : NatS w m1 D1 e1 d1) (n1 : normF (z1, d1)) :
    Calls Try.prog 45 #[.agg #[.bool (sgnZ z1), .slice A1 (len (magZ z1)) c1, .slice D1 (len d1) e1]] w fun e w' => e = .returned (.int .i64 (sgnF (z1, d1))) ∧ Old w w' := by
  have hl1 := norm_len n1
  simp only at hl1
  have h := spec_RatSign (sgnZ z1) A1 _ c1 l1 _ D1 _ e1 m1 _ w h1 k1 (by omega) (by omega)
  unfold rRatSign at h
  rw [vR_val n1] at h
  exact h
end Go.Proofs.Ytnkeenejcpkelaa
