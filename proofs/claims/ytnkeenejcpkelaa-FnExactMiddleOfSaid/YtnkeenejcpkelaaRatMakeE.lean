import Derived.Test.YtnkeenejcpkelaaRatMake
import Derived.Test.YtnkeenejcpkelaaRatMakeI
import Derived.Test.YtnkeenejcpkelaaBigInt2
/-
  A fraction of two big integers, of two ints: both RatMake's and RatOf's.
-/
namespace Go.Proofs.Ytnkeenejcpkelaa
set_option linter.unusedVariables false
open Go.RowKit Num
attribute [local go_sem ↓] Go.wp_at_zero Go.wp_at_succ
open Classical in
noncomputable def vRatMake (b1 : Bool) (n1 : Nat) (f1 : Nat → Int) (b2 : Bool) (n2 : Nat) (f2 : Nat → Int) : Fr := if okB b1 n1 f1 ∧ okB b2 n2 f2 then mkF (signed (b1 != b2) (natX n1 f1)) (natX n2 f2) else (0, 0)
theorem vRatMake_yes {b1 b2 : Bool} {n1 n2 : Nat} {f1 f2 : Nat → Int} (k1 : okB b1 n1 f1) (k2 : okB b2 n2 f2) : vRatMake b1 n1 f1 b2 n2 f2 = mkF (signed (b1 != b2) (natX n1 f1)) (natX n2 f2) := if_pos ⟨k1, k2⟩
theorem vRatMake_no1 {b1 b2 : Bool} {n1 n2 : Nat} {f1 f2 : Nat → Int} (k1 : ¬ okB b1 n1 f1) : vRatMake b1 n1 f1 b2 n2 f2 = (0, 0) := if_neg fun h => k1 h.1
theorem vRatMake_no2 {b1 b2 : Bool} {n1 n2 : Nat} {f1 f2 : Nat → Int} (k2 : ¬ okB b2 n2 f2) : vRatMake b1 n1 f1 b2 n2 f2 = (0, 0) := if_neg fun h => k2 h.2
theorem vRatMake_norm (b1 : Bool) (n1 : Nat) (f1 : Nat → Int) (b2 : Bool) (n2 : Nat) (f2 : Nat → Int) : normF (vRatMake b1 n1 f1 b2 n2 f2) := by
  unfold vRatMake; split
  · exact mkF_norm _ _
  · exact Or.inl rfl
set_option maxRecDepth 100000 in
set_option maxHeartbeats 1000000 in
theorem spec_RatMake_yes (b1 b2 : Bool) (A1 A2 : Option Addr) (c1 c2 x y l1 l2 : Nat) (w : World) (h1 : NatS w l1 A1 c1 x) (h2 : NatS w l2 A2 c2 y) (hx : len x ≤ 60) (hy : len y ≤ 60) (hb1 : b1 = true → 0 < x) (hb2 : b2 = true → 0 < y)  :
    Calls Try.prog 52 #[.agg #[.bool b1, .slice A1 (len x) c1], .agg #[.bool b2, .slice A2 (len y) c2]] w fun e w' => RetR e w' w.heap.size (mkF (signed (b1 != b2) x) y) ∧ Old w w' := by
  have HB1 := Lib.hid hb1
  have HB2 := Lib.hid hb2
  clear hb1 hb2
  have O : Old w (((w.alloc (.cells #[.bool b1, .slice A1 (len x) c1] 29)).alloc (.cells #[.bool b2, .slice A2 (len y) c2] 29)).alloc (.cells #[.bool false, .slice none 0 0, .slice none 0 0] 31)) := oldA
  have B_x : Bx (((w.alloc (.cells #[.bool b1, .slice A1 (len x) c1] 29)).alloc (.cells #[.bool b2, .slice A2 (len y) c2] 29)).alloc (.cells #[.bool false, .slice none 0 0, .slice none 0 0] 31)) (w.heap.size) #[.bool b1, .slice A1 (len x) c1] := by have h := (Bx.alloc (Bx.alloc (Bx.new w #[.bool b1, .slice A1 (len x) c1] 29) (.cells #[.bool b2, .slice A2 (len y) c2] 29)) (.cells #[.bool false, .slice none 0 0, .slice none 0 0] 31)); simpa using h
  have B_y : Bx (((w.alloc (.cells #[.bool b1, .slice A1 (len x) c1] 29)).alloc (.cells #[.bool b2, .slice A2 (len y) c2] 29)).alloc (.cells #[.bool false, .slice none 0 0, .slice none 0 0] 31)) (w.heap.size + 1) #[.bool b2, .slice A2 (len y) c2] := by have h := (Bx.alloc (Bx.new (w.alloc (.cells #[.bool b1, .slice A1 (len x) c1] 29)) #[.bool b2, .slice A2 (len y) c2] 29) (.cells #[.bool false, .slice none 0 0, .slice none 0 0] 31)); simpa using h
  have B_r : Bx (((w.alloc (.cells #[.bool b1, .slice A1 (len x) c1] 29)).alloc (.cells #[.bool b2, .slice A2 (len y) c2] 29)).alloc (.cells #[.bool false, .slice none 0 0, .slice none 0 0] 31)) (w.heap.size + 1 + 1) #[.bool false, .slice none 0 0, .slice none 0 0] := by have h := (Bx.new ((w.alloc (.cells #[.bool b1, .slice A1 (len x) c1] 29)).alloc (.cells #[.bool b2, .slice A2 (len y) c2] 29)) #[.bool false, .slice none 0 0, .slice none 0 0] 31); simpa using h
  have ne_0_1 : ¬ (w.heap.size = w.heap.size + 1) := by omega
  have ne_0_2 : ¬ (w.heap.size = w.heap.size + 1 + 1) := by omega
  have ne_1_0 : ¬ (w.heap.size + 1 = w.heap.size) := by omega
  have ne_1_2 : ¬ (w.heap.size + 1 = w.heap.size + 1 + 1) := by omega
  have ne_2_0 : ¬ (w.heap.size + 1 + 1 = w.heap.size) := by omega
  have ne_2_1 : ¬ (w.heap.size + 1 + 1 = w.heap.size + 1) := by omega
  have ze : w.heap.size + 3 ≤ (((w.alloc (.cells #[.bool b1, .slice A1 (len x) c1] 29)).alloc (.cells #[.bool b2, .slice A2 (len y) c2] 29)).alloc (.cells #[.bool false, .slice none 0 0, .slice none 0 0] 31)).heap.size := (by simp)
  go_enter Try.func52, Try.ntmps52
  go_wp2_with fail
  refine callsNamed ?_
  intro p1 hp
  have O' : Old w p1 := (by rw [hp]; exact Below.trans (b := (((w.alloc (.cells #[.bool b1, .slice A1 (len x) c1] 29)).alloc (.cells #[.bool b2, .slice A2 (len y) c2] 29)).alloc (.cells #[.bool false, .slice none 0 0, .slice none 0 0] 31))) O oldA)
  replace B_x : Bx p1 (w.heap.size) #[.bool b1, .slice A1 (len x) c1] := (bxK B_x hp)
  replace B_y : Bx p1 (w.heap.size + 1) #[.bool b2, .slice A2 (len y) c2] := (bxK B_y hp)
  replace B_r : Bx p1 (w.heap.size + 1 + 1) #[.bool false, .slice none 0 0, .slice none 0 0] := (bxK B_r hp)
  have zp1 : (((w.alloc (.cells #[.bool b1, .slice A1 (len x) c1] 29)).alloc (.cells #[.bool b2, .slice A2 (len y) c2] 29)).alloc (.cells #[.bool false, .slice none 0 0, .slice none 0 0] 31)).heap.size ≤ p1.heap.size := (by rw [hp]; exact leA)
  clear hp O
  have O := O'
  clear O'
  refine (spec_BigIntOk_yes b1 A1 c1 x l1 _ (Row.below (B := w.heap.size) h1 O (Nat.le_refl _)) hx HB1.out).mono ?_
  rintro e w1 ⟨rfl, o1⟩
  replace B_x := Bx.old B_x o1
  replace B_y := Bx.old B_y o1
  replace B_r := Bx.old B_r o1
  replace O := Old.trans O o1
  have zw1 := o1.size
  obtain ⟨q_x_0, q_x_1, f_x_0, f_x_1, q_x⟩ := B_x.all2
  obtain ⟨q_y_0, q_y_1, f_y_0, f_y_1, q_y⟩ := B_y.all2
  obtain ⟨q_r_0, q_r_1, q_r_2, f_r_0, f_r_1, f_r_2, q_r⟩ := B_r.all3
  go_wp2_with fail
  refine callsNamed ?_
  intro p2 hp
  clear q_x_0 q_x_1 f_x_0 f_x_1 q_x q_y_0 q_y_1 f_y_0 f_y_1 q_y q_r_0 q_r_1 q_r_2 f_r_0 f_r_1 f_r_2 q_r
  have O' : Old w p2 := (by rw [hp]; exact Below.trans (b := w1) O oldA)
  replace B_x : Bx p2 (w.heap.size) #[.bool b1, .slice A1 (len x) c1] := (bxK B_x hp)
  replace B_y : Bx p2 (w.heap.size + 1) #[.bool b2, .slice A2 (len y) c2] := (bxK B_y hp)
  replace B_r : Bx p2 (w.heap.size + 1 + 1) #[.bool false, .slice none 0 0, .slice none 0 0] := (bxK B_r hp)
  have zp2 : w1.heap.size ≤ p2.heap.size := (by rw [hp]; exact leA)
  clear hp O
  have O := O'
  clear O'
  refine (spec_BigIntOk_yes b2 A2 c2 y l2 _ (Row.below (B := w.heap.size) h2 O (Nat.le_refl _)) hy HB2.out).mono ?_
  rintro e w2 ⟨rfl, o2⟩
  replace B_x := Bx.old B_x o2
  replace B_y := Bx.old B_y o2
  replace B_r := Bx.old B_r o2
  replace O := Old.trans O o2
  have zw2 := o2.size
  obtain ⟨q_x_0, q_x_1, f_x_0, f_x_1, q_x⟩ := B_x.all2
  obtain ⟨q_y_0, q_y_1, f_y_0, f_y_1, q_y⟩ := B_y.all2
  obtain ⟨q_r_0, q_r_1, q_r_2, f_r_0, f_r_1, f_r_2, q_r⟩ := B_r.all3
  go_wp2_with fail
  refine callsNamed ?_
  intro p3 hp
  clear q_x_0 q_x_1 f_x_0 f_x_1 q_x q_y_0 q_y_1 f_y_0 f_y_1 q_y q_r_0 q_r_1 q_r_2 f_r_0 f_r_1 f_r_2 q_r
  have O' : Old w p3 := (by rw [hp]; exact Below.trans (b := w2) O oldA)
  replace B_x : Bx p3 (w.heap.size) #[.bool b1, .slice A1 (len x) c1] := (bxK B_x hp)
  replace B_y : Bx p3 (w.heap.size + 1) #[.bool b2, .slice A2 (len y) c2] := (bxK B_y hp)
  replace B_r : Bx p3 (w.heap.size + 1 + 1) #[.bool false, .slice none 0 0, .slice none 0 0] := (bxK B_r hp)
  have zp3 : w2.heap.size ≤ p3.heap.size := (by rw [hp]; exact leA)
  clear hp O
  have O := O'
  clear O'
  refine (l04Low_any (b1 != b2) A1 A2 c1 c2 x y l1 l2 _ (Row.below (B := w.heap.size) h1 O (Nat.le_refl _)) (Row.below (B := w.heap.size) h2 O (Nat.le_refl _)) (by omega) (by omega)).mono ?_
  rintro e w3 ⟨⟨z9, d9, A9, c9, D9, e9, hv, rfl, r9, s9, ap⟩, o3⟩
  replace B_x := Bx.old B_x o3
  replace B_y := Bx.old B_y o3
  replace B_r := Bx.old B_r o3
  replace O := Old.trans O o3
  have zw3 := o3.size
  replace r9 := Row.more (lo' := p3.heap.size) r9 leA
  replace s9 := Row.more (lo' := p3.heap.size) s9 leA
  have lim_r9 := Row.lim r9
  have lim_s9 := Row.lim s9
  have HV := Lib.hid hv
  have AP := Lib.hid ap
  clear hv ap
  obtain ⟨q_x_0, q_x_1, f_x_0, f_x_1, q_x⟩ := B_x.all2
  obtain ⟨q_y_0, q_y_1, f_y_0, f_y_1, q_y⟩ := B_y.all2
  obtain ⟨q_r_0, q_r_1, q_r_2, f_r_0, f_r_1, f_r_2, q_r⟩ := B_r.all3
  go_wp2
  refine bodyPost_ret (v := .agg #[.bool (sgnZ z9), .slice A9 (len (magZ z9)) c9, .slice D9 (len d9) e9]) (by simp [results, Try.results52, go_sem, q_r_0, q_r_1, q_r_2]) rfl ⟨⟨z9, d9, A9, c9, D9, e9, HV.out, rfl, ?_, ?_, AP.out⟩, ?_⟩
  · refine Row.more (lo := p3.heap.size) ?_ leA
    repeat' (first | (with_reducible exact r9) | (with_reducible refine Row.far_set ?_ (by first | (simp <;> done) | (simp; omega) | omega) _))
  · refine Row.more (lo := p3.heap.size) ?_ leA
    repeat' (first | (with_reducible exact s9) | (with_reducible refine Row.far_set ?_ (by first | (simp <;> done) | (simp; omega) | omega) _))
  · exact Below.trans (b := w3) O oldA
set_option maxRecDepth 100000 in
set_option maxHeartbeats 1000000 in
theorem spec_RatMake_no1 (b1 : Bool) (A1 : Option Addr) (n1 c1 l1 : Nat) (f1 : Nat → Int) (b2 : Bool) (A2 : Option Addr) (n2 c2 l2 : Nat) (f2 : Nat → Int) (w : World) (h1 : Row w l1 A1 n1 c1 f1) (hn1 : n1 ≤ 1048576) (q1 : ¬ okB b1 n1 f1) :
    Calls Try.prog 52 #[.agg #[.bool b1, .slice A1 n1 c1], .agg #[.bool b2, .slice A2 n2 c2]] w fun e w' => RetR e w' w.heap.size (0, 0) ∧ Old w w' := by
  have Q1 := Lib.hid q1
  clear q1
  have O : Old w (((w.alloc (.cells #[.bool b1, .slice A1 n1 c1] 29)).alloc (.cells #[.bool b2, .slice A2 n2 c2] 29)).alloc (.cells #[.bool false, .slice none 0 0, .slice none 0 0] 31)) := oldA
  have B_x : Bx (((w.alloc (.cells #[.bool b1, .slice A1 n1 c1] 29)).alloc (.cells #[.bool b2, .slice A2 n2 c2] 29)).alloc (.cells #[.bool false, .slice none 0 0, .slice none 0 0] 31)) (w.heap.size) #[.bool b1, .slice A1 n1 c1] := by have h := (Bx.alloc (Bx.alloc (Bx.new w #[.bool b1, .slice A1 n1 c1] 29) (.cells #[.bool b2, .slice A2 n2 c2] 29)) (.cells #[.bool false, .slice none 0 0, .slice none 0 0] 31)); simpa using h
  have B_y : Bx (((w.alloc (.cells #[.bool b1, .slice A1 n1 c1] 29)).alloc (.cells #[.bool b2, .slice A2 n2 c2] 29)).alloc (.cells #[.bool false, .slice none 0 0, .slice none 0 0] 31)) (w.heap.size + 1) #[.bool b2, .slice A2 n2 c2] := by have h := (Bx.alloc (Bx.new (w.alloc (.cells #[.bool b1, .slice A1 n1 c1] 29)) #[.bool b2, .slice A2 n2 c2] 29) (.cells #[.bool false, .slice none 0 0, .slice none 0 0] 31)); simpa using h
  have B_r : Bx (((w.alloc (.cells #[.bool b1, .slice A1 n1 c1] 29)).alloc (.cells #[.bool b2, .slice A2 n2 c2] 29)).alloc (.cells #[.bool false, .slice none 0 0, .slice none 0 0] 31)) (w.heap.size + 1 + 1) #[.bool false, .slice none 0 0, .slice none 0 0] := by have h := (Bx.new ((w.alloc (.cells #[.bool b1, .slice A1 n1 c1] 29)).alloc (.cells #[.bool b2, .slice A2 n2 c2] 29)) #[.bool false, .slice none 0 0, .slice none 0 0] 31); simpa using h
  have ne_0_1 : ¬ (w.heap.size = w.heap.size + 1) := by omega
  have ne_0_2 : ¬ (w.heap.size = w.heap.size + 1 + 1) := by omega
  have ne_1_0 : ¬ (w.heap.size + 1 = w.heap.size) := by omega
  have ne_1_2 : ¬ (w.heap.size + 1 = w.heap.size + 1 + 1) := by omega
  have ne_2_0 : ¬ (w.heap.size + 1 + 1 = w.heap.size) := by omega
  have ne_2_1 : ¬ (w.heap.size + 1 + 1 = w.heap.size + 1) := by omega
  have ze : w.heap.size + 3 ≤ (((w.alloc (.cells #[.bool b1, .slice A1 n1 c1] 29)).alloc (.cells #[.bool b2, .slice A2 n2 c2] 29)).alloc (.cells #[.bool false, .slice none 0 0, .slice none 0 0] 31)).heap.size := (by simp)
  go_enter Try.func52, Try.ntmps52
  go_wp2_with fail
  refine callsNamed ?_
  intro p1 hp
  have O' : Old w p1 := (by rw [hp]; exact Below.trans (b := (((w.alloc (.cells #[.bool b1, .slice A1 n1 c1] 29)).alloc (.cells #[.bool b2, .slice A2 n2 c2] 29)).alloc (.cells #[.bool false, .slice none 0 0, .slice none 0 0] 31))) O oldA)
  replace B_x : Bx p1 (w.heap.size) #[.bool b1, .slice A1 n1 c1] := (bxK B_x hp)
  replace B_y : Bx p1 (w.heap.size + 1) #[.bool b2, .slice A2 n2 c2] := (bxK B_y hp)
  replace B_r : Bx p1 (w.heap.size + 1 + 1) #[.bool false, .slice none 0 0, .slice none 0 0] := (bxK B_r hp)
  have zp1 : (((w.alloc (.cells #[.bool b1, .slice A1 n1 c1] 29)).alloc (.cells #[.bool b2, .slice A2 n2 c2] 29)).alloc (.cells #[.bool false, .slice none 0 0, .slice none 0 0] 31)).heap.size ≤ p1.heap.size := (by rw [hp]; exact leA)
  clear hp O
  have O := O'
  clear O'
  refine (spec_BigIntOk_no b1 A1 n1 c1 l1 f1 _ (Row.below (B := w.heap.size) h1 O (Nat.le_refl _)) hn1 Q1.out).mono ?_
  rintro e w1 ⟨rfl, o1⟩
  replace B_x := Bx.old B_x o1
  replace B_y := Bx.old B_y o1
  replace B_r := Bx.old B_r o1
  replace O := Old.trans O o1
  have zw1 := o1.size
  obtain ⟨q_x_0, q_x_1, f_x_0, f_x_1, q_x⟩ := B_x.all2
  obtain ⟨q_y_0, q_y_1, f_y_0, f_y_1, q_y⟩ := B_y.all2
  obtain ⟨q_r_0, q_r_1, q_r_2, f_r_0, f_r_1, f_r_2, q_r⟩ := B_r.all3
  go_wp2
  refine bodyPost_ret (v := .agg #[.bool false, .slice none 0 0, .slice none 0 0]) (by simp [results, Try.results52, go_sem, q_r_0, q_r_1, q_r_2]) rfl ⟨RetR.zero rfl, Below.trans (b := w1) O oldA⟩
set_option maxRecDepth 100000 in
set_option maxHeartbeats 1000000 in
theorem spec_RatMake_no2 (b1 b2 : Bool) (A1 A2 : Option Addr) (c1 x n2 c2 l1 l2 : Nat) (f2 : Nat → Int) (w : World) (h1 : NatS w l1 A1 c1 x) (h2 : Row w l2 A2 n2 c2 f2) (hx : len x ≤ 60) (hb1 : b1 = true → 0 < x) (hn2 : n2 ≤ 1048576) (q2 : ¬ okB b2 n2 f2) :
    Calls Try.prog 52 #[.agg #[.bool b1, .slice A1 (len x) c1], .agg #[.bool b2, .slice A2 n2 c2]] w fun e w' => RetR e w' w.heap.size (0, 0) ∧ Old w w' := by
  have Q2 := Lib.hid q2
  have HB1 := Lib.hid hb1
  clear q2 hb1
  have O : Old w (((w.alloc (.cells #[.bool b1, .slice A1 (len x) c1] 29)).alloc (.cells #[.bool b2, .slice A2 n2 c2] 29)).alloc (.cells #[.bool false, .slice none 0 0, .slice none 0 0] 31)) := oldA
  have B_x : Bx (((w.alloc (.cells #[.bool b1, .slice A1 (len x) c1] 29)).alloc (.cells #[.bool b2, .slice A2 n2 c2] 29)).alloc (.cells #[.bool false, .slice none 0 0, .slice none 0 0] 31)) (w.heap.size) #[.bool b1, .slice A1 (len x) c1] := by have h := (Bx.alloc (Bx.alloc (Bx.new w #[.bool b1, .slice A1 (len x) c1] 29) (.cells #[.bool b2, .slice A2 n2 c2] 29)) (.cells #[.bool false, .slice none 0 0, .slice none 0 0] 31)); simpa using h
  have B_y : Bx (((w.alloc (.cells #[.bool b1, .slice A1 (len x) c1] 29)).alloc (.cells #[.bool b2, .slice A2 n2 c2] 29)).alloc (.cells #[.bool false, .slice none 0 0, .slice none 0 0] 31)) (w.heap.size + 1) #[.bool b2, .slice A2 n2 c2] := by have h := (Bx.alloc (Bx.new (w.alloc (.cells #[.bool b1, .slice A1 (len x) c1] 29)) #[.bool b2, .slice A2 n2 c2] 29) (.cells #[.bool false, .slice none 0 0, .slice none 0 0] 31)); simpa using h
  have B_r : Bx (((w.alloc (.cells #[.bool b1, .slice A1 (len x) c1] 29)).alloc (.cells #[.bool b2, .slice A2 n2 c2] 29)).alloc (.cells #[.bool false, .slice none 0 0, .slice none 0 0] 31)) (w.heap.size + 1 + 1) #[.bool false, .slice none 0 0, .slice none 0 0] := by have h := (Bx.new ((w.alloc (.cells #[.bool b1, .slice A1 (len x) c1] 29)).alloc (.cells #[.bool b2, .slice A2 n2 c2] 29)) #[.bool false, .slice none 0 0, .slice none 0 0] 31); simpa using h
  have ne_0_1 : ¬ (w.heap.size = w.heap.size + 1) := by omega
  have ne_0_2 : ¬ (w.heap.size = w.heap.size + 1 + 1) := by omega
  have ne_1_0 : ¬ (w.heap.size + 1 = w.heap.size) := by omega
  have ne_1_2 : ¬ (w.heap.size + 1 = w.heap.size + 1 + 1) := by omega
  have ne_2_0 : ¬ (w.heap.size + 1 + 1 = w.heap.size) := by omega
  have ne_2_1 : ¬ (w.heap.size + 1 + 1 = w.heap.size + 1) := by omega
  have ze : w.heap.size + 3 ≤ (((w.alloc (.cells #[.bool b1, .slice A1 (len x) c1] 29)).alloc (.cells #[.bool b2, .slice A2 n2 c2] 29)).alloc (.cells #[.bool false, .slice none 0 0, .slice none 0 0] 31)).heap.size := (by simp)
  go_enter Try.func52, Try.ntmps52
  go_wp2_with fail
  refine callsNamed ?_
  intro p1 hp
  have O' : Old w p1 := (by rw [hp]; exact Below.trans (b := (((w.alloc (.cells #[.bool b1, .slice A1 (len x) c1] 29)).alloc (.cells #[.bool b2, .slice A2 n2 c2] 29)).alloc (.cells #[.bool false, .slice none 0 0, .slice none 0 0] 31))) O oldA)
  replace B_x : Bx p1 (w.heap.size) #[.bool b1, .slice A1 (len x) c1] := (bxK B_x hp)
  replace B_y : Bx p1 (w.heap.size + 1) #[.bool b2, .slice A2 n2 c2] := (bxK B_y hp)
  replace B_r : Bx p1 (w.heap.size + 1 + 1) #[.bool false, .slice none 0 0, .slice none 0 0] := (bxK B_r hp)
  have zp1 : (((w.alloc (.cells #[.bool b1, .slice A1 (len x) c1] 29)).alloc (.cells #[.bool b2, .slice A2 n2 c2] 29)).alloc (.cells #[.bool false, .slice none 0 0, .slice none 0 0] 31)).heap.size ≤ p1.heap.size := (by rw [hp]; exact leA)
  clear hp O
  have O := O'
  clear O'
  refine (spec_BigIntOk_yes b1 A1 c1 x l1 _ (Row.below (B := w.heap.size) h1 O (Nat.le_refl _)) hx HB1.out).mono ?_
  rintro e w1 ⟨rfl, o1⟩
  replace B_x := Bx.old B_x o1
  replace B_y := Bx.old B_y o1
  replace B_r := Bx.old B_r o1
  replace O := Old.trans O o1
  have zw1 := o1.size
  obtain ⟨q_x_0, q_x_1, f_x_0, f_x_1, q_x⟩ := B_x.all2
  obtain ⟨q_y_0, q_y_1, f_y_0, f_y_1, q_y⟩ := B_y.all2
  obtain ⟨q_r_0, q_r_1, q_r_2, f_r_0, f_r_1, f_r_2, q_r⟩ := B_r.all3
  go_wp2_with fail
  refine callsNamed ?_
  intro p2 hp
  clear q_x_0 q_x_1 f_x_0 f_x_1 q_x q_y_0 q_y_1 f_y_0 f_y_1 q_y q_r_0 q_r_1 q_r_2 f_r_0 f_r_1 f_r_2 q_r
  have O' : Old w p2 := (by rw [hp]; exact Below.trans (b := w1) O oldA)
  replace B_x : Bx p2 (w.heap.size) #[.bool b1, .slice A1 (len x) c1] := (bxK B_x hp)
  replace B_y : Bx p2 (w.heap.size + 1) #[.bool b2, .slice A2 n2 c2] := (bxK B_y hp)
  replace B_r : Bx p2 (w.heap.size + 1 + 1) #[.bool false, .slice none 0 0, .slice none 0 0] := (bxK B_r hp)
  have zp2 : w1.heap.size ≤ p2.heap.size := (by rw [hp]; exact leA)
  clear hp O
  have O := O'
  clear O'
  refine (spec_BigIntOk_no b2 A2 n2 c2 l2 f2 _ (Row.below (B := w.heap.size) h2 O (Nat.le_refl _)) hn2 Q2.out).mono ?_
  rintro e w2 ⟨rfl, o2⟩
  replace B_x := Bx.old B_x o2
  replace B_y := Bx.old B_y o2
  replace B_r := Bx.old B_r o2
  replace O := Old.trans O o2
  have zw2 := o2.size
  obtain ⟨q_x_0, q_x_1, f_x_0, f_x_1, q_x⟩ := B_x.all2
  obtain ⟨q_y_0, q_y_1, f_y_0, f_y_1, q_y⟩ := B_y.all2
  obtain ⟨q_r_0, q_r_1, q_r_2, f_r_0, f_r_1, f_r_2, q_r⟩ := B_r.all3
  go_wp2
  refine bodyPost_ret (v := .agg #[.bool false, .slice none 0 0, .slice none 0 0]) (by simp [results, Try.results52, go_sem, q_r_0, q_r_1, q_r_2]) rfl ⟨RetR.zero rfl, Below.trans (b := w2) O oldA⟩
theorem spec_RatMake (b1 : Bool) (A1 : Option Addr) (n1 c1 l1 : Nat) (f1 : Nat → Int) (b2 : Bool) (A2 : Option Addr) (n2 c2 l2 : Nat) (f2 : Nat → Int) (w : World) (h1 : Row w l1 A1 n1 c1 f1) (h2 : Row w l2 A2 n2 c2 f2) (hn1 : n1 ≤ 1048576) (hn2 : n2 ≤ 1048576) :
    Calls Try.prog 52 #[.agg #[.bool b1, .slice A1 n1 c1], .agg #[.bool b2, .slice A2 n2 c2]] w fun e w' => RetR e w' w.heap.size (vRatMake b1 n1 f1 b2 n2 f2) ∧ Old w w' := by
  by_cases q1 : okB b1 n1 f1
  · obtain ⟨x, e1, hx, hb1, v1, s1⟩ := okB_nat q1 h1
    by_cases q2 : okB b2 n2 f2
    · obtain ⟨y, e2, hy, hb2, v2, s2⟩ := okB_nat q2 h2
      have hv1 : natX n1 f1 = x := by have h := congrArg magZ v1; unfold bigX at h; rwa [mag_signed, mag_signed] at h
      have hv2 : natX n2 f2 = y := by have h := congrArg magZ v2; unfold bigX at h; rwa [mag_signed, mag_signed] at h
      rw [vRatMake_yes q1 q2, hv1, hv2, e1, e2]
      exact spec_RatMake_yes b1 b2 A1 A2 c1 c2 x y l1 l2 w s1 s2 hx hy hb1 hb2
    · rw [vRatMake_no2 q2, e1]
      exact spec_RatMake_no2 b1 b2 A1 A2 c1 x n2 c2 l1 l2 f2 w s1 h2 hx hb1 hn2 q2
  · rw [vRatMake_no1 q1]
    exact spec_RatMake_no1 b1 A1 n1 c1 l1 f1 b2 A2 n2 c2 l2 f2 w h1 hn1 q1
set_option maxRecDepth 100000 in
set_option maxHeartbeats 1000000 in
theorem impl_RatMake_pos (b1 b2 : Bool) (A1 A2 : Option Addr) (c1 c2 x y l1 l2 : Nat) (w : World) (h1 : NatS w l1 A1 c1 x) (h2 : NatS w l2 A2 c2 y) (hx : len x ≤ 60) (hy : len y ≤ 60) (hb1 : b1 = true → 0 < x) (hb2 : b2 = true → 0 < y) (p2 : 0 < y) :
    Calls Try.prog 54 #[.agg #[.bool b1, .slice A1 (len x) c1], .agg #[.bool b2, .slice A2 (len y) c2]] w fun e w' => RetR e w' w.heap.size (mkF (signed (b1 != b2) x) y) ∧ Old w w' := by
  have HB1 := Lib.hid hb1
  have HB2 := Lib.hid hb2
  clear hb1 hb2
  have hy0 : (((len y : Nat) : Int) == 0) = false := by have := len_pos p2; simp; omega
  have P2 := Lib.hid p2
  obtain ⟨S, hS⟩ : ∃ S, S = signed (b1 != b2) x := ⟨_, rfl⟩
  rw [← hS]
  have HSM : Hid (magZ S = x) := Lib.hid (by rw [hS, mag_signed])
  have HSG : Hid (((b1 != b2) && decide (0 < len x)) = sgnZ S) := Lib.hid (by rw [hS, sgn_signed, len_dec])
  have LS : len (magZ S) ≤ 60 := by rw [HSM.out]; exact hx
  clear hS p2
  have O : Old w (((w.alloc (.cells #[.bool b1, .slice A1 (len x) c1] 29)).alloc (.cells #[.bool b2, .slice A2 (len y) c2] 29)).alloc (.cells #[.bool false, .slice none 0 0, .slice none 0 0] 31)) := oldA
  have B_x : Bx (((w.alloc (.cells #[.bool b1, .slice A1 (len x) c1] 29)).alloc (.cells #[.bool b2, .slice A2 (len y) c2] 29)).alloc (.cells #[.bool false, .slice none 0 0, .slice none 0 0] 31)) (w.heap.size) #[.bool b1, .slice A1 (len x) c1] := by have h := (Bx.alloc (Bx.alloc (Bx.new w #[.bool b1, .slice A1 (len x) c1] 29) (.cells #[.bool b2, .slice A2 (len y) c2] 29)) (.cells #[.bool false, .slice none 0 0, .slice none 0 0] 31)); simpa using h
  have B_y : Bx (((w.alloc (.cells #[.bool b1, .slice A1 (len x) c1] 29)).alloc (.cells #[.bool b2, .slice A2 (len y) c2] 29)).alloc (.cells #[.bool false, .slice none 0 0, .slice none 0 0] 31)) (w.heap.size + 1) #[.bool b2, .slice A2 (len y) c2] := by have h := (Bx.alloc (Bx.new (w.alloc (.cells #[.bool b1, .slice A1 (len x) c1] 29)) #[.bool b2, .slice A2 (len y) c2] 29) (.cells #[.bool false, .slice none 0 0, .slice none 0 0] 31)); simpa using h
  have B_r : Bx (((w.alloc (.cells #[.bool b1, .slice A1 (len x) c1] 29)).alloc (.cells #[.bool b2, .slice A2 (len y) c2] 29)).alloc (.cells #[.bool false, .slice none 0 0, .slice none 0 0] 31)) (w.heap.size + 1 + 1) #[.bool false, .slice none 0 0, .slice none 0 0] := by have h := (Bx.new ((w.alloc (.cells #[.bool b1, .slice A1 (len x) c1] 29)).alloc (.cells #[.bool b2, .slice A2 (len y) c2] 29)) #[.bool false, .slice none 0 0, .slice none 0 0] 31); simpa using h
  have ne_0_1 : ¬ (w.heap.size = w.heap.size + 1) := by omega
  have ne_0_2 : ¬ (w.heap.size = w.heap.size + 1 + 1) := by omega
  have ne_1_0 : ¬ (w.heap.size + 1 = w.heap.size) := by omega
  have ne_1_2 : ¬ (w.heap.size + 1 = w.heap.size + 1 + 1) := by omega
  have ne_2_0 : ¬ (w.heap.size + 1 + 1 = w.heap.size) := by omega
  have ne_2_1 : ¬ (w.heap.size + 1 + 1 = w.heap.size + 1) := by omega
  have ze : w.heap.size + 3 ≤ (((w.alloc (.cells #[.bool b1, .slice A1 (len x) c1] 29)).alloc (.cells #[.bool b2, .slice A2 (len y) c2] 29)).alloc (.cells #[.bool false, .slice none 0 0, .slice none 0 0] 31)).heap.size := (by simp)
  go_enter Try.func54, Try.ntmps54
  go_wp2_with fail
  refine callsNamed ?_
  intro p1 hp
  have O' : Old w p1 := (by rw [hp]; exact Below.trans (b := (((w.alloc (.cells #[.bool b1, .slice A1 (len x) c1] 29)).alloc (.cells #[.bool b2, .slice A2 (len y) c2] 29)).alloc (.cells #[.bool false, .slice none 0 0, .slice none 0 0] 31))) O oldA)
  replace B_x : Bx p1 (w.heap.size) #[.bool b1, .slice A1 (len x) c1] := (bxK B_x hp)
  replace B_y : Bx p1 (w.heap.size + 1) #[.bool b2, .slice A2 (len y) c2] := (bxK B_y hp)
  replace B_r : Bx p1 (w.heap.size + 1 + 1) #[.bool false, .slice none 0 0, .slice none 0 0] := (bxK B_r hp)
  have zp1 : (((w.alloc (.cells #[.bool b1, .slice A1 (len x) c1] 29)).alloc (.cells #[.bool b2, .slice A2 (len y) c2] 29)).alloc (.cells #[.bool false, .slice none 0 0, .slice none 0 0] 31)).heap.size ≤ p1.heap.size := (by rw [hp]; exact leA)
  clear hp O
  have O := O'
  clear O'
  refine (areBig_yes b1 b2 A1 A2 c1 c2 x y l1 l2 _ (Row.below (B := w.heap.size) h1 O (Nat.le_refl _)) (Row.below (B := w.heap.size) h2 O (Nat.le_refl _)) hx hy HB1.out HB2.out).mono ?_
  rintro e w1 ⟨rfl, o1⟩
  replace B_x := Bx.old B_x o1
  replace B_y := Bx.old B_y o1
  replace B_r := Bx.old B_r o1
  replace O := Old.trans O o1
  have zw1 := o1.size
  obtain ⟨q_x_0, q_x_1, f_x_0, f_x_1, q_x⟩ := B_x.all2
  obtain ⟨q_y_0, q_y_1, f_y_0, f_y_1, q_y⟩ := B_y.all2
  obtain ⟨q_r_0, q_r_1, q_r_2, f_r_0, f_r_1, f_r_2, q_r⟩ := B_r.all3
  go_wp2_with fail
  go_region_held3 (fun w' => w'.cell? ⟨w.heap.size, 0, none⟩ = some (.bool b1) ∧ w'.cell? ⟨w.heap.size, 1, none⟩ = some (.slice A1 (len x) c1) ∧ w'.cell? ⟨w.heap.size + 1, 0, none⟩ = some (.bool b2) ∧ w'.cell? ⟨w.heap.size + 1, 1, none⟩ = some (.slice A2 (len y) c2)) (go_keep)
    (first
     | (go_at_call 106; refine callsNamed ?_; intro p2 hp; clear q_x_0 q_x_1 f_x_0 f_x_1 q_x q_y_0 q_y_1 f_y_0 f_y_1 q_y q_r_0 q_r_1 q_r_2 f_r_0 f_r_1 f_r_2 q_r; have O' : Old w p2 := (by rw [hp]; exact Below.trans (b := w1) O oldA); replace B_x : Bx p2 (w.heap.size) #[.bool b1, .slice A1 (len x) c1] := (bxK B_x hp); replace B_y : Bx p2 (w.heap.size + 1) #[.bool b2, .slice A2 (len y) c2] := (bxK B_y hp); replace B_r : Bx p2 (w.heap.size + 1 + 1) #[.bool false, .slice none 0 0, .slice none 0 0] := (bxK B_r hp); have zp2 : w1.heap.size ≤ p2.heap.size := (by rw [hp]; exact leA); clear hp O; have O := O'; clear O'; refine (plain_to (v' := .agg #[.bool (sgnZ S), .slice A1 (len (magZ S)) c1]) (by rw [HSG.out, HSM.out]) (bigMake_any (b1 != b2) A1 (len x) c1 _)).mono ?_; rintro e w2 ⟨rfl, o2⟩; replace B_x := Bx.old B_x o2; replace B_y := Bx.old B_y o2; replace B_r := Bx.old B_r o2; replace O := Old.trans O o2; have zw2 := o2.size; obtain ⟨q_x_0, q_x_1, f_x_0, f_x_1, q_x⟩ := B_x.all2; obtain ⟨q_y_0, q_y_1, f_y_0, f_y_1, q_y⟩ := B_y.all2; obtain ⟨q_r_0, q_r_1, q_r_2, f_r_0, f_r_1, f_r_2, q_r⟩ := B_r.all3)
     | (go_at_call 105; refine callsNamed ?_; intro p3 hp; clear q_x_0 q_x_1 f_x_0 f_x_1 q_x q_y_0 q_y_1 f_y_0 f_y_1 q_y q_r_0 q_r_1 q_r_2 f_r_0 f_r_1 f_r_2 q_r; have O' : Old w p3 := (by rw [hp]; exact Below.trans (b := w2) O oldA); replace B_x : Bx p3 (w.heap.size) #[.bool b1, .slice A1 (len x) c1] := (bxK B_x hp); replace B_y : Bx p3 (w.heap.size + 1) #[.bool b2, .slice A2 (len y) c2] := (bxK B_y hp); replace B_r : Bx p3 (w.heap.size + 1 + 1) #[.bool false, .slice none 0 0, .slice none 0 0] := (bxK B_r hp); have zp3 : w2.heap.size ≤ p3.heap.size := (by rw [hp]; exact leA); clear hp O; have O := O'; clear O'; refine (ratMake_any S y A1 A2 c1 c2 _ _ _ (by rw [HSM.out]; exact (Row.below (B := w.heap.size) h1 O (Nat.le_refl _))) (Row.below (B := w.heap.size) h2 O (Nat.le_refl _)) (by omega) (by omega) P2.out).mono ?_; rintro e w3 ⟨⟨z9, d9, A9, c9, D9, e9, hv, rfl, r9, s9, ap⟩, o3⟩; replace B_x := Bx.old B_x o3; replace B_y := Bx.old B_y o3; replace B_r := Bx.old B_r o3; replace O := Old.trans O o3; have zw3 := o3.size; replace r9 := Row.more (lo' := p3.heap.size) r9 leA; replace s9 := Row.more (lo' := p3.heap.size) s9 leA; have lim_r9 := Row.lim r9; have lim_s9 := Row.lim s9; have HV := Lib.hid hv; have AP := Lib.hid ap; clear hv ap; obtain ⟨q_x_0, q_x_1, f_x_0, f_x_1, q_x⟩ := B_x.all2; obtain ⟨q_y_0, q_y_1, f_y_0, f_y_1, q_y⟩ := B_y.all2; obtain ⟨q_r_0, q_r_1, q_r_2, f_r_0, f_r_1, f_r_2, q_r⟩ := B_r.all3))
  go_wp2
  refine bodyPost_ret (v := .agg #[.bool (sgnZ z9), .slice A9 (len (magZ z9)) c9, .slice D9 (len d9) e9]) (by simp [results, Try.results54, go_sem, q_r_0, q_r_1, q_r_2]) rfl ⟨⟨z9, d9, A9, c9, D9, e9, HV.out, rfl, ?_, ?_, AP.out⟩, ?_⟩
  · refine Row.more (lo := p3.heap.size) ?_ leA
    repeat' (first | (with_reducible exact r9) | (with_reducible refine Row.far_set ?_ (by first | (simp <;> done) | (simp; omega) | omega) _))
  · refine Row.more (lo := p3.heap.size) ?_ leA
    repeat' (first | (with_reducible exact s9) | (with_reducible refine Row.far_set ?_ (by first | (simp <;> done) | (simp; omega) | omega) _))
  · exact Below.trans (b := w3) O oldA
set_option maxRecDepth 100000 in
set_option maxHeartbeats 1000000 in
theorem impl_RatMake_null (b1 b2 : Bool) (A1 A2 : Option Addr) (c1 c2 x y l1 l2 : Nat) (w : World) (h1 : NatS w l1 A1 c1 x) (h2 : NatS w l2 A2 c2 y) (hx : len x ≤ 60) (hy : len y ≤ 60) (hb1 : b1 = true → 0 < x) (hb2 : b2 = true → 0 < y) (p2 : ¬ 0 < y) :
    Calls Try.prog 54 #[.agg #[.bool b1, .slice A1 (len x) c1], .agg #[.bool b2, .slice A2 (len y) c2]] w fun e w' => RetR e w' w.heap.size (0, 0) ∧ Old w w' := by
  have HB1 := Lib.hid hb1
  have HB2 := Lib.hid hb2
  clear hb1 hb2
  have hy0 : (((len y : Nat) : Int) == 0) = true := by rw [show y = 0 by omega, len_zero]; rfl
  clear p2
  have O : Old w (((w.alloc (.cells #[.bool b1, .slice A1 (len x) c1] 29)).alloc (.cells #[.bool b2, .slice A2 (len y) c2] 29)).alloc (.cells #[.bool false, .slice none 0 0, .slice none 0 0] 31)) := oldA
  have B_x : Bx (((w.alloc (.cells #[.bool b1, .slice A1 (len x) c1] 29)).alloc (.cells #[.bool b2, .slice A2 (len y) c2] 29)).alloc (.cells #[.bool false, .slice none 0 0, .slice none 0 0] 31)) (w.heap.size) #[.bool b1, .slice A1 (len x) c1] := by have h := (Bx.alloc (Bx.alloc (Bx.new w #[.bool b1, .slice A1 (len x) c1] 29) (.cells #[.bool b2, .slice A2 (len y) c2] 29)) (.cells #[.bool false, .slice none 0 0, .slice none 0 0] 31)); simpa using h
  have B_y : Bx (((w.alloc (.cells #[.bool b1, .slice A1 (len x) c1] 29)).alloc (.cells #[.bool b2, .slice A2 (len y) c2] 29)).alloc (.cells #[.bool false, .slice none 0 0, .slice none 0 0] 31)) (w.heap.size + 1) #[.bool b2, .slice A2 (len y) c2] := by have h := (Bx.alloc (Bx.new (w.alloc (.cells #[.bool b1, .slice A1 (len x) c1] 29)) #[.bool b2, .slice A2 (len y) c2] 29) (.cells #[.bool false, .slice none 0 0, .slice none 0 0] 31)); simpa using h
  have B_r : Bx (((w.alloc (.cells #[.bool b1, .slice A1 (len x) c1] 29)).alloc (.cells #[.bool b2, .slice A2 (len y) c2] 29)).alloc (.cells #[.bool false, .slice none 0 0, .slice none 0 0] 31)) (w.heap.size + 1 + 1) #[.bool false, .slice none 0 0, .slice none 0 0] := by have h := (Bx.new ((w.alloc (.cells #[.bool b1, .slice A1 (len x) c1] 29)).alloc (.cells #[.bool b2, .slice A2 (len y) c2] 29)) #[.bool false, .slice none 0 0, .slice none 0 0] 31); simpa using h
  have ne_0_1 : ¬ (w.heap.size = w.heap.size + 1) := by omega
  have ne_0_2 : ¬ (w.heap.size = w.heap.size + 1 + 1) := by omega
  have ne_1_0 : ¬ (w.heap.size + 1 = w.heap.size) := by omega
  have ne_1_2 : ¬ (w.heap.size + 1 = w.heap.size + 1 + 1) := by omega
  have ne_2_0 : ¬ (w.heap.size + 1 + 1 = w.heap.size) := by omega
  have ne_2_1 : ¬ (w.heap.size + 1 + 1 = w.heap.size + 1) := by omega
  have ze : w.heap.size + 3 ≤ (((w.alloc (.cells #[.bool b1, .slice A1 (len x) c1] 29)).alloc (.cells #[.bool b2, .slice A2 (len y) c2] 29)).alloc (.cells #[.bool false, .slice none 0 0, .slice none 0 0] 31)).heap.size := (by simp)
  go_enter Try.func54, Try.ntmps54
  go_wp2_with fail
  refine callsNamed ?_
  intro p1 hp
  have O' : Old w p1 := (by rw [hp]; exact Below.trans (b := (((w.alloc (.cells #[.bool b1, .slice A1 (len x) c1] 29)).alloc (.cells #[.bool b2, .slice A2 (len y) c2] 29)).alloc (.cells #[.bool false, .slice none 0 0, .slice none 0 0] 31))) O oldA)
  replace B_x : Bx p1 (w.heap.size) #[.bool b1, .slice A1 (len x) c1] := (bxK B_x hp)
  replace B_y : Bx p1 (w.heap.size + 1) #[.bool b2, .slice A2 (len y) c2] := (bxK B_y hp)
  replace B_r : Bx p1 (w.heap.size + 1 + 1) #[.bool false, .slice none 0 0, .slice none 0 0] := (bxK B_r hp)
  have zp1 : (((w.alloc (.cells #[.bool b1, .slice A1 (len x) c1] 29)).alloc (.cells #[.bool b2, .slice A2 (len y) c2] 29)).alloc (.cells #[.bool false, .slice none 0 0, .slice none 0 0] 31)).heap.size ≤ p1.heap.size := (by rw [hp]; exact leA)
  clear hp O
  have O := O'
  clear O'
  refine (areBig_yes b1 b2 A1 A2 c1 c2 x y l1 l2 _ (Row.below (B := w.heap.size) h1 O (Nat.le_refl _)) (Row.below (B := w.heap.size) h2 O (Nat.le_refl _)) hx hy HB1.out HB2.out).mono ?_
  rintro e w1 ⟨rfl, o1⟩
  replace B_x := Bx.old B_x o1
  replace B_y := Bx.old B_y o1
  replace B_r := Bx.old B_r o1
  replace O := Old.trans O o1
  have zw1 := o1.size
  obtain ⟨q_x_0, q_x_1, f_x_0, f_x_1, q_x⟩ := B_x.all2
  obtain ⟨q_y_0, q_y_1, f_y_0, f_y_1, q_y⟩ := B_y.all2
  obtain ⟨q_r_0, q_r_1, q_r_2, f_r_0, f_r_1, f_r_2, q_r⟩ := B_r.all3
  go_wp2
  refine bodyPost_ret (v := .agg #[.bool false, .slice none 0 0, .slice none 0 0]) (by simp [results, Try.results54, go_sem, q_r_0, q_r_1, q_r_2]) rfl ⟨RetR.zero rfl, Below.trans (b := w1) O oldA⟩
theorem impl_RatMake_yes (b1 b2 : Bool) (A1 A2 : Option Addr) (c1 c2 x y l1 l2 : Nat) (w : World) (h1 : NatS w l1 A1 c1 x) (h2 : NatS w l2 A2 c2 y) (hx : len x ≤ 60) (hy : len y ≤ 60) (hb1 : b1 = true → 0 < x) (hb2 : b2 = true → 0 < y) :
    Calls Try.prog 54 #[.agg #[.bool b1, .slice A1 (len x) c1], .agg #[.bool b2, .slice A2 (len y) c2]] w fun e w' => RetR e w' w.heap.size (mkF (signed (b1 != b2) x) y) ∧ Old w w' := by
  by_cases p2 : 0 < y
  · exact impl_RatMake_pos b1 b2 A1 A2 c1 c2 x y l1 l2 w h1 h2 hx hy hb1 hb2 p2
  · rw [mkF_d0 (by omega)]
    exact impl_RatMake_null b1 b2 A1 A2 c1 c2 x y l1 l2 w h1 h2 hx hy hb1 hb2 p2
set_option maxRecDepth 100000 in
set_option maxHeartbeats 1000000 in
theorem impl_RatMake_no1 (b1 : Bool) (A1 : Option Addr) (n1 c1 l1 : Nat) (f1 : Nat → Int) (b2 : Bool) (A2 : Option Addr) (n2 c2 l2 : Nat) (f2 : Nat → Int) (w : World) (h1 : Row w l1 A1 n1 c1 f1) (hn1 : n1 ≤ 1048576) (q1 : ¬ okB b1 n1 f1) :
    Calls Try.prog 54 #[.agg #[.bool b1, .slice A1 n1 c1], .agg #[.bool b2, .slice A2 n2 c2]] w fun e w' => RetR e w' w.heap.size (0, 0) ∧ Old w w' := by
  have Q1 := Lib.hid q1
  clear q1
  have O : Old w (((w.alloc (.cells #[.bool b1, .slice A1 n1 c1] 29)).alloc (.cells #[.bool b2, .slice A2 n2 c2] 29)).alloc (.cells #[.bool false, .slice none 0 0, .slice none 0 0] 31)) := oldA
  have B_x : Bx (((w.alloc (.cells #[.bool b1, .slice A1 n1 c1] 29)).alloc (.cells #[.bool b2, .slice A2 n2 c2] 29)).alloc (.cells #[.bool false, .slice none 0 0, .slice none 0 0] 31)) (w.heap.size) #[.bool b1, .slice A1 n1 c1] := by have h := (Bx.alloc (Bx.alloc (Bx.new w #[.bool b1, .slice A1 n1 c1] 29) (.cells #[.bool b2, .slice A2 n2 c2] 29)) (.cells #[.bool false, .slice none 0 0, .slice none 0 0] 31)); simpa using h
  have B_y : Bx (((w.alloc (.cells #[.bool b1, .slice A1 n1 c1] 29)).alloc (.cells #[.bool b2, .slice A2 n2 c2] 29)).alloc (.cells #[.bool false, .slice none 0 0, .slice none 0 0] 31)) (w.heap.size + 1) #[.bool b2, .slice A2 n2 c2] := by have h := (Bx.alloc (Bx.new (w.alloc (.cells #[.bool b1, .slice A1 n1 c1] 29)) #[.bool b2, .slice A2 n2 c2] 29) (.cells #[.bool false, .slice none 0 0, .slice none 0 0] 31)); simpa using h
  have B_r : Bx (((w.alloc (.cells #[.bool b1, .slice A1 n1 c1] 29)).alloc (.cells #[.bool b2, .slice A2 n2 c2] 29)).alloc (.cells #[.bool false, .slice none 0 0, .slice none 0 0] 31)) (w.heap.size + 1 + 1) #[.bool false, .slice none 0 0, .slice none 0 0] := by have h := (Bx.new ((w.alloc (.cells #[.bool b1, .slice A1 n1 c1] 29)).alloc (.cells #[.bool b2, .slice A2 n2 c2] 29)) #[.bool false, .slice none 0 0, .slice none 0 0] 31); simpa using h
  have ne_0_1 : ¬ (w.heap.size = w.heap.size + 1) := by omega
  have ne_0_2 : ¬ (w.heap.size = w.heap.size + 1 + 1) := by omega
  have ne_1_0 : ¬ (w.heap.size + 1 = w.heap.size) := by omega
  have ne_1_2 : ¬ (w.heap.size + 1 = w.heap.size + 1 + 1) := by omega
  have ne_2_0 : ¬ (w.heap.size + 1 + 1 = w.heap.size) := by omega
  have ne_2_1 : ¬ (w.heap.size + 1 + 1 = w.heap.size + 1) := by omega
  have ze : w.heap.size + 3 ≤ (((w.alloc (.cells #[.bool b1, .slice A1 n1 c1] 29)).alloc (.cells #[.bool b2, .slice A2 n2 c2] 29)).alloc (.cells #[.bool false, .slice none 0 0, .slice none 0 0] 31)).heap.size := (by simp)
  go_enter Try.func54, Try.ntmps54
  go_wp2_with fail
  refine callsNamed ?_
  intro p1 hp
  have O' : Old w p1 := (by rw [hp]; exact Below.trans (b := (((w.alloc (.cells #[.bool b1, .slice A1 n1 c1] 29)).alloc (.cells #[.bool b2, .slice A2 n2 c2] 29)).alloc (.cells #[.bool false, .slice none 0 0, .slice none 0 0] 31))) O oldA)
  replace B_x : Bx p1 (w.heap.size) #[.bool b1, .slice A1 n1 c1] := (bxK B_x hp)
  replace B_y : Bx p1 (w.heap.size + 1) #[.bool b2, .slice A2 n2 c2] := (bxK B_y hp)
  replace B_r : Bx p1 (w.heap.size + 1 + 1) #[.bool false, .slice none 0 0, .slice none 0 0] := (bxK B_r hp)
  have zp1 : (((w.alloc (.cells #[.bool b1, .slice A1 n1 c1] 29)).alloc (.cells #[.bool b2, .slice A2 n2 c2] 29)).alloc (.cells #[.bool false, .slice none 0 0, .slice none 0 0] 31)).heap.size ≤ p1.heap.size := (by rw [hp]; exact leA)
  clear hp O
  have O := O'
  clear O'
  refine (areBig_no1 b1 b2 A1 A2 n1 c1 n2 c2 l1 f1 _ (Row.below (B := w.heap.size) h1 O (Nat.le_refl _)) hn1 Q1.out).mono ?_
  rintro e w1 ⟨rfl, o1⟩
  replace B_x := Bx.old B_x o1
  replace B_y := Bx.old B_y o1
  replace B_r := Bx.old B_r o1
  replace O := Old.trans O o1
  have zw1 := o1.size
  obtain ⟨q_x_0, q_x_1, f_x_0, f_x_1, q_x⟩ := B_x.all2
  obtain ⟨q_y_0, q_y_1, f_y_0, f_y_1, q_y⟩ := B_y.all2
  obtain ⟨q_r_0, q_r_1, q_r_2, f_r_0, f_r_1, f_r_2, q_r⟩ := B_r.all3
  go_wp2
  refine bodyPost_ret (v := .agg #[.bool false, .slice none 0 0, .slice none 0 0]) (by simp [results, Try.results54, go_sem, q_r_0, q_r_1, q_r_2]) rfl ⟨RetR.zero rfl, Below.trans (b := w1) O oldA⟩
set_option maxRecDepth 100000 in
set_option maxHeartbeats 1000000 in
theorem impl_RatMake_no2 (b1 b2 : Bool) (A1 A2 : Option Addr) (c1 x n2 c2 l1 l2 : Nat) (f2 : Nat → Int) (w : World) (h1 : NatS w l1 A1 c1 x) (h2 : Row w l2 A2 n2 c2 f2) (hx : len x ≤ 60) (hb1 : b1 = true → 0 < x) (hn2 : n2 ≤ 1048576) (q2 : ¬ okB b2 n2 f2) :
    Calls Try.prog 54 #[.agg #[.bool b1, .slice A1 (len x) c1], .agg #[.bool b2, .slice A2 n2 c2]] w fun e w' => RetR e w' w.heap.size (0, 0) ∧ Old w w' := by
  have Q2 := Lib.hid q2
  have HB1 := Lib.hid hb1
  clear q2 hb1
  have O : Old w (((w.alloc (.cells #[.bool b1, .slice A1 (len x) c1] 29)).alloc (.cells #[.bool b2, .slice A2 n2 c2] 29)).alloc (.cells #[.bool false, .slice none 0 0, .slice none 0 0] 31)) := oldA
  have B_x : Bx (((w.alloc (.cells #[.bool b1, .slice A1 (len x) c1] 29)).alloc (.cells #[.bool b2, .slice A2 n2 c2] 29)).alloc (.cells #[.bool false, .slice none 0 0, .slice none 0 0] 31)) (w.heap.size) #[.bool b1, .slice A1 (len x) c1] := by have h := (Bx.alloc (Bx.alloc (Bx.new w #[.bool b1, .slice A1 (len x) c1] 29) (.cells #[.bool b2, .slice A2 n2 c2] 29)) (.cells #[.bool false, .slice none 0 0, .slice none 0 0] 31)); simpa using h
  have B_y : Bx (((w.alloc (.cells #[.bool b1, .slice A1 (len x) c1] 29)).alloc (.cells #[.bool b2, .slice A2 n2 c2] 29)).alloc (.cells #[.bool false, .slice none 0 0, .slice none 0 0] 31)) (w.heap.size + 1) #[.bool b2, .slice A2 n2 c2] := by have h := (Bx.alloc (Bx.new (w.alloc (.cells #[.bool b1, .slice A1 (len x) c1] 29)) #[.bool b2, .slice A2 n2 c2] 29) (.cells #[.bool false, .slice none 0 0, .slice none 0 0] 31)); simpa using h
  have B_r : Bx (((w.alloc (.cells #[.bool b1, .slice A1 (len x) c1] 29)).alloc (.cells #[.bool b2, .slice A2 n2 c2] 29)).alloc (.cells #[.bool false, .slice none 0 0, .slice none 0 0] 31)) (w.heap.size + 1 + 1) #[.bool false, .slice none 0 0, .slice none 0 0] := by have h := (Bx.new ((w.alloc (.cells #[.bool b1, .slice A1 (len x) c1] 29)).alloc (.cells #[.bool b2, .slice A2 n2 c2] 29)) #[.bool false, .slice none 0 0, .slice none 0 0] 31); simpa using h
  have ne_0_1 : ¬ (w.heap.size = w.heap.size + 1) := by omega
  have ne_0_2 : ¬ (w.heap.size = w.heap.size + 1 + 1) := by omega
  have ne_1_0 : ¬ (w.heap.size + 1 = w.heap.size) := by omega
  have ne_1_2 : ¬ (w.heap.size + 1 = w.heap.size + 1 + 1) := by omega
  have ne_2_0 : ¬ (w.heap.size + 1 + 1 = w.heap.size) := by omega
  have ne_2_1 : ¬ (w.heap.size + 1 + 1 = w.heap.size + 1) := by omega
  have ze : w.heap.size + 3 ≤ (((w.alloc (.cells #[.bool b1, .slice A1 (len x) c1] 29)).alloc (.cells #[.bool b2, .slice A2 n2 c2] 29)).alloc (.cells #[.bool false, .slice none 0 0, .slice none 0 0] 31)).heap.size := (by simp)
  go_enter Try.func54, Try.ntmps54
  go_wp2_with fail
  refine callsNamed ?_
  intro p1 hp
  have O' : Old w p1 := (by rw [hp]; exact Below.trans (b := (((w.alloc (.cells #[.bool b1, .slice A1 (len x) c1] 29)).alloc (.cells #[.bool b2, .slice A2 n2 c2] 29)).alloc (.cells #[.bool false, .slice none 0 0, .slice none 0 0] 31))) O oldA)
  replace B_x : Bx p1 (w.heap.size) #[.bool b1, .slice A1 (len x) c1] := (bxK B_x hp)
  replace B_y : Bx p1 (w.heap.size + 1) #[.bool b2, .slice A2 n2 c2] := (bxK B_y hp)
  replace B_r : Bx p1 (w.heap.size + 1 + 1) #[.bool false, .slice none 0 0, .slice none 0 0] := (bxK B_r hp)
  have zp1 : (((w.alloc (.cells #[.bool b1, .slice A1 (len x) c1] 29)).alloc (.cells #[.bool b2, .slice A2 n2 c2] 29)).alloc (.cells #[.bool false, .slice none 0 0, .slice none 0 0] 31)).heap.size ≤ p1.heap.size := (by rw [hp]; exact leA)
  clear hp O
  have O := O'
  clear O'
  refine (areBig_no2 b1 b2 A1 A2 c1 x n2 c2 l1 l2 f2 _ (Row.below (B := w.heap.size) h1 O (Nat.le_refl _)) (Row.below (B := w.heap.size) h2 O (Nat.le_refl _)) hx HB1.out hn2 Q2.out).mono ?_
  rintro e w1 ⟨rfl, o1⟩
  replace B_x := Bx.old B_x o1
  replace B_y := Bx.old B_y o1
  replace B_r := Bx.old B_r o1
  replace O := Old.trans O o1
  have zw1 := o1.size
  obtain ⟨q_x_0, q_x_1, f_x_0, f_x_1, q_x⟩ := B_x.all2
  obtain ⟨q_y_0, q_y_1, f_y_0, f_y_1, q_y⟩ := B_y.all2
  obtain ⟨q_r_0, q_r_1, q_r_2, f_r_0, f_r_1, f_r_2, q_r⟩ := B_r.all3
  go_wp2
  refine bodyPost_ret (v := .agg #[.bool false, .slice none 0 0, .slice none 0 0]) (by simp [results, Try.results54, go_sem, q_r_0, q_r_1, q_r_2]) rfl ⟨RetR.zero rfl, Below.trans (b := w1) O oldA⟩
theorem impl_RatMake (b1 : Bool) (A1 : Option Addr) (n1 c1 l1 : Nat) (f1 : Nat → Int) (b2 : Bool) (A2 : Option Addr) (n2 c2 l2 : Nat) (f2 : Nat → Int) (w : World) (h1 : Row w l1 A1 n1 c1 f1) (h2 : Row w l2 A2 n2 c2 f2) (hn1 : n1 ≤ 1048576) (hn2 : n2 ≤ 1048576) :
    Calls Try.prog 54 #[.agg #[.bool b1, .slice A1 n1 c1], .agg #[.bool b2, .slice A2 n2 c2]] w fun e w' => RetR e w' w.heap.size (vRatMake b1 n1 f1 b2 n2 f2) ∧ Old w w' := by
  by_cases q1 : okB b1 n1 f1
  · obtain ⟨x, e1, hx, hb1, v1, s1⟩ := okB_nat q1 h1
    by_cases q2 : okB b2 n2 f2
    · obtain ⟨y, e2, hy, hb2, v2, s2⟩ := okB_nat q2 h2
      have hv1 : natX n1 f1 = x := by have h := congrArg magZ v1; unfold bigX at h; rwa [mag_signed, mag_signed] at h
      have hv2 : natX n2 f2 = y := by have h := congrArg magZ v2; unfold bigX at h; rwa [mag_signed, mag_signed] at h
      rw [vRatMake_yes q1 q2, hv1, hv2, e1, e2]
      exact impl_RatMake_yes b1 b2 A1 A2 c1 c2 x y l1 l2 w s1 s2 hx hy hb1 hb2
    · rw [vRatMake_no2 q2, e1]
      exact impl_RatMake_no2 b1 b2 A1 A2 c1 x n2 c2 l1 l2 f2 w s1 h2 hx hb1 hn2 q2
  · rw [vRatMake_no1 q1]
    exact impl_RatMake_no1 b1 A1 n1 c1 l1 f1 b2 A2 n2 c2 l2 f2 w h1 hn1 q1
/-- The fraction of two ints. -/
noncomputable def vRatOf (a b : Int) : Fr := vRatMake (sgnZ (zBigIntOf a)) (len (magZ (zBigIntOf a))) (digI (magZ (zBigIntOf a))) (sgnZ (zBigIntOf b)) (len (magZ (zBigIntOf b))) (digI (magZ (zBigIntOf b)))
theorem vRatOf_norm (a b : Int) : normF (vRatOf a b) := vRatMake_norm _ _ _ _ _ _
set_option maxRecDepth 100000 in
set_option maxHeartbeats 1000000 in
theorem spec_RatOf (a b : Int) (w : World) (ha : -9223372036854775808 ≤ a ∧ a ≤ 9223372036854775807) (hb : -9223372036854775808 ≤ b ∧ b ≤ 9223372036854775807) :
    Calls Try.prog 59 #[.int .i64 a, .int .i64 b] w fun e w' => RetR e w' w.heap.size (vRatOf a b) ∧ Old w w' := by
  unfold vRatOf
  have hl1 := zBigIntOf_len a
  have hl2 := zBigIntOf_len b
  obtain ⟨y, hy⟩ : ∃ y, y = zBigIntOf a := ⟨_, rfl⟩
  obtain ⟨z, hz⟩ : ∃ z, z = zBigIntOf b := ⟨_, rfl⟩
  rw [← hy] at hl1 ⊢
  rw [← hz] at hl2 ⊢
  have HY := Lib.hid hy.symm
  have HZ := Lib.hid hz.symm
  have HA := Lib.hid ha
  have HB := Lib.hid hb
  clear ha hb hy hz
  have O : Old w (w.alloc (.cells #[.bool false, .slice none 0 0, .slice none 0 0] 31)) := oldA
  have B_r : Bx (w.alloc (.cells #[.bool false, .slice none 0 0, .slice none 0 0] 31)) (w.heap.size) #[.bool false, .slice none 0 0, .slice none 0 0] := by have h := (Bx.new w #[.bool false, .slice none 0 0, .slice none 0 0] 31); simpa using h
  have ze : w.heap.size + 1 ≤ (w.alloc (.cells #[.bool false, .slice none 0 0, .slice none 0 0] 31)).heap.size := (by simp)
  go_enter Try.func59, Try.ntmps59
  go_wp2_with fail
  refine callsNamed ?_
  intro p1 hp
  have O' : Old w p1 := (by rw [hp]; exact Below.trans (b := (w.alloc (.cells #[.bool false, .slice none 0 0, .slice none 0 0] 31))) O oldA)
  replace B_r : Bx p1 (w.heap.size) #[.bool false, .slice none 0 0, .slice none 0 0] := (bxK B_r hp)
  have zp1 : (w.alloc (.cells #[.bool false, .slice none 0 0, .slice none 0 0] 31)).heap.size ≤ p1.heap.size := (by rw [hp]; exact leA)
  clear hp O
  have O := O'
  clear O'
  refine (retB_to HY.out (spec_BigIntOf a _ HA.out)).mono ?_
  rintro e w1 ⟨⟨A5, c5, rfl, r5⟩, o1⟩
  replace B_r := Bx.old B_r o1
  replace O := Old.trans O o1
  have zw1 := o1.size
  replace r5 := Row.more (lo' := p1.heap.size) r5 leA
  have lim_r5 := Row.lim r5
  obtain ⟨q_r_0, q_r_1, q_r_2, f_r_0, f_r_1, f_r_2, q_r⟩ := B_r.all3
  go_wp2_with fail
  refine callsNamed ?_
  intro p2 hp
  clear q_r_0 q_r_1 q_r_2 f_r_0 f_r_1 f_r_2 q_r
  have O' : Old w p2 := (by rw [hp]; exact Below.trans (b := w1) O oldA)
  replace B_r : Bx p2 (w.heap.size) #[.bool false, .slice none 0 0, .slice none 0 0] := (bxK B_r hp)
  replace r5 := rowK r5 hp
  have zp2 : w1.heap.size ≤ p2.heap.size := (by rw [hp]; exact leA)
  clear hp O
  have O := O'
  clear O'
  refine (retB_to HZ.out (spec_BigIntOf b _ HB.out)).mono ?_
  rintro e w2 ⟨⟨A6, c6, rfl, r6⟩, o2⟩
  replace B_r := Bx.old B_r o2
  replace r5 := Row.below r5 o2 (Nat.le_refl _)
  replace O := Old.trans O o2
  have zw2 := o2.size
  replace r6 := Row.more (lo' := p2.heap.size) r6 leA
  have lim_r6 := Row.lim r6
  obtain ⟨q_r_0, q_r_1, q_r_2, f_r_0, f_r_1, f_r_2, q_r⟩ := B_r.all3
  go_wp2_with fail
  refine callsNamed ?_
  intro p3 hp
  clear q_r_0 q_r_1 q_r_2 f_r_0 f_r_1 f_r_2 q_r
  have O' : Old w p3 := (by rw [hp]; exact Below.trans (b := w2) O oldA)
  replace B_r : Bx p3 (w.heap.size) #[.bool false, .slice none 0 0, .slice none 0 0] := (bxK B_r hp)
  replace r5 := rowK r5 hp
  replace r6 := rowK r6 hp
  have zp3 : w2.heap.size ≤ p3.heap.size := (by rw [hp]; exact leA)
  clear hp O
  have O := O'
  clear O'
  refine (spec_RatMake (sgnZ y) A5 (len (magZ y)) c5 _ (digI (magZ y)) (sgnZ z) A6 (len (magZ z)) c6 _ (digI (magZ z)) _ r5 r6 (by omega) (by omega)).mono ?_
  rintro e w3 ⟨⟨z9, d9, A9, c9, D9, e9, hv, rfl, r9, s9, ap⟩, o3⟩
  replace B_r := Bx.old B_r o3
  replace r5 := Row.below r5 o3 (Nat.le_refl _)
  replace r6 := Row.below r6 o3 (Nat.le_refl _)
  replace O := Old.trans O o3
  have zw3 := o3.size
  replace r9 := Row.more (lo' := p3.heap.size) r9 leA
  replace s9 := Row.more (lo' := p3.heap.size) s9 leA
  have lim_r9 := Row.lim r9
  have lim_s9 := Row.lim s9
  have HV := Lib.hid hv
  have AP := Lib.hid ap
  clear hv ap
  obtain ⟨q_r_0, q_r_1, q_r_2, f_r_0, f_r_1, f_r_2, q_r⟩ := B_r.all3
  go_wp2
  refine bodyPost_ret (v := .agg #[.bool (sgnZ z9), .slice A9 (len (magZ z9)) c9, .slice D9 (len d9) e9]) (by simp [results, Try.results59, go_sem, q_r_0, q_r_1, q_r_2]) rfl ⟨⟨z9, d9, A9, c9, D9, e9, HV.out, rfl, ?_, ?_, AP.out⟩, ?_⟩
  · refine Row.more (lo := p3.heap.size) ?_ leA
    repeat' (first | (with_reducible exact r9) | (with_reducible refine Row.far_set ?_ (by first | (simp <;> done) | (simp; omega) | omega) _))
  · refine Row.more (lo := p3.heap.size) ?_ leA
    repeat' (first | (with_reducible exact s9) | (with_reducible refine Row.far_set ?_ (by first | (simp <;> done) | (simp; omega) | omega) _))
  · exact Below.trans (b := w3) O oldA
set_option maxRecDepth 100000 in
set_option maxHeartbeats 1000000 in
theorem impl_RatOf (a b : Int) (w : World) (ha : -9223372036854775808 ≤ a ∧ a ≤ 9223372036854775807) (hb : -9223372036854775808 ≤ b ∧ b ≤ 9223372036854775807) :
    Calls Try.prog 60 #[.int .i64 a, .int .i64 b] w fun e w' => RetR e w' w.heap.size (vRatOf a b) ∧ Old w w' := by
  unfold vRatOf
  have hl1 := zBigIntOf_len a
  have hl2 := zBigIntOf_len b
  obtain ⟨y, hy⟩ : ∃ y, y = zBigIntOf a := ⟨_, rfl⟩
  obtain ⟨z, hz⟩ : ∃ z, z = zBigIntOf b := ⟨_, rfl⟩
  rw [← hy] at hl1 ⊢
  rw [← hz] at hl2 ⊢
  have HY := Lib.hid hy.symm
  have HZ := Lib.hid hz.symm
  have HA := Lib.hid ha
  have HB := Lib.hid hb
  clear ha hb hy hz
  have O : Old w (w.alloc (.cells #[.bool false, .slice none 0 0, .slice none 0 0] 31)) := oldA
  have B_r : Bx (w.alloc (.cells #[.bool false, .slice none 0 0, .slice none 0 0] 31)) (w.heap.size) #[.bool false, .slice none 0 0, .slice none 0 0] := by have h := (Bx.new w #[.bool false, .slice none 0 0, .slice none 0 0] 31); simpa using h
  have ze : w.heap.size + 1 ≤ (w.alloc (.cells #[.bool false, .slice none 0 0, .slice none 0 0] 31)).heap.size := (by simp)
  go_enter Try.func60, Try.ntmps60
  go_wp2_with fail
  refine callsNamed ?_
  intro p1 hp
  have O' : Old w p1 := (by rw [hp]; exact Below.trans (b := (w.alloc (.cells #[.bool false, .slice none 0 0, .slice none 0 0] 31))) O oldA)
  replace B_r : Bx p1 (w.heap.size) #[.bool false, .slice none 0 0, .slice none 0 0] := (bxK B_r hp)
  have zp1 : (w.alloc (.cells #[.bool false, .slice none 0 0, .slice none 0 0] 31)).heap.size ≤ p1.heap.size := (by rw [hp]; exact leA)
  clear hp O
  have O := O'
  clear O'
  refine (retB_to HY.out (bigOf_any a _ HA.out)).mono ?_
  rintro e w1 ⟨⟨A5, c5, rfl, r5⟩, o1⟩
  replace B_r := Bx.old B_r o1
  replace O := Old.trans O o1
  have zw1 := o1.size
  replace r5 := Row.more (lo' := p1.heap.size) r5 leA
  have lim_r5 := Row.lim r5
  obtain ⟨q_r_0, q_r_1, q_r_2, f_r_0, f_r_1, f_r_2, q_r⟩ := B_r.all3
  go_wp2_with fail
  refine callsNamed ?_
  intro p2 hp
  clear q_r_0 q_r_1 q_r_2 f_r_0 f_r_1 f_r_2 q_r
  have O' : Old w p2 := (by rw [hp]; exact Below.trans (b := w1) O oldA)
  replace B_r : Bx p2 (w.heap.size) #[.bool false, .slice none 0 0, .slice none 0 0] := (bxK B_r hp)
  replace r5 := rowK r5 hp
  have zp2 : w1.heap.size ≤ p2.heap.size := (by rw [hp]; exact leA)
  clear hp O
  have O := O'
  clear O'
  refine (retB_to HZ.out (bigOf_any b _ HB.out)).mono ?_
  rintro e w2 ⟨⟨A6, c6, rfl, r6⟩, o2⟩
  replace B_r := Bx.old B_r o2
  replace r5 := Row.below r5 o2 (Nat.le_refl _)
  replace O := Old.trans O o2
  have zw2 := o2.size
  replace r6 := Row.more (lo' := p2.heap.size) r6 leA
  have lim_r6 := Row.lim r6
  obtain ⟨q_r_0, q_r_1, q_r_2, f_r_0, f_r_1, f_r_2, q_r⟩ := B_r.all3
  go_wp2_with fail
  refine callsNamed ?_
  intro p3 hp
  clear q_r_0 q_r_1 q_r_2 f_r_0 f_r_1 f_r_2 q_r
  have O' : Old w p3 := (by rw [hp]; exact Below.trans (b := w2) O oldA)
  replace B_r : Bx p3 (w.heap.size) #[.bool false, .slice none 0 0, .slice none 0 0] := (bxK B_r hp)
  replace r5 := rowK r5 hp
  replace r6 := rowK r6 hp
  have zp3 : w2.heap.size ≤ p3.heap.size := (by rw [hp]; exact leA)
  clear hp O
  have O := O'
  clear O'
  refine (impl_RatMake (sgnZ y) A5 (len (magZ y)) c5 _ (digI (magZ y)) (sgnZ z) A6 (len (magZ z)) c6 _ (digI (magZ z)) _ r5 r6 (by omega) (by omega)).mono ?_
  rintro e w3 ⟨⟨z9, d9, A9, c9, D9, e9, hv, rfl, r9, s9, ap⟩, o3⟩
  replace B_r := Bx.old B_r o3
  replace r5 := Row.below r5 o3 (Nat.le_refl _)
  replace r6 := Row.below r6 o3 (Nat.le_refl _)
  replace O := Old.trans O o3
  have zw3 := o3.size
  replace r9 := Row.more (lo' := p3.heap.size) r9 leA
  replace s9 := Row.more (lo' := p3.heap.size) s9 leA
  have lim_r9 := Row.lim r9
  have lim_s9 := Row.lim s9
  have HV := Lib.hid hv
  have AP := Lib.hid ap
  clear hv ap
  obtain ⟨q_r_0, q_r_1, q_r_2, f_r_0, f_r_1, f_r_2, q_r⟩ := B_r.all3
  go_wp2
  refine bodyPost_ret (v := .agg #[.bool (sgnZ z9), .slice A9 (len (magZ z9)) c9, .slice D9 (len d9) e9]) (by simp [results, Try.results60, go_sem, q_r_0, q_r_1, q_r_2]) rfl ⟨⟨z9, d9, A9, c9, D9, e9, HV.out, rfl, ?_, ?_, AP.out⟩, ?_⟩
  · refine Row.more (lo := p3.heap.size) ?_ leA
    repeat' (first | (with_reducible exact r9) | (with_reducible refine Row.far_set ?_ (by first | (simp <;> done) | (simp; omega) | omega) _))
  · refine Row.more (lo := p3.heap.size) ?_ leA
    repeat' (first | (with_reducible exact s9) | (with_reducible refine Row.far_set ?_ (by first | (simp <;> done) | (simp; omega) | omega) _))
  · exact Below.trans (b := w3) O oldA
end Go.Proofs.Ytnkeenejcpkelaa
