import Derived.Test.YtgchbbjhdeobpaaRatFacts
/-
  The program's functions on fractions inside.
-/
namespace Go.Proofs.Ytgchbbjhdeobpaa
set_option linter.unusedVariables false
open Go.RowKit Num
attribute [local go_sem ↓] Go.wp_at_zero Go.wp_at_succ
set_option maxRecDepth 100000 in
set_option maxHeartbeats 1000000 in
theorem ratMul_yes (z1 : Int) (d1 : Nat) (A1 D1 : Option Addr) (c1 e1 l1 m1 : Nat) (z2 : Int) (d2 : Nat) (A2 D2 : Option Addr) (c2 e2 l2 m2 : Nat) (w : World) (h1 : NatS w l1 A1 c1 (magZ z1)) (k1 : NatS w m1 D1 e1 d1) (n1 : normF (z1, d1)) (h2 : NatS w l2 A2 c2 (magZ z2)) (k2 : NatS w m2 D2 e2 d2) (n2 : normF (z2, d2)) (p1 : 0 < d1) (p2 : 0 < d2) :
    Calls Try.prog 39 #[.agg #[.bool (sgnZ z1), .slice A1 (len (magZ z1)) c1, .slice D1 (len d1) e1], .agg #[.bool (sgnZ z2), .slice A2 (len (magZ z2)) c2, .slice D2 (len d2) e2]] w fun e w' => RetR e w' w.heap.size (mulF (z1, d1) (z2, d2)) ∧ Old w w' := by
  have N1 := Lib.hid n1
  have LN1 := norm_len n1
  have La1 : len (magZ z1) ≤ 24 := LN1.1
  have Lb1 : len d1 ≤ 24 := LN1.2
  clear n1 LN1
  have N2 := Lib.hid n2
  have LN2 := norm_len n2
  have La2 : len (magZ z2) ≤ 24 := LN2.1
  have Lb2 : len d2 ≤ 24 := LN2.2
  clear n2 LN2
  obtain ⟨M, hM⟩ : ∃ M, M = z1 * z2 := ⟨_, rfl⟩
  have HM := Lib.hid hM.symm
  have LM : len (magZ M) ≤ 48 := by rw [hM, mag_mul]; exact mul_fit La1 La2
  have HC : Hid (mulF (z1, d1) (z2, d2) = mkF M (d1 * d2)) := Lib.hid (by rw [hM]; rfl)
  have LQ : len (d1 * d2) ≤ 48 := mul_fit Lb1 Lb2
  have PQ : Hid (0 < d1 * d2) := Lib.hid (Nat.mul_pos p1 p2)
  clear hM
  have P1 := Lib.hid p1
  have P2 := Lib.hid p2
  clear p1 p2
  have O : Old w (((w.alloc (.cells #[.bool (sgnZ z1), .slice A1 (len (magZ z1)) c1, .slice D1 (len d1) e1] 32)).alloc (.cells #[.bool (sgnZ z2), .slice A2 (len (magZ z2)) c2, .slice D2 (len d2) e2] 32)).alloc (.cells #[.bool false, .slice none 0 0, .slice none 0 0] 32)) := oldA
  have B_x : Bx (((w.alloc (.cells #[.bool (sgnZ z1), .slice A1 (len (magZ z1)) c1, .slice D1 (len d1) e1] 32)).alloc (.cells #[.bool (sgnZ z2), .slice A2 (len (magZ z2)) c2, .slice D2 (len d2) e2] 32)).alloc (.cells #[.bool false, .slice none 0 0, .slice none 0 0] 32)) (w.heap.size) #[.bool (sgnZ z1), .slice A1 (len (magZ z1)) c1, .slice D1 (len d1) e1] := by have h := (Bx.alloc (Bx.alloc (Bx.new w #[.bool (sgnZ z1), .slice A1 (len (magZ z1)) c1, .slice D1 (len d1) e1] 32) (.cells #[.bool (sgnZ z2), .slice A2 (len (magZ z2)) c2, .slice D2 (len d2) e2] 32)) (.cells #[.bool false, .slice none 0 0, .slice none 0 0] 32)); simpa using h
  have B_y : Bx (((w.alloc (.cells #[.bool (sgnZ z1), .slice A1 (len (magZ z1)) c1, .slice D1 (len d1) e1] 32)).alloc (.cells #[.bool (sgnZ z2), .slice A2 (len (magZ z2)) c2, .slice D2 (len d2) e2] 32)).alloc (.cells #[.bool false, .slice none 0 0, .slice none 0 0] 32)) (w.heap.size + 1) #[.bool (sgnZ z2), .slice A2 (len (magZ z2)) c2, .slice D2 (len d2) e2] := by have h := (Bx.alloc (Bx.new (w.alloc (.cells #[.bool (sgnZ z1), .slice A1 (len (magZ z1)) c1, .slice D1 (len d1) e1] 32)) #[.bool (sgnZ z2), .slice A2 (len (magZ z2)) c2, .slice D2 (len d2) e2] 32) (.cells #[.bool false, .slice none 0 0, .slice none 0 0] 32)); simpa using h
  have B_r : Bx (((w.alloc (.cells #[.bool (sgnZ z1), .slice A1 (len (magZ z1)) c1, .slice D1 (len d1) e1] 32)).alloc (.cells #[.bool (sgnZ z2), .slice A2 (len (magZ z2)) c2, .slice D2 (len d2) e2] 32)).alloc (.cells #[.bool false, .slice none 0 0, .slice none 0 0] 32)) (w.heap.size + 1 + 1) #[.bool false, .slice none 0 0, .slice none 0 0] := by have h := (Bx.new ((w.alloc (.cells #[.bool (sgnZ z1), .slice A1 (len (magZ z1)) c1, .slice D1 (len d1) e1] 32)).alloc (.cells #[.bool (sgnZ z2), .slice A2 (len (magZ z2)) c2, .slice D2 (len d2) e2] 32)) #[.bool false, .slice none 0 0, .slice none 0 0] 32); simpa using h
  have ne_0_1 : ¬ (w.heap.size = w.heap.size + 1) := by omega
  have ne_0_2 : ¬ (w.heap.size = w.heap.size + 1 + 1) := by omega
  have ne_1_0 : ¬ (w.heap.size + 1 = w.heap.size) := by omega
  have ne_1_2 : ¬ (w.heap.size + 1 = w.heap.size + 1 + 1) := by omega
  have ne_2_0 : ¬ (w.heap.size + 1 + 1 = w.heap.size) := by omega
  have ne_2_1 : ¬ (w.heap.size + 1 + 1 = w.heap.size + 1) := by omega
  have ze : w.heap.size + 3 ≤ (((w.alloc (.cells #[.bool (sgnZ z1), .slice A1 (len (magZ z1)) c1, .slice D1 (len d1) e1] 32)).alloc (.cells #[.bool (sgnZ z2), .slice A2 (len (magZ z2)) c2, .slice D2 (len d2) e2] 32)).alloc (.cells #[.bool false, .slice none 0 0, .slice none 0 0] 32)).heap.size := (by simp)
  go_enter Try.func39, Try.ntmps39
  go_wp2_with fail
  refine callsNamed ?_
  intro p1 hp
  have O' : Old w p1 := (by rw [hp]; exact Below.trans (b := (((w.alloc (.cells #[.bool (sgnZ z1), .slice A1 (len (magZ z1)) c1, .slice D1 (len d1) e1] 32)).alloc (.cells #[.bool (sgnZ z2), .slice A2 (len (magZ z2)) c2, .slice D2 (len d2) e2] 32)).alloc (.cells #[.bool false, .slice none 0 0, .slice none 0 0] 32))) O oldA)
  replace B_x : Bx p1 (w.heap.size) #[.bool (sgnZ z1), .slice A1 (len (magZ z1)) c1, .slice D1 (len d1) e1] := (bxK B_x hp)
  replace B_y : Bx p1 (w.heap.size + 1) #[.bool (sgnZ z2), .slice A2 (len (magZ z2)) c2, .slice D2 (len d2) e2] := (bxK B_y hp)
  replace B_r : Bx p1 (w.heap.size + 1 + 1) #[.bool false, .slice none 0 0, .slice none 0 0] := (bxK B_r hp)
  have zp1 : (((w.alloc (.cells #[.bool (sgnZ z1), .slice A1 (len (magZ z1)) c1, .slice D1 (len d1) e1] 32)).alloc (.cells #[.bool (sgnZ z2), .slice A2 (len (magZ z2)) c2, .slice D2 (len d2) e2] 32)).alloc (.cells #[.bool false, .slice none 0 0, .slice none 0 0] 32)).heap.size ≤ p1.heap.size := (by rw [hp]; exact leA)
  clear hp O
  have O := O'
  clear O'
  refine (isGood_yes (sgnZ z1) A1 D1 (len (magZ z1)) c1 d1 e1 _ P1.out).mono ?_
  rintro e w1 ⟨rfl, o1⟩
  replace B_x := Bx.old B_x o1
  replace B_y := Bx.old B_y o1
  replace B_r := Bx.old B_r o1
  replace O := Old.trans O o1
  have zw1 := o1.size
  obtain ⟨q_x_0, q_x_1, q_x_2, f_x_0, f_x_1, f_x_2, q_x⟩ := B_x.all3
  obtain ⟨q_y_0, q_y_1, q_y_2, f_y_0, f_y_1, f_y_2, q_y⟩ := B_y.all3
  obtain ⟨q_r_0, q_r_1, q_r_2, f_r_0, f_r_1, f_r_2, q_r⟩ := B_r.all3
  go_wp2_with fail
  refine callsNamed ?_
  intro p2 hp
  clear q_x_0 q_x_1 q_x_2 f_x_0 f_x_1 f_x_2 q_x q_y_0 q_y_1 q_y_2 f_y_0 f_y_1 f_y_2 q_y q_r_0 q_r_1 q_r_2 f_r_0 f_r_1 f_r_2 q_r
  have O' : Old w p2 := (by rw [hp]; exact Below.trans (b := w1) O oldA)
  replace B_x : Bx p2 (w.heap.size) #[.bool (sgnZ z1), .slice A1 (len (magZ z1)) c1, .slice D1 (len d1) e1] := (bxK B_x hp)
  replace B_y : Bx p2 (w.heap.size + 1) #[.bool (sgnZ z2), .slice A2 (len (magZ z2)) c2, .slice D2 (len d2) e2] := (bxK B_y hp)
  replace B_r : Bx p2 (w.heap.size + 1 + 1) #[.bool false, .slice none 0 0, .slice none 0 0] := (bxK B_r hp)
  have zp2 : w1.heap.size ≤ p2.heap.size := (by rw [hp]; exact leA)
  clear hp O
  have O := O'
  clear O'
  refine (isGood_yes (sgnZ z2) A2 D2 (len (magZ z2)) c2 d2 e2 _ P2.out).mono ?_
  rintro e w2 ⟨rfl, o2⟩
  replace B_x := Bx.old B_x o2
  replace B_y := Bx.old B_y o2
  replace B_r := Bx.old B_r o2
  replace O := Old.trans O o2
  have zw2 := o2.size
  obtain ⟨q_x_0, q_x_1, q_x_2, f_x_0, f_x_1, f_x_2, q_x⟩ := B_x.all3
  obtain ⟨q_y_0, q_y_1, q_y_2, f_y_0, f_y_1, f_y_2, q_y⟩ := B_y.all3
  obtain ⟨q_r_0, q_r_1, q_r_2, f_r_0, f_r_1, f_r_2, q_r⟩ := B_r.all3
  go_wp2_with fail
  go_region_held3 (fun w' => w'.cell? ⟨w.heap.size, 0, none⟩ = some (.bool (sgnZ z1)) ∧ w'.cell? ⟨w.heap.size, 1, none⟩ = some (.slice A1 (len (magZ z1)) c1) ∧ w'.cell? ⟨w.heap.size, 2, none⟩ = some (.slice D1 (len d1) e1) ∧ w'.cell? ⟨w.heap.size + 1, 0, none⟩ = some (.bool (sgnZ z2)) ∧ w'.cell? ⟨w.heap.size + 1, 1, none⟩ = some (.slice A2 (len (magZ z2)) c2) ∧ w'.cell? ⟨w.heap.size + 1, 2, none⟩ = some (.slice D2 (len d2) e2)) (go_keep)
    (first
     | (go_at_call 53; refine callsNamed ?_; intro p3 hp; clear q_x_0 q_x_1 q_x_2 f_x_0 f_x_1 f_x_2 q_x q_y_0 q_y_1 q_y_2 f_y_0 f_y_1 f_y_2 q_y q_r_0 q_r_1 q_r_2 f_r_0 f_r_1 f_r_2 q_r; have O' : Old w p3 := (by rw [hp]; exact Below.trans (b := w2) O oldA); replace B_x : Bx p3 (w.heap.size) #[.bool (sgnZ z1), .slice A1 (len (magZ z1)) c1, .slice D1 (len d1) e1] := (bxK B_x hp); replace B_y : Bx p3 (w.heap.size + 1) #[.bool (sgnZ z2), .slice A2 (len (magZ z2)) c2, .slice D2 (len d2) e2] := (bxK B_y hp); replace B_r : Bx p3 (w.heap.size + 1 + 1) #[.bool false, .slice none 0 0, .slice none 0 0] := (bxK B_r hp); have zp3 : w2.heap.size ≤ p3.heap.size := (by rw [hp]; exact leA); clear hp O; have O := O'; clear O'; refine (retB_to HM.out (bigMul_int z1 z2 A1 A2 c1 c2 l1 l2 _ (Row.below (B := w.heap.size) h1 O (Nat.le_refl _)) (Row.below (B := w.heap.size) h2 O (Nat.le_refl _)) La1 La2)).mono ?_; rintro e w3 ⟨⟨A5, c5, rfl, r5⟩, o3⟩; replace B_x := Bx.old B_x o3; replace B_y := Bx.old B_y o3; replace B_r := Bx.old B_r o3; replace O := Old.trans O o3; have zw3 := o3.size; replace r5 := Row.more (lo' := p3.heap.size) r5 leA; have lim_r5 := Row.lim r5; obtain ⟨q_x_0, q_x_1, q_x_2, f_x_0, f_x_1, f_x_2, q_x⟩ := B_x.all3; obtain ⟨q_y_0, q_y_1, q_y_2, f_y_0, f_y_1, f_y_2, q_y⟩ := B_y.all3; obtain ⟨q_r_0, q_r_1, q_r_2, f_r_0, f_r_1, f_r_2, q_r⟩ := B_r.all3)
     | (go_at_call 55; refine callsNamed ?_; intro p4 hp; clear q_x_0 q_x_1 q_x_2 f_x_0 f_x_1 f_x_2 q_x q_y_0 q_y_1 q_y_2 f_y_0 f_y_1 f_y_2 q_y q_r_0 q_r_1 q_r_2 f_r_0 f_r_1 f_r_2 q_r; have O' : Old w p4 := (by rw [hp]; exact Below.trans (b := w3) O oldA); replace B_x : Bx p4 (w.heap.size) #[.bool (sgnZ z1), .slice A1 (len (magZ z1)) c1, .slice D1 (len d1) e1] := (bxK B_x hp); replace B_y : Bx p4 (w.heap.size + 1) #[.bool (sgnZ z2), .slice A2 (len (magZ z2)) c2, .slice D2 (len d2) e2] := (bxK B_y hp); replace B_r : Bx p4 (w.heap.size + 1 + 1) #[.bool false, .slice none 0 0, .slice none 0 0] := (bxK B_r hp); replace r5 := rowK r5 hp; have zp4 : w3.heap.size ≤ p4.heap.size := (by rw [hp]; exact leA); clear hp O; have O := O'; clear O'; refine (natMul_any D1 D2 e1 e2 d1 d2 m1 m2 _ (Row.below (B := w.heap.size) k1 O (Nat.le_refl _)) (Row.below (B := w.heap.size) k2 O (Nat.le_refl _)) (by omega) (by omega)).mono ?_; rintro e w4 ⟨A8, c8, rfl, r8, o4⟩; replace B_x := Bx.old B_x o4; replace B_y := Bx.old B_y o4; replace B_r := Bx.old B_r o4; replace r5 := Row.below r5 o4 (Nat.le_refl _); replace O := Old.trans O o4; have zw4 := o4.size; replace r8 := Row.more (lo' := p4.heap.size) r8 leA; have lim_r8 := Row.lim r8; obtain ⟨q_x_0, q_x_1, q_x_2, f_x_0, f_x_1, f_x_2, q_x⟩ := B_x.all3; obtain ⟨q_y_0, q_y_1, q_y_2, f_y_0, f_y_1, f_y_2, q_y⟩ := B_y.all3; obtain ⟨q_r_0, q_r_1, q_r_2, f_r_0, f_r_1, f_r_2, q_r⟩ := B_r.all3)
     | (go_at_call 54; refine callsNamed ?_; intro p5 hp; clear q_x_0 q_x_1 q_x_2 f_x_0 f_x_1 f_x_2 q_x q_y_0 q_y_1 q_y_2 f_y_0 f_y_1 f_y_2 q_y q_r_0 q_r_1 q_r_2 f_r_0 f_r_1 f_r_2 q_r; have O' : Old w p5 := (by rw [hp]; exact Below.trans (b := w4) O oldA); replace B_x : Bx p5 (w.heap.size) #[.bool (sgnZ z1), .slice A1 (len (magZ z1)) c1, .slice D1 (len d1) e1] := (bxK B_x hp); replace B_y : Bx p5 (w.heap.size + 1) #[.bool (sgnZ z2), .slice A2 (len (magZ z2)) c2, .slice D2 (len d2) e2] := (bxK B_y hp); replace B_r : Bx p5 (w.heap.size + 1 + 1) #[.bool false, .slice none 0 0, .slice none 0 0] := (bxK B_r hp); replace r5 := rowK r5 hp; replace r8 := rowK r8 hp; have zp5 : w4.heap.size ≤ p5.heap.size := (by rw [hp]; exact leA); clear hp O; have O := O'; clear O'; refine (ratMake_any M (d1 * d2) A5 A8 c5 c8 _ _ _ r5 r8 (by omega) (by omega) PQ.out).mono ?_; rintro e w5 ⟨⟨z9, d9, A9, c9, D9, e9, hv, rfl, r9, s9, ap⟩, o5⟩; replace B_x := Bx.old B_x o5; replace B_y := Bx.old B_y o5; replace B_r := Bx.old B_r o5; replace r5 := Row.below r5 o5 (Nat.le_refl _); replace r8 := Row.below r8 o5 (Nat.le_refl _); replace O := Old.trans O o5; have zw5 := o5.size; replace r9 := Row.more (lo' := p5.heap.size) r9 leA; replace s9 := Row.more (lo' := p5.heap.size) s9 leA; have lim_r9 := Row.lim r9; have lim_s9 := Row.lim s9; have HV := Lib.hid hv; have AP := Lib.hid ap; clear hv ap; obtain ⟨q_x_0, q_x_1, q_x_2, f_x_0, f_x_1, f_x_2, q_x⟩ := B_x.all3; obtain ⟨q_y_0, q_y_1, q_y_2, f_y_0, f_y_1, f_y_2, q_y⟩ := B_y.all3; obtain ⟨q_r_0, q_r_1, q_r_2, f_r_0, f_r_1, f_r_2, q_r⟩ := B_r.all3))
  go_wp2
  refine bodyPost_ret (v := .agg #[.bool (sgnZ z9), .slice A9 (len (magZ z9)) c9, .slice D9 (len d9) e9]) (by simp [results, Try.results39, go_sem, q_r_0, q_r_1, q_r_2]) rfl ⟨⟨z9, d9, A9, c9, D9, e9, HC.out.trans HV.out, rfl, ?_, ?_, AP.out⟩, ?_⟩
  · refine Row.more (lo := p5.heap.size) ?_ leA
    repeat' (first | exact r9 | refine Row.far_set ?_ (by first | (simp <;> done) | (simp; omega) | omega) _)
  · refine Row.more (lo := p5.heap.size) ?_ leA
    repeat' (first | exact s9 | refine Row.far_set ?_ (by first | (simp <;> done) | (simp; omega) | omega) _)
  · exact Below.trans (b := w5) O oldA
set_option maxRecDepth 100000 in
set_option maxHeartbeats 1000000 in
theorem ratMul_no1 (z1 : Int) (d1 : Nat) (A1 D1 : Option Addr) (c1 e1 l1 m1 : Nat) (z2 : Int) (d2 : Nat) (A2 D2 : Option Addr) (c2 e2 l2 m2 : Nat) (w : World) (h1 : NatS w l1 A1 c1 (magZ z1)) (k1 : NatS w m1 D1 e1 d1) (n1 : normF (z1, d1)) (h2 : NatS w l2 A2 c2 (magZ z2)) (k2 : NatS w m2 D2 e2 d2) (n2 : normF (z2, d2)) (p1 : ¬ 0 < d1) :
    Calls Try.prog 39 #[.agg #[.bool (sgnZ z1), .slice A1 (len (magZ z1)) c1, .slice D1 (len d1) e1], .agg #[.bool (sgnZ z2), .slice A2 (len (magZ z2)) c2, .slice D2 (len d2) e2]] w fun e w' => RetR e w' w.heap.size (0, 0) ∧ Old w w' := by
  have N1 := Lib.hid n1
  have LN1 := norm_len n1
  have La1 : len (magZ z1) ≤ 24 := LN1.1
  have Lb1 : len d1 ≤ 24 := LN1.2
  clear n1 LN1
  have N2 := Lib.hid n2
  have LN2 := norm_len n2
  have La2 : len (magZ z2) ≤ 24 := LN2.1
  have Lb2 : len d2 ≤ 24 := LN2.2
  clear n2 LN2
  have P1 := Lib.hid p1
  clear p1
  have O : Old w (((w.alloc (.cells #[.bool (sgnZ z1), .slice A1 (len (magZ z1)) c1, .slice D1 (len d1) e1] 32)).alloc (.cells #[.bool (sgnZ z2), .slice A2 (len (magZ z2)) c2, .slice D2 (len d2) e2] 32)).alloc (.cells #[.bool false, .slice none 0 0, .slice none 0 0] 32)) := oldA
  have B_x : Bx (((w.alloc (.cells #[.bool (sgnZ z1), .slice A1 (len (magZ z1)) c1, .slice D1 (len d1) e1] 32)).alloc (.cells #[.bool (sgnZ z2), .slice A2 (len (magZ z2)) c2, .slice D2 (len d2) e2] 32)).alloc (.cells #[.bool false, .slice none 0 0, .slice none 0 0] 32)) (w.heap.size) #[.bool (sgnZ z1), .slice A1 (len (magZ z1)) c1, .slice D1 (len d1) e1] := by have h := (Bx.alloc (Bx.alloc (Bx.new w #[.bool (sgnZ z1), .slice A1 (len (magZ z1)) c1, .slice D1 (len d1) e1] 32) (.cells #[.bool (sgnZ z2), .slice A2 (len (magZ z2)) c2, .slice D2 (len d2) e2] 32)) (.cells #[.bool false, .slice none 0 0, .slice none 0 0] 32)); simpa using h
  have B_y : Bx (((w.alloc (.cells #[.bool (sgnZ z1), .slice A1 (len (magZ z1)) c1, .slice D1 (len d1) e1] 32)).alloc (.cells #[.bool (sgnZ z2), .slice A2 (len (magZ z2)) c2, .slice D2 (len d2) e2] 32)).alloc (.cells #[.bool false, .slice none 0 0, .slice none 0 0] 32)) (w.heap.size + 1) #[.bool (sgnZ z2), .slice A2 (len (magZ z2)) c2, .slice D2 (len d2) e2] := by have h := (Bx.alloc (Bx.new (w.alloc (.cells #[.bool (sgnZ z1), .slice A1 (len (magZ z1)) c1, .slice D1 (len d1) e1] 32)) #[.bool (sgnZ z2), .slice A2 (len (magZ z2)) c2, .slice D2 (len d2) e2] 32) (.cells #[.bool false, .slice none 0 0, .slice none 0 0] 32)); simpa using h
  have B_r : Bx (((w.alloc (.cells #[.bool (sgnZ z1), .slice A1 (len (magZ z1)) c1, .slice D1 (len d1) e1] 32)).alloc (.cells #[.bool (sgnZ z2), .slice A2 (len (magZ z2)) c2, .slice D2 (len d2) e2] 32)).alloc (.cells #[.bool false, .slice none 0 0, .slice none 0 0] 32)) (w.heap.size + 1 + 1) #[.bool false, .slice none 0 0, .slice none 0 0] := by have h := (Bx.new ((w.alloc (.cells #[.bool (sgnZ z1), .slice A1 (len (magZ z1)) c1, .slice D1 (len d1) e1] 32)).alloc (.cells #[.bool (sgnZ z2), .slice A2 (len (magZ z2)) c2, .slice D2 (len d2) e2] 32)) #[.bool false, .slice none 0 0, .slice none 0 0] 32); simpa using h
  have ne_0_1 : ¬ (w.heap.size = w.heap.size + 1) := by omega
  have ne_0_2 : ¬ (w.heap.size = w.heap.size + 1 + 1) := by omega
  have ne_1_0 : ¬ (w.heap.size + 1 = w.heap.size) := by omega
  have ne_1_2 : ¬ (w.heap.size + 1 = w.heap.size + 1 + 1) := by omega
  have ne_2_0 : ¬ (w.heap.size + 1 + 1 = w.heap.size) := by omega
  have ne_2_1 : ¬ (w.heap.size + 1 + 1 = w.heap.size + 1) := by omega
  have ze : w.heap.size + 3 ≤ (((w.alloc (.cells #[.bool (sgnZ z1), .slice A1 (len (magZ z1)) c1, .slice D1 (len d1) e1] 32)).alloc (.cells #[.bool (sgnZ z2), .slice A2 (len (magZ z2)) c2, .slice D2 (len d2) e2] 32)).alloc (.cells #[.bool false, .slice none 0 0, .slice none 0 0] 32)).heap.size := (by simp)
  go_enter Try.func39, Try.ntmps39
  go_wp2_with fail
  refine callsNamed ?_
  intro p1 hp
  have O' : Old w p1 := (by rw [hp]; exact Below.trans (b := (((w.alloc (.cells #[.bool (sgnZ z1), .slice A1 (len (magZ z1)) c1, .slice D1 (len d1) e1] 32)).alloc (.cells #[.bool (sgnZ z2), .slice A2 (len (magZ z2)) c2, .slice D2 (len d2) e2] 32)).alloc (.cells #[.bool false, .slice none 0 0, .slice none 0 0] 32))) O oldA)
  replace B_x : Bx p1 (w.heap.size) #[.bool (sgnZ z1), .slice A1 (len (magZ z1)) c1, .slice D1 (len d1) e1] := (bxK B_x hp)
  replace B_y : Bx p1 (w.heap.size + 1) #[.bool (sgnZ z2), .slice A2 (len (magZ z2)) c2, .slice D2 (len d2) e2] := (bxK B_y hp)
  replace B_r : Bx p1 (w.heap.size + 1 + 1) #[.bool false, .slice none 0 0, .slice none 0 0] := (bxK B_r hp)
  have zp1 : (((w.alloc (.cells #[.bool (sgnZ z1), .slice A1 (len (magZ z1)) c1, .slice D1 (len d1) e1] 32)).alloc (.cells #[.bool (sgnZ z2), .slice A2 (len (magZ z2)) c2, .slice D2 (len d2) e2] 32)).alloc (.cells #[.bool false, .slice none 0 0, .slice none 0 0] 32)).heap.size ≤ p1.heap.size := (by rw [hp]; exact leA)
  clear hp O
  have O := O'
  clear O'
  refine (isGood_no (sgnZ z1) A1 D1 (len (magZ z1)) c1 d1 e1 _ P1.out).mono ?_
  rintro e w1 ⟨rfl, o1⟩
  replace B_x := Bx.old B_x o1
  replace B_y := Bx.old B_y o1
  replace B_r := Bx.old B_r o1
  replace O := Old.trans O o1
  have zw1 := o1.size
  obtain ⟨q_x_0, q_x_1, q_x_2, f_x_0, f_x_1, f_x_2, q_x⟩ := B_x.all3
  obtain ⟨q_y_0, q_y_1, q_y_2, f_y_0, f_y_1, f_y_2, q_y⟩ := B_y.all3
  obtain ⟨q_r_0, q_r_1, q_r_2, f_r_0, f_r_1, f_r_2, q_r⟩ := B_r.all3
  go_wp2
  refine bodyPost_ret (v := .agg #[.bool false, .slice none 0 0, .slice none 0 0]) (by simp [results, Try.results39, go_sem, q_r_0, q_r_1, q_r_2]) rfl ⟨RetR.zero rfl, Below.trans (b := w1) O oldA⟩
set_option maxRecDepth 100000 in
set_option maxHeartbeats 1000000 in
theorem ratMul_no2 (z1 : Int) (d1 : Nat) (A1 D1 : Option Addr) (c1 e1 l1 m1 : Nat) (z2 : Int) (d2 : Nat) (A2 D2 : Option Addr) (c2 e2 l2 m2 : Nat) (w : World) (h1 : NatS w l1 A1 c1 (magZ z1)) (k1 : NatS w m1 D1 e1 d1) (n1 : normF (z1, d1)) (h2 : NatS w l2 A2 c2 (magZ z2)) (k2 : NatS w m2 D2 e2 d2) (n2 : normF (z2, d2)) (p1 : 0 < d1) (p2 : ¬ 0 < d2) :
    Calls Try.prog 39 #[.agg #[.bool (sgnZ z1), .slice A1 (len (magZ z1)) c1, .slice D1 (len d1) e1], .agg #[.bool (sgnZ z2), .slice A2 (len (magZ z2)) c2, .slice D2 (len d2) e2]] w fun e w' => RetR e w' w.heap.size (0, 0) ∧ Old w w' := by
  have N1 := Lib.hid n1
  have LN1 := norm_len n1
  have La1 : len (magZ z1) ≤ 24 := LN1.1
  have Lb1 : len d1 ≤ 24 := LN1.2
  clear n1 LN1
  have N2 := Lib.hid n2
  have LN2 := norm_len n2
  have La2 : len (magZ z2) ≤ 24 := LN2.1
  have Lb2 : len d2 ≤ 24 := LN2.2
  clear n2 LN2
  have P1 := Lib.hid p1
  have P2 := Lib.hid p2
  clear p1 p2
  have O : Old w (((w.alloc (.cells #[.bool (sgnZ z1), .slice A1 (len (magZ z1)) c1, .slice D1 (len d1) e1] 32)).alloc (.cells #[.bool (sgnZ z2), .slice A2 (len (magZ z2)) c2, .slice D2 (len d2) e2] 32)).alloc (.cells #[.bool false, .slice none 0 0, .slice none 0 0] 32)) := oldA
  have B_x : Bx (((w.alloc (.cells #[.bool (sgnZ z1), .slice A1 (len (magZ z1)) c1, .slice D1 (len d1) e1] 32)).alloc (.cells #[.bool (sgnZ z2), .slice A2 (len (magZ z2)) c2, .slice D2 (len d2) e2] 32)).alloc (.cells #[.bool false, .slice none 0 0, .slice none 0 0] 32)) (w.heap.size) #[.bool (sgnZ z1), .slice A1 (len (magZ z1)) c1, .slice D1 (len d1) e1] := by have h := (Bx.alloc (Bx.alloc (Bx.new w #[.bool (sgnZ z1), .slice A1 (len (magZ z1)) c1, .slice D1 (len d1) e1] 32) (.cells #[.bool (sgnZ z2), .slice A2 (len (magZ z2)) c2, .slice D2 (len d2) e2] 32)) (.cells #[.bool false, .slice none 0 0, .slice none 0 0] 32)); simpa using h
  have B_y : Bx (((w.alloc (.cells #[.bool (sgnZ z1), .slice A1 (len (magZ z1)) c1, .slice D1 (len d1) e1] 32)).alloc (.cells #[.bool (sgnZ z2), .slice A2 (len (magZ z2)) c2, .slice D2 (len d2) e2] 32)).alloc (.cells #[.bool false, .slice none 0 0, .slice none 0 0] 32)) (w.heap.size + 1) #[.bool (sgnZ z2), .slice A2 (len (magZ z2)) c2, .slice D2 (len d2) e2] := by have h := (Bx.alloc (Bx.new (w.alloc (.cells #[.bool (sgnZ z1), .slice A1 (len (magZ z1)) c1, .slice D1 (len d1) e1] 32)) #[.bool (sgnZ z2), .slice A2 (len (magZ z2)) c2, .slice D2 (len d2) e2] 32) (.cells #[.bool false, .slice none 0 0, .slice none 0 0] 32)); simpa using h
  have B_r : Bx (((w.alloc (.cells #[.bool (sgnZ z1), .slice A1 (len (magZ z1)) c1, .slice D1 (len d1) e1] 32)).alloc (.cells #[.bool (sgnZ z2), .slice A2 (len (magZ z2)) c2, .slice D2 (len d2) e2] 32)).alloc (.cells #[.bool false, .slice none 0 0, .slice none 0 0] 32)) (w.heap.size + 1 + 1) #[.bool false, .slice none 0 0, .slice none 0 0] := by have h := (Bx.new ((w.alloc (.cells #[.bool (sgnZ z1), .slice A1 (len (magZ z1)) c1, .slice D1 (len d1) e1] 32)).alloc (.cells #[.bool (sgnZ z2), .slice A2 (len (magZ z2)) c2, .slice D2 (len d2) e2] 32)) #[.bool false, .slice none 0 0, .slice none 0 0] 32); simpa using h
  have ne_0_1 : ¬ (w.heap.size = w.heap.size + 1) := by omega
  have ne_0_2 : ¬ (w.heap.size = w.heap.size + 1 + 1) := by omega
  have ne_1_0 : ¬ (w.heap.size + 1 = w.heap.size) := by omega
  have ne_1_2 : ¬ (w.heap.size + 1 = w.heap.size + 1 + 1) := by omega
  have ne_2_0 : ¬ (w.heap.size + 1 + 1 = w.heap.size) := by omega
  have ne_2_1 : ¬ (w.heap.size + 1 + 1 = w.heap.size + 1) := by omega
  have ze : w.heap.size + 3 ≤ (((w.alloc (.cells #[.bool (sgnZ z1), .slice A1 (len (magZ z1)) c1, .slice D1 (len d1) e1] 32)).alloc (.cells #[.bool (sgnZ z2), .slice A2 (len (magZ z2)) c2, .slice D2 (len d2) e2] 32)).alloc (.cells #[.bool false, .slice none 0 0, .slice none 0 0] 32)).heap.size := (by simp)
  go_enter Try.func39, Try.ntmps39
  go_wp2_with fail
  refine callsNamed ?_
  intro p1 hp
  have O' : Old w p1 := (by rw [hp]; exact Below.trans (b := (((w.alloc (.cells #[.bool (sgnZ z1), .slice A1 (len (magZ z1)) c1, .slice D1 (len d1) e1] 32)).alloc (.cells #[.bool (sgnZ z2), .slice A2 (len (magZ z2)) c2, .slice D2 (len d2) e2] 32)).alloc (.cells #[.bool false, .slice none 0 0, .slice none 0 0] 32))) O oldA)
  replace B_x : Bx p1 (w.heap.size) #[.bool (sgnZ z1), .slice A1 (len (magZ z1)) c1, .slice D1 (len d1) e1] := (bxK B_x hp)
  replace B_y : Bx p1 (w.heap.size + 1) #[.bool (sgnZ z2), .slice A2 (len (magZ z2)) c2, .slice D2 (len d2) e2] := (bxK B_y hp)
  replace B_r : Bx p1 (w.heap.size + 1 + 1) #[.bool false, .slice none 0 0, .slice none 0 0] := (bxK B_r hp)
  have zp1 : (((w.alloc (.cells #[.bool (sgnZ z1), .slice A1 (len (magZ z1)) c1, .slice D1 (len d1) e1] 32)).alloc (.cells #[.bool (sgnZ z2), .slice A2 (len (magZ z2)) c2, .slice D2 (len d2) e2] 32)).alloc (.cells #[.bool false, .slice none 0 0, .slice none 0 0] 32)).heap.size ≤ p1.heap.size := (by rw [hp]; exact leA)
  clear hp O
  have O := O'
  clear O'
  refine (isGood_yes (sgnZ z1) A1 D1 (len (magZ z1)) c1 d1 e1 _ P1.out).mono ?_
  rintro e w1 ⟨rfl, o1⟩
  replace B_x := Bx.old B_x o1
  replace B_y := Bx.old B_y o1
  replace B_r := Bx.old B_r o1
  replace O := Old.trans O o1
  have zw1 := o1.size
  obtain ⟨q_x_0, q_x_1, q_x_2, f_x_0, f_x_1, f_x_2, q_x⟩ := B_x.all3
  obtain ⟨q_y_0, q_y_1, q_y_2, f_y_0, f_y_1, f_y_2, q_y⟩ := B_y.all3
  obtain ⟨q_r_0, q_r_1, q_r_2, f_r_0, f_r_1, f_r_2, q_r⟩ := B_r.all3
  go_wp2_with fail
  refine callsNamed ?_
  intro p2 hp
  clear q_x_0 q_x_1 q_x_2 f_x_0 f_x_1 f_x_2 q_x q_y_0 q_y_1 q_y_2 f_y_0 f_y_1 f_y_2 q_y q_r_0 q_r_1 q_r_2 f_r_0 f_r_1 f_r_2 q_r
  have O' : Old w p2 := (by rw [hp]; exact Below.trans (b := w1) O oldA)
  replace B_x : Bx p2 (w.heap.size) #[.bool (sgnZ z1), .slice A1 (len (magZ z1)) c1, .slice D1 (len d1) e1] := (bxK B_x hp)
  replace B_y : Bx p2 (w.heap.size + 1) #[.bool (sgnZ z2), .slice A2 (len (magZ z2)) c2, .slice D2 (len d2) e2] := (bxK B_y hp)
  replace B_r : Bx p2 (w.heap.size + 1 + 1) #[.bool false, .slice none 0 0, .slice none 0 0] := (bxK B_r hp)
  have zp2 : w1.heap.size ≤ p2.heap.size := (by rw [hp]; exact leA)
  clear hp O
  have O := O'
  clear O'
  refine (isGood_no (sgnZ z2) A2 D2 (len (magZ z2)) c2 d2 e2 _ P2.out).mono ?_
  rintro e w2 ⟨rfl, o2⟩
  replace B_x := Bx.old B_x o2
  replace B_y := Bx.old B_y o2
  replace B_r := Bx.old B_r o2
  replace O := Old.trans O o2
  have zw2 := o2.size
  obtain ⟨q_x_0, q_x_1, q_x_2, f_x_0, f_x_1, f_x_2, q_x⟩ := B_x.all3
  obtain ⟨q_y_0, q_y_1, q_y_2, f_y_0, f_y_1, f_y_2, q_y⟩ := B_y.all3
  obtain ⟨q_r_0, q_r_1, q_r_2, f_r_0, f_r_1, f_r_2, q_r⟩ := B_r.all3
  go_wp2
  refine bodyPost_ret (v := .agg #[.bool false, .slice none 0 0, .slice none 0 0]) (by simp [results, Try.results39, go_sem, q_r_0, q_r_1, q_r_2]) rfl ⟨RetR.zero rfl, Below.trans (b := w2) O oldA⟩
theorem ratMul_any (z1 : Int) (d1 : Nat) (A1 D1 : Option Addr) (c1 e1 l1 m1 : Nat) (z2 : Int) (d2 : Nat) (A2 D2 : Option Addr) (c2 e2 l2 m2 : Nat) (w : World) (h1 : NatS w l1 A1 c1 (magZ z1)) (k1 : NatS w m1 D1 e1 d1) (n1 : normF (z1, d1)) (h2 : NatS w l2 A2 c2 (magZ z2)) (k2 : NatS w m2 D2 e2 d2) (n2 : normF (z2, d2)) :
    Calls Try.prog 39 #[.agg #[.bool (sgnZ z1), .slice A1 (len (magZ z1)) c1, .slice D1 (len d1) e1], .agg #[.bool (sgnZ z2), .slice A2 (len (magZ z2)) c2, .slice D2 (len d2) e2]] w fun e w' => RetR e w' w.heap.size (mulF (z1, d1) (z2, d2)) ∧ Old w w' := by
  by_cases p1 : 0 < d1
  · by_cases p2 : 0 < d2
    · exact ratMul_yes z1 d1 A1 D1 c1 e1 l1 m1 z2 d2 A2 D2 c2 e2 l2 m2 w h1 k1 n1 h2 k2 n2 p1 p2
    · rw [mulF_no2 (by show d2 = 0; omega)]; exact ratMul_no2 z1 d1 A1 D1 c1 e1 l1 m1 z2 d2 A2 D2 c2 e2 l2 m2 w h1 k1 n1 h2 k2 n2 p1 p2
  · rw [mulF_no1 (by show d1 = 0; omega)]; exact ratMul_no1 z1 d1 A1 D1 c1 e1 l1 m1 z2 d2 A2 D2 c2 e2 l2 m2 w h1 k1 n1 h2 k2 n2 p1
end Go.Proofs.Ytgchbbjhdeobpaa
