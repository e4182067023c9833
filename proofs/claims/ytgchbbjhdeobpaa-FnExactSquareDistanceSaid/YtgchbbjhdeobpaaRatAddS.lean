import Derived.Test.YtgchbbjhdeobpaaRatMake
import Derived.Test.YtgchbbjhdeobpaaRatFacts
/-
  The reference's functions on fractions inside.
-/
namespace Go.Proofs.Ytgchbbjhdeobpaa
set_option linter.unusedVariables false
open Go.RowKit Num
attribute [local go_sem ↓] Go.wp_at_zero Go.wp_at_succ
set_option maxRecDepth 100000 in
set_option maxHeartbeats 1000000 in
theorem l04Add_one (z1 : Int) (d1 : Nat) (A1 D1 : Option Addr) (c1 e1 l1 m1 : Nat) (z2 : Int) (d2 : Nat) (A2 D2 : Option Addr) (c2 e2 l2 m2 : Nat) (w : World) (h1 : NatS w l1 A1 c1 (magZ z1)) (k1 : NatS w m1 D1 e1 d1) (n1 : normF (z1, d1)) (h2 : NatS w l2 A2 c2 (magZ z2)) (k2 : NatS w m2 D2 e2 d2) (n2 : normF (z2, d2)) (o1 : d1 = 1) (o2 : d2 = 1) :
    Calls Try.prog 29 #[.agg #[.bool (sgnZ z1), .slice A1 (len (magZ z1)) c1, .slice D1 (len d1) e1], .agg #[.bool (sgnZ z2), .slice A2 (len (magZ z2)) c2, .slice D2 (len d2) e2]] w fun e w' => RetR e w' w.heap.size (addF (z1, d1) (z2, d2)) ∧ Old w w' := by
  have N1 := Lib.hid n1
  have LN1 := norm_len n1
  have La1 : len (magZ z1) ≤ 24 := LN1.1
  have Lb1 : len d1 ≤ 24 := LN1.2
  clear n1 LN1
  have N2 := Lib.hid n2
  have LN2 := norm_len n2
  have La2 : len (magZ z2) ≤ 24 := LN2.1
  have Lb2 : len d2 ≤ 24 := LN2.2
  clear n2 LN2
  obtain ⟨S, hS⟩ : ∃ S, S = z1 + z2 := ⟨_, rfl⟩
  have HS := Lib.hid hS.symm
  have LS : len (magZ S) ≤ 49 := by rw [hS]; exact add_fit (by omega) (by omega)
  have HC : Hid (addF (z1, d1) (z2, d2) = mkF (signed (sgnZ S) (magZ S)) 1) := Lib.hid (by
    rw [signed_mag, hS, o1, o2]
    show mkF (z1 * ((1 : Nat) : Int) + z2 * ((1 : Nat) : Int)) (1 * 1) = mkF (z1 + z2) 1
    rw [Int.natCast_one, Int.mul_one, Int.mul_one, Nat.mul_one])
  have P1 := Lib.hid o1
  have P2 := Lib.hid o2
  clear hS o1 o2
  have O : Old w (((w.alloc (.cells #[.bool (sgnZ z1), .slice A1 (len (magZ z1)) c1, .slice D1 (len d1) e1] 32)).alloc (.cells #[.bool (sgnZ z2), .slice A2 (len (magZ z2)) c2, .slice D2 (len d2) e2] 32)).alloc (.cells #[.bool false, .slice none 0 0, .slice none 0 0] 32)) := oldA
  have B_x : Bx (((w.alloc (.cells #[.bool (sgnZ z1), .slice A1 (len (magZ z1)) c1, .slice D1 (len d1) e1] 32)).alloc (.cells #[.bool (sgnZ z2), .slice A2 (len (magZ z2)) c2, .slice D2 (len d2) e2] 32)).alloc (.cells #[.bool false, .slice none 0 0, .slice none 0 0] 32)) (w.heap.size) #[.bool (sgnZ z1), .slice A1 (len (magZ z1)) c1, .slice D1 (len d1) e1] := by have h := (Bx.alloc (Bx.alloc (Bx.new w #[.bool (sgnZ z1), .slice A1 (len (magZ z1)) c1, .slice D1 (len d1) e1] 32) (.cells #[.bool (sgnZ z2), .slice A2 (len (magZ z2)) c2, .slice D2 (len d2) e2] 32)) (.cells #[.bool false, .slice none 0 0, .slice none 0 0] 32)); simpa using h
  have B_y : Bx (((w.alloc (.cells #[.bool (sgnZ z1), .slice A1 (len (magZ z1)) c1, .slice D1 (len d1) e1] 32)).alloc (.cells #[.bool (sgnZ z2), .slice A2 (len (magZ z2)) c2, .slice D2 (len d2) e2] 32)).alloc (.cells #[.bool false, .slice none 0 0, .slice none 0 0] 32)) (w.heap.size + 1) #[.bool (sgnZ z2), .slice A2 (len (magZ z2)) c2, .slice D2 (len d2) e2] := by have h := (Bx.alloc (Bx.new (w.alloc (.cells #[.bool (sgnZ z1), .slice A1 (len (magZ z1)) c1, .slice D1 (len d1) e1] 32)) #[.bool (sgnZ z2), .slice A2 (len (magZ z2)) c2, .slice D2 (len d2) e2] 32) (.cells #[.bool false, .slice none 0 0, .slice none 0 0] 32)); simpa using h
  have B_r : Bx (((w.alloc (.cells #[.bool (sgnZ z1), .slice A1 (len (magZ z1)) c1, .slice D1 (len d1) e1] 32)).alloc (.cells #[.bool (sgnZ z2), .slice A2 (len (magZ z2)) c2, .slice D2 (len d2) e2] 32)).alloc (.cells #[.bool false, .slice none 0 0, .slice none 0 0] 32)) (w.heap.size + 1 + 1) #[.bool false, .slice none 0 0, .slice none 0 0] := by have h := (Bx.new ((w.alloc (.cells #[.bool (sgnZ z1), .slice A1 (len (magZ z1)) c1, .slice D1 (len d1) e1] 32)).alloc (.cells #[.bool (sgnZ z2), .slice A2 (len (magZ z2)) c2, .slice D2 (len d2) e2] 32)) #[.bool false, .slice none 0 0, .slice none 0 0] 32); simpa using h
  have ne_0_1 : ¬ (w.heap.size = w.heap.size + 1) := by omega
  have ne_0_2 : ¬ (w.heap.size = w.heap.size + 1 + 1) := by omega
  have ne_1_0 : ¬ (w.heap.size + 1 = w.heap.size) := by omega
  have ne_1_2 : ¬ (w.heap.size + 1 = w.heap.size + 1 + 1) := by omega
  have ne_2_0 : ¬ (w.heap.size + 1 + 1 = w.heap.size) := by omega
  have ne_2_1 : ¬ (w.heap.size + 1 + 1 = w.heap.size + 1) := by omega
  have ze : w.heap.size + 3 ≤ (((w.alloc (.cells #[.bool (sgnZ z1), .slice A1 (len (magZ z1)) c1, .slice D1 (len d1) e1] 32)).alloc (.cells #[.bool (sgnZ z2), .slice A2 (len (magZ z2)) c2, .slice D2 (len d2) e2] 32)).alloc (.cells #[.bool false, .slice none 0 0, .slice none 0 0] 32)).heap.size := (by simp)
  go_enter Try.func29, Try.ntmps29
  go_wp2_with fail
  refine callsNamed ?_
  intro p1 hp
  have O' : Old w p1 := (by rw [hp]; exact Below.trans (b := (((w.alloc (.cells #[.bool (sgnZ z1), .slice A1 (len (magZ z1)) c1, .slice D1 (len d1) e1] 32)).alloc (.cells #[.bool (sgnZ z2), .slice A2 (len (magZ z2)) c2, .slice D2 (len d2) e2] 32)).alloc (.cells #[.bool false, .slice none 0 0, .slice none 0 0] 32))) O oldA)
  replace B_x : Bx p1 (w.heap.size) #[.bool (sgnZ z1), .slice A1 (len (magZ z1)) c1, .slice D1 (len d1) e1] := (bxK B_x hp)
  replace B_y : Bx p1 (w.heap.size + 1) #[.bool (sgnZ z2), .slice A2 (len (magZ z2)) c2, .slice D2 (len d2) e2] := (bxK B_y hp)
  replace B_r : Bx p1 (w.heap.size + 1 + 1) #[.bool false, .slice none 0 0, .slice none 0 0] := (bxK B_r hp)
  have zp1 : (((w.alloc (.cells #[.bool (sgnZ z1), .slice A1 (len (magZ z1)) c1, .slice D1 (len d1) e1] 32)).alloc (.cells #[.bool (sgnZ z2), .slice A2 (len (magZ z2)) c2, .slice D2 (len d2) e2] 32)).alloc (.cells #[.bool false, .slice none 0 0, .slice none 0 0] 32)).heap.size ≤ p1.heap.size := (by rw [hp]; exact leA)
  clear hp O
  have O := O'
  clear O'
  refine (plain_to (by rw [decide_eq_true P1.out]) (l04One_any D1 e1 d1 m1 _ (Row.below (B := w.heap.size) k1 O (Nat.le_refl _)))).mono ?_
  rintro e w1 ⟨rfl, o1⟩
  replace B_x := Bx.old B_x o1
  replace B_y := Bx.old B_y o1
  replace B_r := Bx.old B_r o1
  replace O := Old.trans O o1
  have zw1 := o1.size
  obtain ⟨q_x_0, q_x_1, q_x_2, f_x_0, f_x_1, f_x_2, q_x⟩ := B_x.all3
  obtain ⟨q_y_0, q_y_1, q_y_2, f_y_0, f_y_1, f_y_2, q_y⟩ := B_y.all3
  obtain ⟨q_r_0, q_r_1, q_r_2, f_r_0, f_r_1, f_r_2, q_r⟩ := B_r.all3
  go_wp2_with fail
  refine callsNamed ?_
  intro p2 hp
  clear q_x_0 q_x_1 q_x_2 f_x_0 f_x_1 f_x_2 q_x q_y_0 q_y_1 q_y_2 f_y_0 f_y_1 f_y_2 q_y q_r_0 q_r_1 q_r_2 f_r_0 f_r_1 f_r_2 q_r
  have O' : Old w p2 := (by rw [hp]; exact Below.trans (b := w1) O oldA)
  replace B_x : Bx p2 (w.heap.size) #[.bool (sgnZ z1), .slice A1 (len (magZ z1)) c1, .slice D1 (len d1) e1] := (bxK B_x hp)
  replace B_y : Bx p2 (w.heap.size + 1) #[.bool (sgnZ z2), .slice A2 (len (magZ z2)) c2, .slice D2 (len d2) e2] := (bxK B_y hp)
  replace B_r : Bx p2 (w.heap.size + 1 + 1) #[.bool false, .slice none 0 0, .slice none 0 0] := (bxK B_r hp)
  have zp2 : w1.heap.size ≤ p2.heap.size := (by rw [hp]; exact leA)
  clear hp O
  have O := O'
  clear O'
  refine (plain_to (by rw [decide_eq_true P2.out]) (l04One_any D2 e2 d2 m2 _ (Row.below (B := w.heap.size) k2 O (Nat.le_refl _)))).mono ?_
  rintro e w2 ⟨rfl, o2⟩
  replace B_x := Bx.old B_x o2
  replace B_y := Bx.old B_y o2
  replace B_r := Bx.old B_r o2
  replace O := Old.trans O o2
  have zw2 := o2.size
  obtain ⟨q_x_0, q_x_1, q_x_2, f_x_0, f_x_1, f_x_2, q_x⟩ := B_x.all3
  obtain ⟨q_y_0, q_y_1, q_y_2, f_y_0, f_y_1, f_y_2, q_y⟩ := B_y.all3
  obtain ⟨q_r_0, q_r_1, q_r_2, f_r_0, f_r_1, f_r_2, q_r⟩ := B_r.all3
  go_upto_region 2 with fail
  go_cut [5] (fun sl wx => ∃ (g : Nat) (A7 : Option Addr) (c7 : Nat), sl = .pointer (some ⟨g, 0, none⟩) ∧ w2.heap.size ≤ g ∧ Bx wx g #[.bool (sgnZ S), .slice A7 (len (magZ S)) c7] ∧ Row wx w2.heap.size A7 (len (magZ S)) c7 (digI (magZ S)) ∧ Old w2 wx)
  case first =>
    have OP : Old w2 w2 := Old.refl _
    go_wp2_with fail
    refine callsNamed ?_
    intro p3 hp
    clear q_x_0 q_x_1 q_x_2 f_x_0 f_x_1 f_x_2 q_x q_y_0 q_y_1 q_y_2 f_y_0 f_y_1 f_y_2 q_y q_r_0 q_r_1 q_r_2 f_r_0 f_r_1 f_r_2 q_r
    have O' : Old w p3 := (by rw [hp]; exact Below.trans (b := w2) O oldA)
    replace B_x : Bx p3 (w.heap.size) #[.bool (sgnZ z1), .slice A1 (len (magZ z1)) c1, .slice D1 (len d1) e1] := (bxK B_x hp)
    replace B_y : Bx p3 (w.heap.size + 1) #[.bool (sgnZ z2), .slice A2 (len (magZ z2)) c2, .slice D2 (len d2) e2] := (bxK B_y hp)
    replace B_r : Bx p3 (w.heap.size + 1 + 1) #[.bool false, .slice none 0 0, .slice none 0 0] := (bxK B_r hp)
    replace OP : Old w2 p3 := (by rw [hp]; exact Below.trans (b := w2) OP oldA)
    have zp3 : w2.heap.size ≤ p3.heap.size := (by rw [hp]; exact leA)
    clear hp O
    have O := O'
    clear O'
    refine (retB_to HS.out (l03Add_fit z1 z2 A1 A2 c1 c2 l1 l2 _ (Row.below (B := w.heap.size) h1 O (Nat.le_refl _)) (Row.below (B := w.heap.size) h2 O (Nat.le_refl _)) (by omega) (by omega))).mono ?_
    rintro e w3 ⟨⟨A7, c7, rfl, r7⟩, o3⟩
    replace B_x := Bx.old B_x o3
    replace B_y := Bx.old B_y o3
    replace B_r := Bx.old B_r o3
    replace O := Old.trans O o3
    replace OP := Old.trans OP o3
    have zw3 := o3.size
    replace r7 := Row.more (lo' := p3.heap.size) r7 leA
    have lim_r7 := Row.lim r7
    obtain ⟨q_x_0, q_x_1, q_x_2, f_x_0, f_x_1, f_x_2, q_x⟩ := B_x.all3
    obtain ⟨q_y_0, q_y_1, q_y_2, f_y_0, f_y_1, f_y_2, q_y⟩ := B_y.all3
    obtain ⟨q_r_0, q_r_1, q_r_2, f_r_0, f_r_1, f_r_2, q_r⟩ := B_r.all3
    go_wp2_with fail
    go_meet
    exact ⟨_, A7, c7, rfl, leA, (by first | exact Bx.new _ _ _ | exact Bx.put2 (Bx.new _ _ _) _ _ | exact Bx.put2 (Bx.drew (Bx.new _ _ _)) _ _), (by refine Row.more (lo := p3.heap.size) ?_ leA; first | exact (Row.far_set (Row.far_set r7 (by first | (simp <;> done) | (simp; omega) | omega) _) (by first | (simp <;> done) | (simp; omega) | omega) _) | exact Row.below (B := w3.heap.size) r7 oldA (Nat.le_refl _)), Below.trans (b := w3) OP oldA⟩
  case rest =>
  obtain ⟨g_n, A7, c7, rfl, hg_n, B_n, r7, o4⟩ := hcut
  obtain ⟨w4, hw⟩ : ∃ x, x = wc := ⟨_, rfl⟩
  subst hw
  clear q_x_0 q_x_1 q_x_2 f_x_0 f_x_1 f_x_2 q_x q_y_0 q_y_1 q_y_2 f_y_0 f_y_1 f_y_2 q_y q_r_0 q_r_1 q_r_2 f_r_0 f_r_1 f_r_2 q_r
  replace B_x := Bx.old B_x o4
  replace B_y := Bx.old B_y o4
  replace B_r := Bx.old B_r o4
  replace O := Old.trans O o4
  have zw4 := o4.size
  have lt_n := B_n.lt
  have ne_n_x : ¬ (g_n = w.heap.size) := by omega
  have en_n_x : ¬ (w.heap.size = g_n) := by omega
  have ne_n_y : ¬ (g_n = w.heap.size + 1) := by omega
  have en_n_y : ¬ (w.heap.size + 1 = g_n) := by omega
  have ne_n_r : ¬ (g_n = w.heap.size + 1 + 1) := by omega
  have en_n_r : ¬ (w.heap.size + 1 + 1 = g_n) := by omega
  have lim_r7 := Row.lim r7
  obtain ⟨q_x_0, q_x_1, q_x_2, f_x_0, f_x_1, f_x_2, q_x⟩ := B_x.all3
  obtain ⟨q_y_0, q_y_1, q_y_2, f_y_0, f_y_1, f_y_2, q_y⟩ := B_y.all3
  obtain ⟨q_r_0, q_r_1, q_r_2, f_r_0, f_r_1, f_r_2, q_r⟩ := B_r.all3
  obtain ⟨q_n_0, q_n_1, f_n_0, f_n_1, q_n⟩ := B_n.all2
  go_wp2_with fail
  refine callsNamed ?_
  intro p5 hp
  clear q_x_0 q_x_1 q_x_2 f_x_0 f_x_1 f_x_2 q_x q_y_0 q_y_1 q_y_2 f_y_0 f_y_1 f_y_2 q_y q_r_0 q_r_1 q_r_2 f_r_0 f_r_1 f_r_2 q_r q_n_0 q_n_1 f_n_0 f_n_1 q_n
  have O' : Old w p5 := (by rw [hp]; exact Below.trans (b := w4) O oldA)
  replace B_x : Bx p5 (w.heap.size) #[.bool (sgnZ z1), .slice A1 (len (magZ z1)) c1, .slice D1 (len d1) e1] := (bxK B_x hp)
  replace B_y : Bx p5 (w.heap.size + 1) #[.bool (sgnZ z2), .slice A2 (len (magZ z2)) c2, .slice D2 (len d2) e2] := (bxK B_y hp)
  replace B_r : Bx p5 (w.heap.size + 1 + 1) #[.bool false, .slice none 0 0, .slice none 0 0] := (bxK B_r hp)
  replace B_n : Bx p5 (g_n) #[.bool (sgnZ S), .slice A7 (len (magZ S)) c7] := (bxK B_n hp)
  replace r7 := rowK r7 hp
  have r8 : Row p5 0 (some ⟨w4.heap.size, 0, none⟩) 1 1 (digI 1) := (by rw [hp]; first | exact one_row_at _ _ rfl | exact Row.drewN (one_row_at _ _ rfl) _ | exact Row.drew' (one_row_at _ _ rfl))
  have zp5 : w4.heap.size ≤ p5.heap.size := (by rw [hp]; exact leA)
  clear hp O
  have O := O'
  clear O'
  refine (l04Low_lit (sgnZ S) A7 c7 (magZ S) _ _ _ r7 r8 (by omega)).mono ?_
  rintro e w5 ⟨⟨z9, d9, A9, c9, D9, e9, hv, rfl, r9, s9, ap⟩, o5⟩
  replace B_x := Bx.old B_x o5
  replace B_y := Bx.old B_y o5
  replace B_r := Bx.old B_r o5
  replace B_n := Bx.old B_n o5
  replace r7 := Row.below r7 o5 (Nat.le_refl _)
  replace O := Old.trans O o5
  have zw5 := o5.size
  replace r9 := Row.more (lo' := p5.heap.size) r9 leA
  replace s9 := Row.more (lo' := p5.heap.size) s9 leA
  have lim_r9 := Row.lim r9
  have lim_s9 := Row.lim s9
  have HV := Lib.hid hv
  have AP := Lib.hid ap
  clear hv ap
  obtain ⟨q_x_0, q_x_1, q_x_2, f_x_0, f_x_1, f_x_2, q_x⟩ := B_x.all3
  obtain ⟨q_y_0, q_y_1, q_y_2, f_y_0, f_y_1, f_y_2, q_y⟩ := B_y.all3
  obtain ⟨q_r_0, q_r_1, q_r_2, f_r_0, f_r_1, f_r_2, q_r⟩ := B_r.all3
  obtain ⟨q_n_0, q_n_1, f_n_0, f_n_1, q_n⟩ := B_n.all2
  go_wp2
  refine bodyPost_ret (v := .agg #[.bool (sgnZ z9), .slice A9 (len (magZ z9)) c9, .slice D9 (len d9) e9]) (by simp [results, Try.results29, go_sem, q_r_0, q_r_1, q_r_2]) rfl ⟨⟨z9, d9, A9, c9, D9, e9, HC.out.trans HV.out, rfl, ?_, ?_, AP.out⟩, ?_⟩
  · refine Row.more (lo := p5.heap.size) ?_ leA
    repeat' (first | exact r9 | refine Row.far_set ?_ (by first | (simp <;> done) | (simp; omega) | omega) _)
  · refine Row.more (lo := p5.heap.size) ?_ leA
    repeat' (first | exact s9 | refine Row.far_set ?_ (by first | (simp <;> done) | (simp; omega) | omega) _)
  · exact Below.trans (b := w5) O oldA
set_option maxRecDepth 100000 in
set_option maxHeartbeats 1000000 in
theorem l04Add_gen1 (z1 : Int) (d1 : Nat) (A1 D1 : Option Addr) (c1 e1 l1 m1 : Nat) (z2 : Int) (d2 : Nat) (A2 D2 : Option Addr) (c2 e2 l2 m2 : Nat) (w : World) (h1 : NatS w l1 A1 c1 (magZ z1)) (k1 : NatS w m1 D1 e1 d1) (n1 : normF (z1, d1)) (h2 : NatS w l2 A2 c2 (magZ z2)) (k2 : NatS w m2 D2 e2 d2) (n2 : normF (z2, d2)) (o1 : ¬ d1 = 1) :
    Calls Try.prog 29 #[.agg #[.bool (sgnZ z1), .slice A1 (len (magZ z1)) c1, .slice D1 (len d1) e1], .agg #[.bool (sgnZ z2), .slice A2 (len (magZ z2)) c2, .slice D2 (len d2) e2]] w fun e w' => RetR e w' w.heap.size (addF (z1, d1) (z2, d2)) ∧ Old w w' := by
  have N1 := Lib.hid n1
  have LN1 := norm_len n1
  have La1 : len (magZ z1) ≤ 24 := LN1.1
  have Lb1 : len d1 ≤ 24 := LN1.2
  clear n1 LN1
  have N2 := Lib.hid n2
  have LN2 := norm_len n2
  have La2 : len (magZ z2) ≤ 24 := LN2.1
  have Lb2 : len d2 ≤ 24 := LN2.2
  clear n2 LN2
  obtain ⟨M1, hM1⟩ : ∃ M, M = z1 * (d2 : Int) := ⟨_, rfl⟩
  obtain ⟨M2, hM2⟩ : ∃ M, M = z2 * (d1 : Int) := ⟨_, rfl⟩
  have HM1 : Hid (signed (sgnZ z1) (magZ z1 * d2) = M1) := Lib.hid (by rw [signed_mul_nat, hM1])
  have HM2 : Hid (signed (sgnZ z2) (magZ z2 * d1) = M2) := Lib.hid (by rw [signed_mul_nat, hM2])
  have LM1 : len (magZ M1) ≤ 48 := by rw [hM1]; exact mul_len2 La1 Lb2
  have LM2 : len (magZ M2) ≤ 48 := by rw [hM2]; exact mul_len2 La2 Lb1
  have LX1 : len (magZ z1 * d2) ≤ 48 := mul_fit La1 Lb2
  have LX2 : len (magZ z2 * d1) ≤ 48 := mul_fit La2 Lb1
  obtain ⟨S, hS⟩ : ∃ S, S = M1 + M2 := ⟨_, rfl⟩
  have HS := Lib.hid hS.symm
  have LS : len (magZ S) ≤ 49 := by rw [hS]; exact add_fit LM1 LM2
  have HC : Hid (addF (z1, d1) (z2, d2) = mkF (signed (sgnZ S) (magZ S)) (d1 * d2)) := Lib.hid (by rw [signed_mag, hS, hM1, hM2]; rfl)
  have LQ : len (d1 * d2) ≤ 48 := mul_fit Lb1 Lb2
  clear hM1 hM2 hS
  have P1 := Lib.hid o1
  clear o1
  have O : Old w (((w.alloc (.cells #[.bool (sgnZ z1), .slice A1 (len (magZ z1)) c1, .slice D1 (len d1) e1] 32)).alloc (.cells #[.bool (sgnZ z2), .slice A2 (len (magZ z2)) c2, .slice D2 (len d2) e2] 32)).alloc (.cells #[.bool false, .slice none 0 0, .slice none 0 0] 32)) := oldA
  have B_x : Bx (((w.alloc (.cells #[.bool (sgnZ z1), .slice A1 (len (magZ z1)) c1, .slice D1 (len d1) e1] 32)).alloc (.cells #[.bool (sgnZ z2), .slice A2 (len (magZ z2)) c2, .slice D2 (len d2) e2] 32)).alloc (.cells #[.bool false, .slice none 0 0, .slice none 0 0] 32)) (w.heap.size) #[.bool (sgnZ z1), .slice A1 (len (magZ z1)) c1, .slice D1 (len d1) e1] := by have h := (Bx.alloc (Bx.alloc (Bx.new w #[.bool (sgnZ z1), .slice A1 (len (magZ z1)) c1, .slice D1 (len d1) e1] 32) (.cells #[.bool (sgnZ z2), .slice A2 (len (magZ z2)) c2, .slice D2 (len d2) e2] 32)) (.cells #[.bool false, .slice none 0 0, .slice none 0 0] 32)); simpa using h
  have B_y : Bx (((w.alloc (.cells #[.bool (sgnZ z1), .slice A1 (len (magZ z1)) c1, .slice D1 (len d1) e1] 32)).alloc (.cells #[.bool (sgnZ z2), .slice A2 (len (magZ z2)) c2, .slice D2 (len d2) e2] 32)).alloc (.cells #[.bool false, .slice none 0 0, .slice none 0 0] 32)) (w.heap.size + 1) #[.bool (sgnZ z2), .slice A2 (len (magZ z2)) c2, .slice D2 (len d2) e2] := by have h := (Bx.alloc (Bx.new (w.alloc (.cells #[.bool (sgnZ z1), .slice A1 (len (magZ z1)) c1, .slice D1 (len d1) e1] 32)) #[.bool (sgnZ z2), .slice A2 (len (magZ z2)) c2, .slice D2 (len d2) e2] 32) (.cells #[.bool false, .slice none 0 0, .slice none 0 0] 32)); simpa using h
  have B_r : Bx (((w.alloc (.cells #[.bool (sgnZ z1), .slice A1 (len (magZ z1)) c1, .slice D1 (len d1) e1] 32)).alloc (.cells #[.bool (sgnZ z2), .slice A2 (len (magZ z2)) c2, .slice D2 (len d2) e2] 32)).alloc (.cells #[.bool false, .slice none 0 0, .slice none 0 0] 32)) (w.heap.size + 1 + 1) #[.bool false, .slice none 0 0, .slice none 0 0] := by have h := (Bx.new ((w.alloc (.cells #[.bool (sgnZ z1), .slice A1 (len (magZ z1)) c1, .slice D1 (len d1) e1] 32)).alloc (.cells #[.bool (sgnZ z2), .slice A2 (len (magZ z2)) c2, .slice D2 (len d2) e2] 32)) #[.bool false, .slice none 0 0, .slice none 0 0] 32); simpa using h
  have ne_0_1 : ¬ (w.heap.size = w.heap.size + 1) := by omega
  have ne_0_2 : ¬ (w.heap.size = w.heap.size + 1 + 1) := by omega
  have ne_1_0 : ¬ (w.heap.size + 1 = w.heap.size) := by omega
  have ne_1_2 : ¬ (w.heap.size + 1 = w.heap.size + 1 + 1) := by omega
  have ne_2_0 : ¬ (w.heap.size + 1 + 1 = w.heap.size) := by omega
  have ne_2_1 : ¬ (w.heap.size + 1 + 1 = w.heap.size + 1) := by omega
  have ze : w.heap.size + 3 ≤ (((w.alloc (.cells #[.bool (sgnZ z1), .slice A1 (len (magZ z1)) c1, .slice D1 (len d1) e1] 32)).alloc (.cells #[.bool (sgnZ z2), .slice A2 (len (magZ z2)) c2, .slice D2 (len d2) e2] 32)).alloc (.cells #[.bool false, .slice none 0 0, .slice none 0 0] 32)).heap.size := (by simp)
  go_enter Try.func29, Try.ntmps29
  go_wp2_with fail
  refine callsNamed ?_
  intro p1 hp
  have O' : Old w p1 := (by rw [hp]; exact Below.trans (b := (((w.alloc (.cells #[.bool (sgnZ z1), .slice A1 (len (magZ z1)) c1, .slice D1 (len d1) e1] 32)).alloc (.cells #[.bool (sgnZ z2), .slice A2 (len (magZ z2)) c2, .slice D2 (len d2) e2] 32)).alloc (.cells #[.bool false, .slice none 0 0, .slice none 0 0] 32))) O oldA)
  replace B_x : Bx p1 (w.heap.size) #[.bool (sgnZ z1), .slice A1 (len (magZ z1)) c1, .slice D1 (len d1) e1] := (bxK B_x hp)
  replace B_y : Bx p1 (w.heap.size + 1) #[.bool (sgnZ z2), .slice A2 (len (magZ z2)) c2, .slice D2 (len d2) e2] := (bxK B_y hp)
  replace B_r : Bx p1 (w.heap.size + 1 + 1) #[.bool false, .slice none 0 0, .slice none 0 0] := (bxK B_r hp)
  have zp1 : (((w.alloc (.cells #[.bool (sgnZ z1), .slice A1 (len (magZ z1)) c1, .slice D1 (len d1) e1] 32)).alloc (.cells #[.bool (sgnZ z2), .slice A2 (len (magZ z2)) c2, .slice D2 (len d2) e2] 32)).alloc (.cells #[.bool false, .slice none 0 0, .slice none 0 0] 32)).heap.size ≤ p1.heap.size := (by rw [hp]; exact leA)
  clear hp O
  have O := O'
  clear O'
  refine (plain_to (by rw [decide_eq_false P1.out]) (l04One_any D1 e1 d1 m1 _ (Row.below (B := w.heap.size) k1 O (Nat.le_refl _)))).mono ?_
  rintro e w1 ⟨rfl, o1⟩
  replace B_x := Bx.old B_x o1
  replace B_y := Bx.old B_y o1
  replace B_r := Bx.old B_r o1
  replace O := Old.trans O o1
  have zw1 := o1.size
  obtain ⟨q_x_0, q_x_1, q_x_2, f_x_0, f_x_1, f_x_2, q_x⟩ := B_x.all3
  obtain ⟨q_y_0, q_y_1, q_y_2, f_y_0, f_y_1, f_y_2, q_y⟩ := B_y.all3
  obtain ⟨q_r_0, q_r_1, q_r_2, f_r_0, f_r_1, f_r_2, q_r⟩ := B_r.all3
  have ne_w1_x : ¬ (w1.heap.size = w.heap.size) := (by omega)
  have ne_w1_y : ¬ (w1.heap.size = w.heap.size + 1) := (by omega)
  have en_w1_x : ¬ (w.heap.size = w1.heap.size) := (by omega)
  have en_w1_y : ¬ (w.heap.size + 1 = w1.heap.size) := (by omega)
  go_upto_region 4 with fail
  go_cut [6] (fun sl wx => ∃ (g : Nat) (A5 : Option Addr) (c5 : Nat), sl = .pointer (some ⟨g, 0, none⟩) ∧ w1.heap.size ≤ g ∧ Bx wx g #[.bool (sgnZ M1), .slice A5 (len (magZ M1)) c5] ∧ Row wx w1.heap.size A5 (len (magZ M1)) c5 (digI (magZ M1)) ∧ Old w1 wx)
  case first =>
    have OP : Old w1 w1 := Old.refl _
    go_region_held3 (fun w' => w'.cell? ⟨w.heap.size, 0, none⟩ = some (.bool (sgnZ z1)) ∧ w'.cell? ⟨w.heap.size, 1, none⟩ = some (.slice A1 (len (magZ z1)) c1) ∧ w'.cell? ⟨w.heap.size, 2, none⟩ = some (.slice D1 (len d1) e1) ∧ w'.cell? ⟨w.heap.size + 1, 0, none⟩ = some (.bool (sgnZ z2)) ∧ w'.cell? ⟨w.heap.size + 1, 1, none⟩ = some (.slice A2 (len (magZ z2)) c2) ∧ w'.cell? ⟨w.heap.size + 1, 2, none⟩ = some (.slice D2 (len d2) e2)) (go_keep)
      (first
       | (go_at_call 47; refine callsNamed ?_; intro p2 hp; clear q_x_0 q_x_1 q_x_2 f_x_0 f_x_1 f_x_2 q_x q_y_0 q_y_1 q_y_2 f_y_0 f_y_1 f_y_2 q_y q_r_0 q_r_1 q_r_2 f_r_0 f_r_1 f_r_2 q_r; have O' : Old w p2 := (by rw [hp]; exact Below.trans (b := w1) O oldA); replace B_x : Bx p2 (w.heap.size) #[.bool (sgnZ z1), .slice A1 (len (magZ z1)) c1, .slice D1 (len d1) e1] := (bxK B_x hp); replace B_y : Bx p2 (w.heap.size + 1) #[.bool (sgnZ z2), .slice A2 (len (magZ z2)) c2, .slice D2 (len d2) e2] := (bxK B_y hp); replace B_r : Bx p2 (w.heap.size + 1 + 1) #[.bool false, .slice none 0 0, .slice none 0 0] := (bxK B_r hp); replace OP : Old w1 p2 := (by rw [hp]; exact Below.trans (b := w1) OP oldA); (first | (replace E := bxK E hp) | (have E : Bx p2 w1.heap.size #[.bool false, .slice none 0 0] := (eNew hp); have nE_x : ¬ (w1.heap.size = w.heap.size) := (by omega); have eN_x : ¬ (w.heap.size = w1.heap.size) := (by omega); have nE_y : ¬ (w1.heap.size = w.heap.size + 1) := (by omega); have eN_y : ¬ (w.heap.size + 1 = w1.heap.size) := (by omega); have nE_r : ¬ (w1.heap.size = w.heap.size + 1 + 1) := (by omega); have eN_r : ¬ (w.heap.size + 1 + 1 = w1.heap.size) := (by omega); have ltE := Bx.lt E) | skip); have zp2 : w1.heap.size ≤ p2.heap.size := (by rw [hp]; exact leA); clear hp O; have O := O'; clear O'; refine (l02Mul_any A1 D2 c1 e2 (magZ z1) d2 l1 m2 _ (Row.below (B := w.heap.size) h1 O (Nat.le_refl _)) (Row.below (B := w.heap.size) k2 O (Nat.le_refl _)) (by omega) (by omega)).mono ?_; rintro e w2 ⟨A3, c3, rfl, r3, o2⟩; replace B_x := Bx.old B_x o2; replace B_y := Bx.old B_y o2; replace B_r := Bx.old B_r o2; replace O := Old.trans O o2; replace OP := Old.trans OP o2; (first | (replace E := Bx.old E o2) | skip); have zw2 := o2.size; replace r3 := Row.more (lo' := p2.heap.size) r3 leA; have lim_r3 := Row.lim r3; obtain ⟨q_x_0, q_x_1, q_x_2, f_x_0, f_x_1, f_x_2, q_x⟩ := B_x.all3; obtain ⟨q_y_0, q_y_1, q_y_2, f_y_0, f_y_1, f_y_2, q_y⟩ := B_y.all3; obtain ⟨q_r_0, q_r_1, q_r_2, f_r_0, f_r_1, f_r_2, q_r⟩ := B_r.all3; have ne_w2_x : ¬ (w2.heap.size = w.heap.size) := (by omega); have ne_w2_y : ¬ (w2.heap.size = w.heap.size + 1) := (by omega); have en_w2_x : ¬ (w.heap.size = w2.heap.size) := (by omega); have en_w2_y : ¬ (w.heap.size + 1 = w2.heap.size) := (by omega); (first | (have qE0 := E.cell 0 rfl; have qE1 := E.cell 1 rfl; have fE0 := E.frozen 0; have fE1 := E.frozen 1; have qE := E.lt) | skip))
       | (go_at_call 46; (first | (clear qE0 qE1 fE0 fE1 qE) | skip); refine callsNamed ?_; intro p3 hp; clear q_x_0 q_x_1 q_x_2 f_x_0 f_x_1 f_x_2 q_x q_y_0 q_y_1 q_y_2 f_y_0 f_y_1 f_y_2 q_y q_r_0 q_r_1 q_r_2 f_r_0 f_r_1 f_r_2 q_r; have O' : Old w p3 := (by rw [hp]; exact Below.trans (b := w2) O oldA); replace B_x : Bx p3 (w.heap.size) #[.bool (sgnZ z1), .slice A1 (len (magZ z1)) c1, .slice D1 (len d1) e1] := (bxK B_x hp); replace B_y : Bx p3 (w.heap.size + 1) #[.bool (sgnZ z2), .slice A2 (len (magZ z2)) c2, .slice D2 (len d2) e2] := (bxK B_y hp); replace B_r : Bx p3 (w.heap.size + 1 + 1) #[.bool false, .slice none 0 0, .slice none 0 0] := (bxK B_r hp); replace r3 := rowK r3 hp; replace OP : Old w1 p3 := (by rw [hp]; exact Below.trans (b := w2) OP oldA); (first | (replace E := bxK E hp) | (have E : Bx p3 w2.heap.size #[.bool false, .slice none 0 0] := (eNew hp); have nE_x : ¬ (w2.heap.size = w.heap.size) := (by omega); have eN_x : ¬ (w.heap.size = w2.heap.size) := (by omega); have nE_y : ¬ (w2.heap.size = w.heap.size + 1) := (by omega); have eN_y : ¬ (w.heap.size + 1 = w2.heap.size) := (by omega); have nE_r : ¬ (w2.heap.size = w.heap.size + 1 + 1) := (by omega); have eN_r : ¬ (w.heap.size + 1 + 1 = w2.heap.size) := (by omega); have ltE := Bx.lt E) | skip); have zp3 : w2.heap.size ≤ p3.heap.size := (by rw [hp]; exact leA); clear hp O; have O := O'; clear O'; refine (retB_to HM1.out (l03Make_fit (sgnZ z1) A3 c3 (magZ z1 * d2) _ _ r3 (by omega))).mono ?_; rintro e w3 ⟨⟨A5, c5, rfl, r5⟩, o3⟩; replace B_x := Bx.old B_x o3; replace B_y := Bx.old B_y o3; replace B_r := Bx.old B_r o3; replace r3 := Row.below r3 o3 (Nat.le_refl _); replace O := Old.trans O o3; replace OP := Old.trans OP o3; (first | (replace E := Bx.old E o3) | skip); have zw3 := o3.size; replace r5 := Row.more (lo' := p3.heap.size) r5 leA; have lim_r5 := Row.lim r5; obtain ⟨q_x_0, q_x_1, q_x_2, f_x_0, f_x_1, f_x_2, q_x⟩ := B_x.all3; obtain ⟨q_y_0, q_y_1, q_y_2, f_y_0, f_y_1, f_y_2, q_y⟩ := B_y.all3; obtain ⟨q_r_0, q_r_1, q_r_2, f_r_0, f_r_1, f_r_2, q_r⟩ := B_r.all3; have ne_w3_x : ¬ (w3.heap.size = w.heap.size) := (by omega); have ne_w3_y : ¬ (w3.heap.size = w.heap.size + 1) := (by omega); have en_w3_x : ¬ (w.heap.size = w3.heap.size) := (by omega); have en_w3_y : ¬ (w.heap.size + 1 = w3.heap.size) := (by omega); (first | (have qE0 := E.cell 0 rfl; have qE1 := E.cell 1 rfl; have fE0 := E.frozen 0; have fE1 := E.frozen 1; have qE := E.lt) | skip)))
    all_goals (go_wp2_with fail; go_meet; exact ⟨_, A5, c5, rfl, leA, (by first | exact Bx.new _ _ _ | exact Bx.put2 E _ _ | exact Bx.put2 (Bx.new _ _ _) _ _ | exact Bx.put2 (Bx.drew (Bx.new _ _ _)) _ _), (by refine Row.more (lo := p3.heap.size) ?_ leA; first | exact (Row.far_set (Row.far_set r5 (by first | (simp <;> done) | (simp; omega) | omega) _) (by first | (simp <;> done) | (simp; omega) | omega) _) | exact Row.below (B := w3.heap.size) r5 oldA (Nat.le_refl _)), Below.trans (b := w3) OP oldA⟩)
  case rest =>
  obtain ⟨g_a, A5, c5, rfl, hg_a, B_a, r5, o4⟩ := hcut
  obtain ⟨w4, hw⟩ : ∃ x, x = wc := ⟨_, rfl⟩
  subst hw
  clear q_x_0 q_x_1 q_x_2 f_x_0 f_x_1 f_x_2 q_x q_y_0 q_y_1 q_y_2 f_y_0 f_y_1 f_y_2 q_y q_r_0 q_r_1 q_r_2 f_r_0 f_r_1 f_r_2 q_r
  clear ne_w1_x en_w1_x ne_w1_y en_w1_y
  replace B_x := Bx.old B_x o4
  replace B_y := Bx.old B_y o4
  replace B_r := Bx.old B_r o4
  replace O := Old.trans O o4
  have zw4 := o4.size
  have lt_a := B_a.lt
  have ne_a_x : ¬ (g_a = w.heap.size) := by omega
  have en_a_x : ¬ (w.heap.size = g_a) := by omega
  have ne_a_y : ¬ (g_a = w.heap.size + 1) := by omega
  have en_a_y : ¬ (w.heap.size + 1 = g_a) := by omega
  have ne_a_r : ¬ (g_a = w.heap.size + 1 + 1) := by omega
  have en_a_r : ¬ (w.heap.size + 1 + 1 = g_a) := by omega
  have lim_r5 := Row.lim r5
  obtain ⟨q_x_0, q_x_1, q_x_2, f_x_0, f_x_1, f_x_2, q_x⟩ := B_x.all3
  obtain ⟨q_y_0, q_y_1, q_y_2, f_y_0, f_y_1, f_y_2, q_y⟩ := B_y.all3
  obtain ⟨q_r_0, q_r_1, q_r_2, f_r_0, f_r_1, f_r_2, q_r⟩ := B_r.all3
  obtain ⟨q_a_0, q_a_1, f_a_0, f_a_1, q_a⟩ := B_a.all2
  have ne_w4_x : ¬ (w4.heap.size = w.heap.size) := (by omega)
  have ne_w4_y : ¬ (w4.heap.size = w.heap.size + 1) := (by omega)
  have ne_w4_a : ¬ (w4.heap.size = g_a) := (by omega)
  have en_w4_x : ¬ (w.heap.size = w4.heap.size) := (by omega)
  have en_w4_y : ¬ (w.heap.size + 1 = w4.heap.size) := (by omega)
  have en_w4_a : ¬ (g_a = w4.heap.size) := (by omega)
  go_upto_region 5 with fail
  go_cut [7] (fun sl wx => ∃ (g : Nat) (A6 : Option Addr) (c6 : Nat), sl = .pointer (some ⟨g, 0, none⟩) ∧ w4.heap.size ≤ g ∧ Bx wx g #[.bool (sgnZ M2), .slice A6 (len (magZ M2)) c6] ∧ Row wx w4.heap.size A6 (len (magZ M2)) c6 (digI (magZ M2)) ∧ Old w4 wx)
  case first =>
    have OP : Old w4 w4 := Old.refl _
    go_region_held3 (fun w' => w'.cell? ⟨w.heap.size, 0, none⟩ = some (.bool (sgnZ z1)) ∧ w'.cell? ⟨w.heap.size, 1, none⟩ = some (.slice A1 (len (magZ z1)) c1) ∧ w'.cell? ⟨w.heap.size, 2, none⟩ = some (.slice D1 (len d1) e1) ∧ w'.cell? ⟨w.heap.size + 1, 0, none⟩ = some (.bool (sgnZ z2)) ∧ w'.cell? ⟨w.heap.size + 1, 1, none⟩ = some (.slice A2 (len (magZ z2)) c2) ∧ w'.cell? ⟨w.heap.size + 1, 2, none⟩ = some (.slice D2 (len d2) e2) ∧ w'.cell? ⟨g_a, 0, none⟩ = some (.bool (sgnZ M1)) ∧ w'.cell? ⟨g_a, 1, none⟩ = some (.slice A5 (len (magZ M1)) c5)) (go_keep)
      (first
       | (go_at_call 47; refine callsNamed ?_; intro p5 hp; clear q_x_0 q_x_1 q_x_2 f_x_0 f_x_1 f_x_2 q_x q_y_0 q_y_1 q_y_2 f_y_0 f_y_1 f_y_2 q_y q_r_0 q_r_1 q_r_2 f_r_0 f_r_1 f_r_2 q_r q_a_0 q_a_1 f_a_0 f_a_1 q_a; have O' : Old w p5 := (by rw [hp]; exact Below.trans (b := w4) O oldA); replace B_x : Bx p5 (w.heap.size) #[.bool (sgnZ z1), .slice A1 (len (magZ z1)) c1, .slice D1 (len d1) e1] := (bxK B_x hp); replace B_y : Bx p5 (w.heap.size + 1) #[.bool (sgnZ z2), .slice A2 (len (magZ z2)) c2, .slice D2 (len d2) e2] := (bxK B_y hp); replace B_r : Bx p5 (w.heap.size + 1 + 1) #[.bool false, .slice none 0 0, .slice none 0 0] := (bxK B_r hp); replace B_a : Bx p5 (g_a) #[.bool (sgnZ M1), .slice A5 (len (magZ M1)) c5] := (bxK B_a hp); replace r5 := rowK r5 hp; replace OP : Old w4 p5 := (by rw [hp]; exact Below.trans (b := w4) OP oldA); (first | (replace E := bxK E hp) | (have E : Bx p5 w4.heap.size #[.bool false, .slice none 0 0] := (eNew hp); have nE_x : ¬ (w4.heap.size = w.heap.size) := (by omega); have eN_x : ¬ (w.heap.size = w4.heap.size) := (by omega); have nE_y : ¬ (w4.heap.size = w.heap.size + 1) := (by omega); have eN_y : ¬ (w.heap.size + 1 = w4.heap.size) := (by omega); have nE_r : ¬ (w4.heap.size = w.heap.size + 1 + 1) := (by omega); have eN_r : ¬ (w.heap.size + 1 + 1 = w4.heap.size) := (by omega); have nE_a : ¬ (w4.heap.size = g_a) := (by omega); have eN_a : ¬ (g_a = w4.heap.size) := (by omega); have ltE := Bx.lt E) | skip); have zp5 : w4.heap.size ≤ p5.heap.size := (by rw [hp]; exact leA); clear hp O; have O := O'; clear O'; refine (l02Mul_any A2 D1 c2 e1 (magZ z2) d1 l2 m1 _ (Row.below (B := w.heap.size) h2 O (Nat.le_refl _)) (Row.below (B := w.heap.size) k1 O (Nat.le_refl _)) (by omega) (by omega)).mono ?_; rintro e w5 ⟨A4, c4, rfl, r4, o5⟩; replace B_x := Bx.old B_x o5; replace B_y := Bx.old B_y o5; replace B_r := Bx.old B_r o5; replace B_a := Bx.old B_a o5; replace r5 := Row.below r5 o5 (Nat.le_refl _); replace O := Old.trans O o5; replace OP := Old.trans OP o5; (first | (replace E := Bx.old E o5) | skip); have zw5 := o5.size; replace r4 := Row.more (lo' := p5.heap.size) r4 leA; have lim_r4 := Row.lim r4; obtain ⟨q_x_0, q_x_1, q_x_2, f_x_0, f_x_1, f_x_2, q_x⟩ := B_x.all3; obtain ⟨q_y_0, q_y_1, q_y_2, f_y_0, f_y_1, f_y_2, q_y⟩ := B_y.all3; obtain ⟨q_r_0, q_r_1, q_r_2, f_r_0, f_r_1, f_r_2, q_r⟩ := B_r.all3; obtain ⟨q_a_0, q_a_1, f_a_0, f_a_1, q_a⟩ := B_a.all2; have ne_w5_x : ¬ (w5.heap.size = w.heap.size) := (by omega); have ne_w5_y : ¬ (w5.heap.size = w.heap.size + 1) := (by omega); have ne_w5_a : ¬ (w5.heap.size = g_a) := (by omega); have en_w5_x : ¬ (w.heap.size = w5.heap.size) := (by omega); have en_w5_y : ¬ (w.heap.size + 1 = w5.heap.size) := (by omega); have en_w5_a : ¬ (g_a = w5.heap.size) := (by omega); (first | (have qE0 := E.cell 0 rfl; have qE1 := E.cell 1 rfl; have fE0 := E.frozen 0; have fE1 := E.frozen 1; have qE := E.lt) | skip))
       | (go_at_call 46; (first | (clear qE0 qE1 fE0 fE1 qE) | skip); refine callsNamed ?_; intro p6 hp; clear q_x_0 q_x_1 q_x_2 f_x_0 f_x_1 f_x_2 q_x q_y_0 q_y_1 q_y_2 f_y_0 f_y_1 f_y_2 q_y q_r_0 q_r_1 q_r_2 f_r_0 f_r_1 f_r_2 q_r q_a_0 q_a_1 f_a_0 f_a_1 q_a; have O' : Old w p6 := (by rw [hp]; exact Below.trans (b := w5) O oldA); replace B_x : Bx p6 (w.heap.size) #[.bool (sgnZ z1), .slice A1 (len (magZ z1)) c1, .slice D1 (len d1) e1] := (bxK B_x hp); replace B_y : Bx p6 (w.heap.size + 1) #[.bool (sgnZ z2), .slice A2 (len (magZ z2)) c2, .slice D2 (len d2) e2] := (bxK B_y hp); replace B_r : Bx p6 (w.heap.size + 1 + 1) #[.bool false, .slice none 0 0, .slice none 0 0] := (bxK B_r hp); replace B_a : Bx p6 (g_a) #[.bool (sgnZ M1), .slice A5 (len (magZ M1)) c5] := (bxK B_a hp); replace r5 := rowK r5 hp; replace r4 := rowK r4 hp; replace OP : Old w4 p6 := (by rw [hp]; exact Below.trans (b := w5) OP oldA); (first | (replace E := bxK E hp) | (have E : Bx p6 w5.heap.size #[.bool false, .slice none 0 0] := (eNew hp); have nE_x : ¬ (w5.heap.size = w.heap.size) := (by omega); have eN_x : ¬ (w.heap.size = w5.heap.size) := (by omega); have nE_y : ¬ (w5.heap.size = w.heap.size + 1) := (by omega); have eN_y : ¬ (w.heap.size + 1 = w5.heap.size) := (by omega); have nE_r : ¬ (w5.heap.size = w.heap.size + 1 + 1) := (by omega); have eN_r : ¬ (w.heap.size + 1 + 1 = w5.heap.size) := (by omega); have nE_a : ¬ (w5.heap.size = g_a) := (by omega); have eN_a : ¬ (g_a = w5.heap.size) := (by omega); have ltE := Bx.lt E) | skip); have zp6 : w5.heap.size ≤ p6.heap.size := (by rw [hp]; exact leA); clear hp O; have O := O'; clear O'; refine (retB_to HM2.out (l03Make_fit (sgnZ z2) A4 c4 (magZ z2 * d1) _ _ r4 (by omega))).mono ?_; rintro e w6 ⟨⟨A6, c6, rfl, r6⟩, o6⟩; replace B_x := Bx.old B_x o6; replace B_y := Bx.old B_y o6; replace B_r := Bx.old B_r o6; replace B_a := Bx.old B_a o6; replace r5 := Row.below r5 o6 (Nat.le_refl _); replace r4 := Row.below r4 o6 (Nat.le_refl _); replace O := Old.trans O o6; replace OP := Old.trans OP o6; (first | (replace E := Bx.old E o6) | skip); have zw6 := o6.size; replace r6 := Row.more (lo' := p6.heap.size) r6 leA; have lim_r6 := Row.lim r6; obtain ⟨q_x_0, q_x_1, q_x_2, f_x_0, f_x_1, f_x_2, q_x⟩ := B_x.all3; obtain ⟨q_y_0, q_y_1, q_y_2, f_y_0, f_y_1, f_y_2, q_y⟩ := B_y.all3; obtain ⟨q_r_0, q_r_1, q_r_2, f_r_0, f_r_1, f_r_2, q_r⟩ := B_r.all3; obtain ⟨q_a_0, q_a_1, f_a_0, f_a_1, q_a⟩ := B_a.all2; have ne_w6_x : ¬ (w6.heap.size = w.heap.size) := (by omega); have ne_w6_y : ¬ (w6.heap.size = w.heap.size + 1) := (by omega); have ne_w6_a : ¬ (w6.heap.size = g_a) := (by omega); have en_w6_x : ¬ (w.heap.size = w6.heap.size) := (by omega); have en_w6_y : ¬ (w.heap.size + 1 = w6.heap.size) := (by omega); have en_w6_a : ¬ (g_a = w6.heap.size) := (by omega); (first | (have qE0 := E.cell 0 rfl; have qE1 := E.cell 1 rfl; have fE0 := E.frozen 0; have fE1 := E.frozen 1; have qE := E.lt) | skip)))
    all_goals (go_wp2_with fail; go_meet; exact ⟨_, A6, c6, rfl, leA, (by first | exact Bx.new _ _ _ | exact Bx.put2 E _ _ | exact Bx.put2 (Bx.new _ _ _) _ _ | exact Bx.put2 (Bx.drew (Bx.new _ _ _)) _ _), (by refine Row.more (lo := p6.heap.size) ?_ leA; first | exact (Row.far_set (Row.far_set r6 (by first | (simp <;> done) | (simp; omega) | omega) _) (by first | (simp <;> done) | (simp; omega) | omega) _) | exact Row.below (B := w6.heap.size) r6 oldA (Nat.le_refl _)), Below.trans (b := w6) OP oldA⟩)
  case rest =>
  obtain ⟨g_b, A6, c6, rfl, hg_b, B_b, r6, o7⟩ := hcut
  obtain ⟨w7, hw⟩ : ∃ x, x = wc := ⟨_, rfl⟩
  subst hw
  clear q_x_0 q_x_1 q_x_2 f_x_0 f_x_1 f_x_2 q_x q_y_0 q_y_1 q_y_2 f_y_0 f_y_1 f_y_2 q_y q_r_0 q_r_1 q_r_2 f_r_0 f_r_1 f_r_2 q_r q_a_0 q_a_1 f_a_0 f_a_1 q_a
  clear ne_w4_x en_w4_x ne_w4_y en_w4_y ne_w4_a en_w4_a
  replace B_x := Bx.old B_x o7
  replace B_y := Bx.old B_y o7
  replace B_r := Bx.old B_r o7
  replace B_a := Bx.old B_a o7
  replace r5 := Row.below r5 o7 (Nat.le_refl _)
  replace O := Old.trans O o7
  have zw7 := o7.size
  have lt_b := B_b.lt
  have ne_b_x : ¬ (g_b = w.heap.size) := by omega
  have en_b_x : ¬ (w.heap.size = g_b) := by omega
  have ne_b_y : ¬ (g_b = w.heap.size + 1) := by omega
  have en_b_y : ¬ (w.heap.size + 1 = g_b) := by omega
  have ne_b_r : ¬ (g_b = w.heap.size + 1 + 1) := by omega
  have en_b_r : ¬ (w.heap.size + 1 + 1 = g_b) := by omega
  have ne_b_a : ¬ (g_b = g_a) := by omega
  have en_b_a : ¬ (g_a = g_b) := by omega
  have lim_r6 := Row.lim r6
  obtain ⟨q_x_0, q_x_1, q_x_2, f_x_0, f_x_1, f_x_2, q_x⟩ := B_x.all3
  obtain ⟨q_y_0, q_y_1, q_y_2, f_y_0, f_y_1, f_y_2, q_y⟩ := B_y.all3
  obtain ⟨q_r_0, q_r_1, q_r_2, f_r_0, f_r_1, f_r_2, q_r⟩ := B_r.all3
  obtain ⟨q_a_0, q_a_1, f_a_0, f_a_1, q_a⟩ := B_a.all2
  obtain ⟨q_b_0, q_b_1, f_b_0, f_b_1, q_b⟩ := B_b.all2
  go_upto_region 6 with fail
  go_cut [8] (fun sl wx => ∃ (g : Nat) (A7 : Option Addr) (c7 : Nat), sl = .pointer (some ⟨g, 0, none⟩) ∧ w7.heap.size ≤ g ∧ Bx wx g #[.bool (sgnZ S), .slice A7 (len (magZ S)) c7] ∧ Row wx w7.heap.size A7 (len (magZ S)) c7 (digI (magZ S)) ∧ Old w7 wx)
  case first =>
    have OP : Old w7 w7 := Old.refl _
    go_wp2_with fail
    refine callsNamed ?_
    intro p8 hp
    clear q_x_0 q_x_1 q_x_2 f_x_0 f_x_1 f_x_2 q_x q_y_0 q_y_1 q_y_2 f_y_0 f_y_1 f_y_2 q_y q_r_0 q_r_1 q_r_2 f_r_0 f_r_1 f_r_2 q_r q_a_0 q_a_1 f_a_0 f_a_1 q_a q_b_0 q_b_1 f_b_0 f_b_1 q_b
    have O' : Old w p8 := (by rw [hp]; exact Below.trans (b := w7) O oldA)
    replace B_x : Bx p8 (w.heap.size) #[.bool (sgnZ z1), .slice A1 (len (magZ z1)) c1, .slice D1 (len d1) e1] := (bxK B_x hp)
    replace B_y : Bx p8 (w.heap.size + 1) #[.bool (sgnZ z2), .slice A2 (len (magZ z2)) c2, .slice D2 (len d2) e2] := (bxK B_y hp)
    replace B_r : Bx p8 (w.heap.size + 1 + 1) #[.bool false, .slice none 0 0, .slice none 0 0] := (bxK B_r hp)
    replace B_a : Bx p8 (g_a) #[.bool (sgnZ M1), .slice A5 (len (magZ M1)) c5] := (bxK B_a hp)
    replace B_b : Bx p8 (g_b) #[.bool (sgnZ M2), .slice A6 (len (magZ M2)) c6] := (bxK B_b hp)
    replace r5 := rowK r5 hp
    replace r6 := rowK r6 hp
    replace OP : Old w7 p8 := (by rw [hp]; exact Below.trans (b := w7) OP oldA)
    have zp8 : w7.heap.size ≤ p8.heap.size := (by rw [hp]; exact leA)
    clear hp O
    have O := O'
    clear O'
    refine (retB_to HS.out (l03Add_fit M1 M2 A5 A6 c5 c6 _ _ _ r5 r6 (by omega) (by omega))).mono ?_
    rintro e w8 ⟨⟨A7, c7, rfl, r7⟩, o8⟩
    replace B_x := Bx.old B_x o8
    replace B_y := Bx.old B_y o8
    replace B_r := Bx.old B_r o8
    replace B_a := Bx.old B_a o8
    replace B_b := Bx.old B_b o8
    replace r5 := Row.below r5 o8 (Nat.le_refl _)
    replace r6 := Row.below r6 o8 (Nat.le_refl _)
    replace O := Old.trans O o8
    replace OP := Old.trans OP o8
    have zw8 := o8.size
    replace r7 := Row.more (lo' := p8.heap.size) r7 leA
    have lim_r7 := Row.lim r7
    obtain ⟨q_x_0, q_x_1, q_x_2, f_x_0, f_x_1, f_x_2, q_x⟩ := B_x.all3
    obtain ⟨q_y_0, q_y_1, q_y_2, f_y_0, f_y_1, f_y_2, q_y⟩ := B_y.all3
    obtain ⟨q_r_0, q_r_1, q_r_2, f_r_0, f_r_1, f_r_2, q_r⟩ := B_r.all3
    obtain ⟨q_a_0, q_a_1, f_a_0, f_a_1, q_a⟩ := B_a.all2
    obtain ⟨q_b_0, q_b_1, f_b_0, f_b_1, q_b⟩ := B_b.all2
    go_wp2_with fail
    go_meet
    exact ⟨_, A7, c7, rfl, leA, (by first | exact Bx.new _ _ _ | exact Bx.put2 (Bx.new _ _ _) _ _ | exact Bx.put2 (Bx.drew (Bx.new _ _ _)) _ _), (by refine Row.more (lo := p8.heap.size) ?_ leA; first | exact (Row.far_set (Row.far_set r7 (by first | (simp <;> done) | (simp; omega) | omega) _) (by first | (simp <;> done) | (simp; omega) | omega) _) | exact Row.below (B := w8.heap.size) r7 oldA (Nat.le_refl _)), Below.trans (b := w8) OP oldA⟩
  case rest =>
  obtain ⟨g_n, A7, c7, rfl, hg_n, B_n, r7, o9⟩ := hcut
  obtain ⟨w9, hw⟩ : ∃ x, x = wc := ⟨_, rfl⟩
  subst hw
  clear q_x_0 q_x_1 q_x_2 f_x_0 f_x_1 f_x_2 q_x q_y_0 q_y_1 q_y_2 f_y_0 f_y_1 f_y_2 q_y q_r_0 q_r_1 q_r_2 f_r_0 f_r_1 f_r_2 q_r q_a_0 q_a_1 f_a_0 f_a_1 q_a q_b_0 q_b_1 f_b_0 f_b_1 q_b
  replace B_x := Bx.old B_x o9
  replace B_y := Bx.old B_y o9
  replace B_r := Bx.old B_r o9
  replace B_a := Bx.old B_a o9
  replace B_b := Bx.old B_b o9
  replace r5 := Row.below r5 o9 (Nat.le_refl _)
  replace r6 := Row.below r6 o9 (Nat.le_refl _)
  replace O := Old.trans O o9
  have zw9 := o9.size
  have lt_n := B_n.lt
  have ne_n_x : ¬ (g_n = w.heap.size) := by omega
  have en_n_x : ¬ (w.heap.size = g_n) := by omega
  have ne_n_y : ¬ (g_n = w.heap.size + 1) := by omega
  have en_n_y : ¬ (w.heap.size + 1 = g_n) := by omega
  have ne_n_r : ¬ (g_n = w.heap.size + 1 + 1) := by omega
  have en_n_r : ¬ (w.heap.size + 1 + 1 = g_n) := by omega
  have ne_n_a : ¬ (g_n = g_a) := by omega
  have en_n_a : ¬ (g_a = g_n) := by omega
  have ne_n_b : ¬ (g_n = g_b) := by omega
  have en_n_b : ¬ (g_b = g_n) := by omega
  have lim_r7 := Row.lim r7
  obtain ⟨q_x_0, q_x_1, q_x_2, f_x_0, f_x_1, f_x_2, q_x⟩ := B_x.all3
  obtain ⟨q_y_0, q_y_1, q_y_2, f_y_0, f_y_1, f_y_2, q_y⟩ := B_y.all3
  obtain ⟨q_r_0, q_r_1, q_r_2, f_r_0, f_r_1, f_r_2, q_r⟩ := B_r.all3
  obtain ⟨q_a_0, q_a_1, f_a_0, f_a_1, q_a⟩ := B_a.all2
  obtain ⟨q_b_0, q_b_1, f_b_0, f_b_1, q_b⟩ := B_b.all2
  obtain ⟨q_n_0, q_n_1, f_n_0, f_n_1, q_n⟩ := B_n.all2
  go_wp2_with fail
  go_region_held3 (fun w' => w'.cell? ⟨w.heap.size, 0, none⟩ = some (.bool (sgnZ z1)) ∧ w'.cell? ⟨w.heap.size, 1, none⟩ = some (.slice A1 (len (magZ z1)) c1) ∧ w'.cell? ⟨w.heap.size, 2, none⟩ = some (.slice D1 (len d1) e1) ∧ w'.cell? ⟨w.heap.size + 1, 0, none⟩ = some (.bool (sgnZ z2)) ∧ w'.cell? ⟨w.heap.size + 1, 1, none⟩ = some (.slice A2 (len (magZ z2)) c2) ∧ w'.cell? ⟨w.heap.size + 1, 2, none⟩ = some (.slice D2 (len d2) e2) ∧ w'.cell? ⟨g_a, 0, none⟩ = some (.bool (sgnZ M1)) ∧ w'.cell? ⟨g_a, 1, none⟩ = some (.slice A5 (len (magZ M1)) c5) ∧ w'.cell? ⟨g_b, 0, none⟩ = some (.bool (sgnZ M2)) ∧ w'.cell? ⟨g_b, 1, none⟩ = some (.slice A6 (len (magZ M2)) c6) ∧ w'.cell? ⟨g_n, 0, none⟩ = some (.bool (sgnZ S)) ∧ w'.cell? ⟨g_n, 1, none⟩ = some (.slice A7 (len (magZ S)) c7)) (go_keep)
    (first
     | (go_at_call 47; refine callsNamed ?_; intro p10 hp; clear q_x_0 q_x_1 q_x_2 f_x_0 f_x_1 f_x_2 q_x q_y_0 q_y_1 q_y_2 f_y_0 f_y_1 f_y_2 q_y q_r_0 q_r_1 q_r_2 f_r_0 f_r_1 f_r_2 q_r q_a_0 q_a_1 f_a_0 f_a_1 q_a q_b_0 q_b_1 f_b_0 f_b_1 q_b q_n_0 q_n_1 f_n_0 f_n_1 q_n; have O' : Old w p10 := (by rw [hp]; exact Below.trans (b := w9) O oldA); replace B_x : Bx p10 (w.heap.size) #[.bool (sgnZ z1), .slice A1 (len (magZ z1)) c1, .slice D1 (len d1) e1] := (bxK B_x hp); replace B_y : Bx p10 (w.heap.size + 1) #[.bool (sgnZ z2), .slice A2 (len (magZ z2)) c2, .slice D2 (len d2) e2] := (bxK B_y hp); replace B_r : Bx p10 (w.heap.size + 1 + 1) #[.bool false, .slice none 0 0, .slice none 0 0] := (bxK B_r hp); replace B_a : Bx p10 (g_a) #[.bool (sgnZ M1), .slice A5 (len (magZ M1)) c5] := (bxK B_a hp); replace B_b : Bx p10 (g_b) #[.bool (sgnZ M2), .slice A6 (len (magZ M2)) c6] := (bxK B_b hp); replace B_n : Bx p10 (g_n) #[.bool (sgnZ S), .slice A7 (len (magZ S)) c7] := (bxK B_n hp); replace r5 := rowK r5 hp; replace r6 := rowK r6 hp; replace r7 := rowK r7 hp; have zp10 : w9.heap.size ≤ p10.heap.size := (by rw [hp]; exact leA); clear hp O; have O := O'; clear O'; refine (l02Mul_any D1 D2 e1 e2 d1 d2 m1 m2 _ (Row.below (B := w.heap.size) k1 O (Nat.le_refl _)) (Row.below (B := w.heap.size) k2 O (Nat.le_refl _)) (by omega) (by omega)).mono ?_; rintro e w10 ⟨A8, c8, rfl, r8, o10⟩; replace B_x := Bx.old B_x o10; replace B_y := Bx.old B_y o10; replace B_r := Bx.old B_r o10; replace B_a := Bx.old B_a o10; replace B_b := Bx.old B_b o10; replace B_n := Bx.old B_n o10; replace r5 := Row.below r5 o10 (Nat.le_refl _); replace r6 := Row.below r6 o10 (Nat.le_refl _); replace r7 := Row.below r7 o10 (Nat.le_refl _); replace O := Old.trans O o10; have zw10 := o10.size; replace r8 := Row.more (lo' := p10.heap.size) r8 leA; have lim_r8 := Row.lim r8; obtain ⟨q_x_0, q_x_1, q_x_2, f_x_0, f_x_1, f_x_2, q_x⟩ := B_x.all3; obtain ⟨q_y_0, q_y_1, q_y_2, f_y_0, f_y_1, f_y_2, q_y⟩ := B_y.all3; obtain ⟨q_r_0, q_r_1, q_r_2, f_r_0, f_r_1, f_r_2, q_r⟩ := B_r.all3; obtain ⟨q_a_0, q_a_1, f_a_0, f_a_1, q_a⟩ := B_a.all2; obtain ⟨q_b_0, q_b_1, f_b_0, f_b_1, q_b⟩ := B_b.all2; obtain ⟨q_n_0, q_n_1, f_n_0, f_n_1, q_n⟩ := B_n.all2)
     | (go_at_call 45; refine callsNamed ?_; intro p11 hp; clear q_x_0 q_x_1 q_x_2 f_x_0 f_x_1 f_x_2 q_x q_y_0 q_y_1 q_y_2 f_y_0 f_y_1 f_y_2 q_y q_r_0 q_r_1 q_r_2 f_r_0 f_r_1 f_r_2 q_r q_a_0 q_a_1 f_a_0 f_a_1 q_a q_b_0 q_b_1 f_b_0 f_b_1 q_b q_n_0 q_n_1 f_n_0 f_n_1 q_n; have O' : Old w p11 := (by rw [hp]; exact Below.trans (b := w10) O oldA); replace B_x : Bx p11 (w.heap.size) #[.bool (sgnZ z1), .slice A1 (len (magZ z1)) c1, .slice D1 (len d1) e1] := (bxK B_x hp); replace B_y : Bx p11 (w.heap.size + 1) #[.bool (sgnZ z2), .slice A2 (len (magZ z2)) c2, .slice D2 (len d2) e2] := (bxK B_y hp); replace B_r : Bx p11 (w.heap.size + 1 + 1) #[.bool false, .slice none 0 0, .slice none 0 0] := (bxK B_r hp); replace B_a : Bx p11 (g_a) #[.bool (sgnZ M1), .slice A5 (len (magZ M1)) c5] := (bxK B_a hp); replace B_b : Bx p11 (g_b) #[.bool (sgnZ M2), .slice A6 (len (magZ M2)) c6] := (bxK B_b hp); replace B_n : Bx p11 (g_n) #[.bool (sgnZ S), .slice A7 (len (magZ S)) c7] := (bxK B_n hp); replace r5 := rowK r5 hp; replace r6 := rowK r6 hp; replace r7 := rowK r7 hp; replace r8 := rowK r8 hp; have zp11 : w10.heap.size ≤ p11.heap.size := (by rw [hp]; exact leA); clear hp O; have O := O'; clear O'; refine (l04Low_any (sgnZ S) A7 A8 c7 c8 (magZ S) (d1 * d2) _ _ _ r7 r8 (by omega) (by omega)).mono ?_; rintro e w11 ⟨⟨z9, d9, A9, c9, D9, e9, hv, rfl, r9, s9, ap⟩, o11⟩; replace B_x := Bx.old B_x o11; replace B_y := Bx.old B_y o11; replace B_r := Bx.old B_r o11; replace B_a := Bx.old B_a o11; replace B_b := Bx.old B_b o11; replace B_n := Bx.old B_n o11; replace r5 := Row.below r5 o11 (Nat.le_refl _); replace r6 := Row.below r6 o11 (Nat.le_refl _); replace r7 := Row.below r7 o11 (Nat.le_refl _); replace r8 := Row.below r8 o11 (Nat.le_refl _); replace O := Old.trans O o11; have zw11 := o11.size; replace r9 := Row.more (lo' := p11.heap.size) r9 leA; replace s9 := Row.more (lo' := p11.heap.size) s9 leA; have lim_r9 := Row.lim r9; have lim_s9 := Row.lim s9; have HV := Lib.hid hv; have AP := Lib.hid ap; clear hv ap; obtain ⟨q_x_0, q_x_1, q_x_2, f_x_0, f_x_1, f_x_2, q_x⟩ := B_x.all3; obtain ⟨q_y_0, q_y_1, q_y_2, f_y_0, f_y_1, f_y_2, q_y⟩ := B_y.all3; obtain ⟨q_r_0, q_r_1, q_r_2, f_r_0, f_r_1, f_r_2, q_r⟩ := B_r.all3; obtain ⟨q_a_0, q_a_1, f_a_0, f_a_1, q_a⟩ := B_a.all2; obtain ⟨q_b_0, q_b_1, f_b_0, f_b_1, q_b⟩ := B_b.all2; obtain ⟨q_n_0, q_n_1, f_n_0, f_n_1, q_n⟩ := B_n.all2))
  go_wp2
  refine bodyPost_ret (v := .agg #[.bool (sgnZ z9), .slice A9 (len (magZ z9)) c9, .slice D9 (len d9) e9]) (by simp [results, Try.results29, go_sem, q_r_0, q_r_1, q_r_2]) rfl ⟨⟨z9, d9, A9, c9, D9, e9, HC.out.trans HV.out, rfl, ?_, ?_, AP.out⟩, ?_⟩
  · refine Row.more (lo := p11.heap.size) ?_ leA
    repeat' (first | exact r9 | refine Row.far_set ?_ (by first | (simp <;> done) | (simp; omega) | omega) _)
  · refine Row.more (lo := p11.heap.size) ?_ leA
    repeat' (first | exact s9 | refine Row.far_set ?_ (by first | (simp <;> done) | (simp; omega) | omega) _)
  · exact Below.trans (b := w11) O oldA
set_option maxRecDepth 100000 in
set_option maxHeartbeats 1000000 in
theorem l04Add_gen2 (z1 : Int) (d1 : Nat) (A1 D1 : Option Addr) (c1 e1 l1 m1 : Nat) (z2 : Int) (d2 : Nat) (A2 D2 : Option Addr) (c2 e2 l2 m2 : Nat) (w : World) (h1 : NatS w l1 A1 c1 (magZ z1)) (k1 : NatS w m1 D1 e1 d1) (n1 : normF (z1, d1)) (h2 : NatS w l2 A2 c2 (magZ z2)) (k2 : NatS w m2 D2 e2 d2) (n2 : normF (z2, d2)) (o1 : d1 = 1) (o2 : ¬ d2 = 1) :
    Calls Try.prog 29 #[.agg #[.bool (sgnZ z1), .slice A1 (len (magZ z1)) c1, .slice D1 (len d1) e1], .agg #[.bool (sgnZ z2), .slice A2 (len (magZ z2)) c2, .slice D2 (len d2) e2]] w fun e w' => RetR e w' w.heap.size (addF (z1, d1) (z2, d2)) ∧ Old w w' := by
  have N1 := Lib.hid n1
  have LN1 := norm_len n1
  have La1 : len (magZ z1) ≤ 24 := LN1.1
  have Lb1 : len d1 ≤ 24 := LN1.2
  clear n1 LN1
  have N2 := Lib.hid n2
  have LN2 := norm_len n2
  have La2 : len (magZ z2) ≤ 24 := LN2.1
  have Lb2 : len d2 ≤ 24 := LN2.2
  clear n2 LN2
  obtain ⟨M1, hM1⟩ : ∃ M, M = z1 * (d2 : Int) := ⟨_, rfl⟩
  obtain ⟨M2, hM2⟩ : ∃ M, M = z2 * (d1 : Int) := ⟨_, rfl⟩
  have HM1 : Hid (signed (sgnZ z1) (magZ z1 * d2) = M1) := Lib.hid (by rw [signed_mul_nat, hM1])
  have HM2 : Hid (signed (sgnZ z2) (magZ z2 * d1) = M2) := Lib.hid (by rw [signed_mul_nat, hM2])
  have LM1 : len (magZ M1) ≤ 48 := by rw [hM1]; exact mul_len2 La1 Lb2
  have LM2 : len (magZ M2) ≤ 48 := by rw [hM2]; exact mul_len2 La2 Lb1
  have LX1 : len (magZ z1 * d2) ≤ 48 := mul_fit La1 Lb2
  have LX2 : len (magZ z2 * d1) ≤ 48 := mul_fit La2 Lb1
  obtain ⟨S, hS⟩ : ∃ S, S = M1 + M2 := ⟨_, rfl⟩
  have HS := Lib.hid hS.symm
  have LS : len (magZ S) ≤ 49 := by rw [hS]; exact add_fit LM1 LM2
  have HC : Hid (addF (z1, d1) (z2, d2) = mkF (signed (sgnZ S) (magZ S)) (d1 * d2)) := Lib.hid (by rw [signed_mag, hS, hM1, hM2]; rfl)
  have LQ : len (d1 * d2) ≤ 48 := mul_fit Lb1 Lb2
  clear hM1 hM2 hS
  have P1 := Lib.hid o1
  have P2 := Lib.hid o2
  clear o1 o2
  have O : Old w (((w.alloc (.cells #[.bool (sgnZ z1), .slice A1 (len (magZ z1)) c1, .slice D1 (len d1) e1] 32)).alloc (.cells #[.bool (sgnZ z2), .slice A2 (len (magZ z2)) c2, .slice D2 (len d2) e2] 32)).alloc (.cells #[.bool false, .slice none 0 0, .slice none 0 0] 32)) := oldA
  have B_x : Bx (((w.alloc (.cells #[.bool (sgnZ z1), .slice A1 (len (magZ z1)) c1, .slice D1 (len d1) e1] 32)).alloc (.cells #[.bool (sgnZ z2), .slice A2 (len (magZ z2)) c2, .slice D2 (len d2) e2] 32)).alloc (.cells #[.bool false, .slice none 0 0, .slice none 0 0] 32)) (w.heap.size) #[.bool (sgnZ z1), .slice A1 (len (magZ z1)) c1, .slice D1 (len d1) e1] := by have h := (Bx.alloc (Bx.alloc (Bx.new w #[.bool (sgnZ z1), .slice A1 (len (magZ z1)) c1, .slice D1 (len d1) e1] 32) (.cells #[.bool (sgnZ z2), .slice A2 (len (magZ z2)) c2, .slice D2 (len d2) e2] 32)) (.cells #[.bool false, .slice none 0 0, .slice none 0 0] 32)); simpa using h
  have B_y : Bx (((w.alloc (.cells #[.bool (sgnZ z1), .slice A1 (len (magZ z1)) c1, .slice D1 (len d1) e1] 32)).alloc (.cells #[.bool (sgnZ z2), .slice A2 (len (magZ z2)) c2, .slice D2 (len d2) e2] 32)).alloc (.cells #[.bool false, .slice none 0 0, .slice none 0 0] 32)) (w.heap.size + 1) #[.bool (sgnZ z2), .slice A2 (len (magZ z2)) c2, .slice D2 (len d2) e2] := by have h := (Bx.alloc (Bx.new (w.alloc (.cells #[.bool (sgnZ z1), .slice A1 (len (magZ z1)) c1, .slice D1 (len d1) e1] 32)) #[.bool (sgnZ z2), .slice A2 (len (magZ z2)) c2, .slice D2 (len d2) e2] 32) (.cells #[.bool false, .slice none 0 0, .slice none 0 0] 32)); simpa using h
  have B_r : Bx (((w.alloc (.cells #[.bool (sgnZ z1), .slice A1 (len (magZ z1)) c1, .slice D1 (len d1) e1] 32)).alloc (.cells #[.bool (sgnZ z2), .slice A2 (len (magZ z2)) c2, .slice D2 (len d2) e2] 32)).alloc (.cells #[.bool false, .slice none 0 0, .slice none 0 0] 32)) (w.heap.size + 1 + 1) #[.bool false, .slice none 0 0, .slice none 0 0] := by have h := (Bx.new ((w.alloc (.cells #[.bool (sgnZ z1), .slice A1 (len (magZ z1)) c1, .slice D1 (len d1) e1] 32)).alloc (.cells #[.bool (sgnZ z2), .slice A2 (len (magZ z2)) c2, .slice D2 (len d2) e2] 32)) #[.bool false, .slice none 0 0, .slice none 0 0] 32); simpa using h
  have ne_0_1 : ¬ (w.heap.size = w.heap.size + 1) := by omega
  have ne_0_2 : ¬ (w.heap.size = w.heap.size + 1 + 1) := by omega
  have ne_1_0 : ¬ (w.heap.size + 1 = w.heap.size) := by omega
  have ne_1_2 : ¬ (w.heap.size + 1 = w.heap.size + 1 + 1) := by omega
  have ne_2_0 : ¬ (w.heap.size + 1 + 1 = w.heap.size) := by omega
  have ne_2_1 : ¬ (w.heap.size + 1 + 1 = w.heap.size + 1) := by omega
  have ze : w.heap.size + 3 ≤ (((w.alloc (.cells #[.bool (sgnZ z1), .slice A1 (len (magZ z1)) c1, .slice D1 (len d1) e1] 32)).alloc (.cells #[.bool (sgnZ z2), .slice A2 (len (magZ z2)) c2, .slice D2 (len d2) e2] 32)).alloc (.cells #[.bool false, .slice none 0 0, .slice none 0 0] 32)).heap.size := (by simp)
  go_enter Try.func29, Try.ntmps29
  go_wp2_with fail
  refine callsNamed ?_
  intro p1 hp
  have O' : Old w p1 := (by rw [hp]; exact Below.trans (b := (((w.alloc (.cells #[.bool (sgnZ z1), .slice A1 (len (magZ z1)) c1, .slice D1 (len d1) e1] 32)).alloc (.cells #[.bool (sgnZ z2), .slice A2 (len (magZ z2)) c2, .slice D2 (len d2) e2] 32)).alloc (.cells #[.bool false, .slice none 0 0, .slice none 0 0] 32))) O oldA)
  replace B_x : Bx p1 (w.heap.size) #[.bool (sgnZ z1), .slice A1 (len (magZ z1)) c1, .slice D1 (len d1) e1] := (bxK B_x hp)
  replace B_y : Bx p1 (w.heap.size + 1) #[.bool (sgnZ z2), .slice A2 (len (magZ z2)) c2, .slice D2 (len d2) e2] := (bxK B_y hp)
  replace B_r : Bx p1 (w.heap.size + 1 + 1) #[.bool false, .slice none 0 0, .slice none 0 0] := (bxK B_r hp)
  have zp1 : (((w.alloc (.cells #[.bool (sgnZ z1), .slice A1 (len (magZ z1)) c1, .slice D1 (len d1) e1] 32)).alloc (.cells #[.bool (sgnZ z2), .slice A2 (len (magZ z2)) c2, .slice D2 (len d2) e2] 32)).alloc (.cells #[.bool false, .slice none 0 0, .slice none 0 0] 32)).heap.size ≤ p1.heap.size := (by rw [hp]; exact leA)
  clear hp O
  have O := O'
  clear O'
  refine (plain_to (by rw [decide_eq_true P1.out]) (l04One_any D1 e1 d1 m1 _ (Row.below (B := w.heap.size) k1 O (Nat.le_refl _)))).mono ?_
  rintro e w1 ⟨rfl, o1⟩
  replace B_x := Bx.old B_x o1
  replace B_y := Bx.old B_y o1
  replace B_r := Bx.old B_r o1
  replace O := Old.trans O o1
  have zw1 := o1.size
  obtain ⟨q_x_0, q_x_1, q_x_2, f_x_0, f_x_1, f_x_2, q_x⟩ := B_x.all3
  obtain ⟨q_y_0, q_y_1, q_y_2, f_y_0, f_y_1, f_y_2, q_y⟩ := B_y.all3
  obtain ⟨q_r_0, q_r_1, q_r_2, f_r_0, f_r_1, f_r_2, q_r⟩ := B_r.all3
  go_wp2_with fail
  refine callsNamed ?_
  intro p2 hp
  clear q_x_0 q_x_1 q_x_2 f_x_0 f_x_1 f_x_2 q_x q_y_0 q_y_1 q_y_2 f_y_0 f_y_1 f_y_2 q_y q_r_0 q_r_1 q_r_2 f_r_0 f_r_1 f_r_2 q_r
  have O' : Old w p2 := (by rw [hp]; exact Below.trans (b := w1) O oldA)
  replace B_x : Bx p2 (w.heap.size) #[.bool (sgnZ z1), .slice A1 (len (magZ z1)) c1, .slice D1 (len d1) e1] := (bxK B_x hp)
  replace B_y : Bx p2 (w.heap.size + 1) #[.bool (sgnZ z2), .slice A2 (len (magZ z2)) c2, .slice D2 (len d2) e2] := (bxK B_y hp)
  replace B_r : Bx p2 (w.heap.size + 1 + 1) #[.bool false, .slice none 0 0, .slice none 0 0] := (bxK B_r hp)
  have zp2 : w1.heap.size ≤ p2.heap.size := (by rw [hp]; exact leA)
  clear hp O
  have O := O'
  clear O'
  refine (plain_to (by rw [decide_eq_false P2.out]) (l04One_any D2 e2 d2 m2 _ (Row.below (B := w.heap.size) k2 O (Nat.le_refl _)))).mono ?_
  rintro e w2 ⟨rfl, o2⟩
  replace B_x := Bx.old B_x o2
  replace B_y := Bx.old B_y o2
  replace B_r := Bx.old B_r o2
  replace O := Old.trans O o2
  have zw2 := o2.size
  obtain ⟨q_x_0, q_x_1, q_x_2, f_x_0, f_x_1, f_x_2, q_x⟩ := B_x.all3
  obtain ⟨q_y_0, q_y_1, q_y_2, f_y_0, f_y_1, f_y_2, q_y⟩ := B_y.all3
  obtain ⟨q_r_0, q_r_1, q_r_2, f_r_0, f_r_1, f_r_2, q_r⟩ := B_r.all3
  have ne_w2_x : ¬ (w2.heap.size = w.heap.size) := (by omega)
  have ne_w2_y : ¬ (w2.heap.size = w.heap.size + 1) := (by omega)
  have en_w2_x : ¬ (w.heap.size = w2.heap.size) := (by omega)
  have en_w2_y : ¬ (w.heap.size + 1 = w2.heap.size) := (by omega)
  go_upto_region 4 with fail
  go_cut [6] (fun sl wx => ∃ (g : Nat) (A5 : Option Addr) (c5 : Nat), sl = .pointer (some ⟨g, 0, none⟩) ∧ w2.heap.size ≤ g ∧ Bx wx g #[.bool (sgnZ M1), .slice A5 (len (magZ M1)) c5] ∧ Row wx w2.heap.size A5 (len (magZ M1)) c5 (digI (magZ M1)) ∧ Old w2 wx)
  case first =>
    have OP : Old w2 w2 := Old.refl _
    go_region_held3 (fun w' => w'.cell? ⟨w.heap.size, 0, none⟩ = some (.bool (sgnZ z1)) ∧ w'.cell? ⟨w.heap.size, 1, none⟩ = some (.slice A1 (len (magZ z1)) c1) ∧ w'.cell? ⟨w.heap.size, 2, none⟩ = some (.slice D1 (len d1) e1) ∧ w'.cell? ⟨w.heap.size + 1, 0, none⟩ = some (.bool (sgnZ z2)) ∧ w'.cell? ⟨w.heap.size + 1, 1, none⟩ = some (.slice A2 (len (magZ z2)) c2) ∧ w'.cell? ⟨w.heap.size + 1, 2, none⟩ = some (.slice D2 (len d2) e2)) (go_keep)
      (first
       | (go_at_call 47; refine callsNamed ?_; intro p3 hp; clear q_x_0 q_x_1 q_x_2 f_x_0 f_x_1 f_x_2 q_x q_y_0 q_y_1 q_y_2 f_y_0 f_y_1 f_y_2 q_y q_r_0 q_r_1 q_r_2 f_r_0 f_r_1 f_r_2 q_r; have O' : Old w p3 := (by rw [hp]; exact Below.trans (b := w2) O oldA); replace B_x : Bx p3 (w.heap.size) #[.bool (sgnZ z1), .slice A1 (len (magZ z1)) c1, .slice D1 (len d1) e1] := (bxK B_x hp); replace B_y : Bx p3 (w.heap.size + 1) #[.bool (sgnZ z2), .slice A2 (len (magZ z2)) c2, .slice D2 (len d2) e2] := (bxK B_y hp); replace B_r : Bx p3 (w.heap.size + 1 + 1) #[.bool false, .slice none 0 0, .slice none 0 0] := (bxK B_r hp); replace OP : Old w2 p3 := (by rw [hp]; exact Below.trans (b := w2) OP oldA); (first | (replace E := bxK E hp) | (have E : Bx p3 w2.heap.size #[.bool false, .slice none 0 0] := (eNew hp); have nE_x : ¬ (w2.heap.size = w.heap.size) := (by omega); have eN_x : ¬ (w.heap.size = w2.heap.size) := (by omega); have nE_y : ¬ (w2.heap.size = w.heap.size + 1) := (by omega); have eN_y : ¬ (w.heap.size + 1 = w2.heap.size) := (by omega); have nE_r : ¬ (w2.heap.size = w.heap.size + 1 + 1) := (by omega); have eN_r : ¬ (w.heap.size + 1 + 1 = w2.heap.size) := (by omega); have ltE := Bx.lt E) | skip); have zp3 : w2.heap.size ≤ p3.heap.size := (by rw [hp]; exact leA); clear hp O; have O := O'; clear O'; refine (l02Mul_any A1 D2 c1 e2 (magZ z1) d2 l1 m2 _ (Row.below (B := w.heap.size) h1 O (Nat.le_refl _)) (Row.below (B := w.heap.size) k2 O (Nat.le_refl _)) (by omega) (by omega)).mono ?_; rintro e w3 ⟨A3, c3, rfl, r3, o3⟩; replace B_x := Bx.old B_x o3; replace B_y := Bx.old B_y o3; replace B_r := Bx.old B_r o3; replace O := Old.trans O o3; replace OP := Old.trans OP o3; (first | (replace E := Bx.old E o3) | skip); have zw3 := o3.size; replace r3 := Row.more (lo' := p3.heap.size) r3 leA; have lim_r3 := Row.lim r3; obtain ⟨q_x_0, q_x_1, q_x_2, f_x_0, f_x_1, f_x_2, q_x⟩ := B_x.all3; obtain ⟨q_y_0, q_y_1, q_y_2, f_y_0, f_y_1, f_y_2, q_y⟩ := B_y.all3; obtain ⟨q_r_0, q_r_1, q_r_2, f_r_0, f_r_1, f_r_2, q_r⟩ := B_r.all3; have ne_w3_x : ¬ (w3.heap.size = w.heap.size) := (by omega); have ne_w3_y : ¬ (w3.heap.size = w.heap.size + 1) := (by omega); have en_w3_x : ¬ (w.heap.size = w3.heap.size) := (by omega); have en_w3_y : ¬ (w.heap.size + 1 = w3.heap.size) := (by omega); (first | (have qE0 := E.cell 0 rfl; have qE1 := E.cell 1 rfl; have fE0 := E.frozen 0; have fE1 := E.frozen 1; have qE := E.lt) | skip))
       | (go_at_call 46; (first | (clear qE0 qE1 fE0 fE1 qE) | skip); refine callsNamed ?_; intro p4 hp; clear q_x_0 q_x_1 q_x_2 f_x_0 f_x_1 f_x_2 q_x q_y_0 q_y_1 q_y_2 f_y_0 f_y_1 f_y_2 q_y q_r_0 q_r_1 q_r_2 f_r_0 f_r_1 f_r_2 q_r; have O' : Old w p4 := (by rw [hp]; exact Below.trans (b := w3) O oldA); replace B_x : Bx p4 (w.heap.size) #[.bool (sgnZ z1), .slice A1 (len (magZ z1)) c1, .slice D1 (len d1) e1] := (bxK B_x hp); replace B_y : Bx p4 (w.heap.size + 1) #[.bool (sgnZ z2), .slice A2 (len (magZ z2)) c2, .slice D2 (len d2) e2] := (bxK B_y hp); replace B_r : Bx p4 (w.heap.size + 1 + 1) #[.bool false, .slice none 0 0, .slice none 0 0] := (bxK B_r hp); replace r3 := rowK r3 hp; replace OP : Old w2 p4 := (by rw [hp]; exact Below.trans (b := w3) OP oldA); (first | (replace E := bxK E hp) | (have E : Bx p4 w3.heap.size #[.bool false, .slice none 0 0] := (eNew hp); have nE_x : ¬ (w3.heap.size = w.heap.size) := (by omega); have eN_x : ¬ (w.heap.size = w3.heap.size) := (by omega); have nE_y : ¬ (w3.heap.size = w.heap.size + 1) := (by omega); have eN_y : ¬ (w.heap.size + 1 = w3.heap.size) := (by omega); have nE_r : ¬ (w3.heap.size = w.heap.size + 1 + 1) := (by omega); have eN_r : ¬ (w.heap.size + 1 + 1 = w3.heap.size) := (by omega); have ltE := Bx.lt E) | skip); have zp4 : w3.heap.size ≤ p4.heap.size := (by rw [hp]; exact leA); clear hp O; have O := O'; clear O'; refine (retB_to HM1.out (l03Make_fit (sgnZ z1) A3 c3 (magZ z1 * d2) _ _ r3 (by omega))).mono ?_; rintro e w4 ⟨⟨A5, c5, rfl, r5⟩, o4⟩; replace B_x := Bx.old B_x o4; replace B_y := Bx.old B_y o4; replace B_r := Bx.old B_r o4; replace r3 := Row.below r3 o4 (Nat.le_refl _); replace O := Old.trans O o4; replace OP := Old.trans OP o4; (first | (replace E := Bx.old E o4) | skip); have zw4 := o4.size; replace r5 := Row.more (lo' := p4.heap.size) r5 leA; have lim_r5 := Row.lim r5; obtain ⟨q_x_0, q_x_1, q_x_2, f_x_0, f_x_1, f_x_2, q_x⟩ := B_x.all3; obtain ⟨q_y_0, q_y_1, q_y_2, f_y_0, f_y_1, f_y_2, q_y⟩ := B_y.all3; obtain ⟨q_r_0, q_r_1, q_r_2, f_r_0, f_r_1, f_r_2, q_r⟩ := B_r.all3; have ne_w4_x : ¬ (w4.heap.size = w.heap.size) := (by omega); have ne_w4_y : ¬ (w4.heap.size = w.heap.size + 1) := (by omega); have en_w4_x : ¬ (w.heap.size = w4.heap.size) := (by omega); have en_w4_y : ¬ (w.heap.size + 1 = w4.heap.size) := (by omega); (first | (have qE0 := E.cell 0 rfl; have qE1 := E.cell 1 rfl; have fE0 := E.frozen 0; have fE1 := E.frozen 1; have qE := E.lt) | skip)))
    all_goals (go_wp2_with fail; go_meet; exact ⟨_, A5, c5, rfl, leA, (by first | exact Bx.new _ _ _ | exact Bx.put2 E _ _ | exact Bx.put2 (Bx.new _ _ _) _ _ | exact Bx.put2 (Bx.drew (Bx.new _ _ _)) _ _), (by refine Row.more (lo := p4.heap.size) ?_ leA; first | exact (Row.far_set (Row.far_set r5 (by first | (simp <;> done) | (simp; omega) | omega) _) (by first | (simp <;> done) | (simp; omega) | omega) _) | exact Row.below (B := w4.heap.size) r5 oldA (Nat.le_refl _)), Below.trans (b := w4) OP oldA⟩)
  case rest =>
  obtain ⟨g_a, A5, c5, rfl, hg_a, B_a, r5, o5⟩ := hcut
  obtain ⟨w5, hw⟩ : ∃ x, x = wc := ⟨_, rfl⟩
  subst hw
  clear q_x_0 q_x_1 q_x_2 f_x_0 f_x_1 f_x_2 q_x q_y_0 q_y_1 q_y_2 f_y_0 f_y_1 f_y_2 q_y q_r_0 q_r_1 q_r_2 f_r_0 f_r_1 f_r_2 q_r
  clear ne_w2_x en_w2_x ne_w2_y en_w2_y
  replace B_x := Bx.old B_x o5
  replace B_y := Bx.old B_y o5
  replace B_r := Bx.old B_r o5
  replace O := Old.trans O o5
  have zw5 := o5.size
  have lt_a := B_a.lt
  have ne_a_x : ¬ (g_a = w.heap.size) := by omega
  have en_a_x : ¬ (w.heap.size = g_a) := by omega
  have ne_a_y : ¬ (g_a = w.heap.size + 1) := by omega
  have en_a_y : ¬ (w.heap.size + 1 = g_a) := by omega
  have ne_a_r : ¬ (g_a = w.heap.size + 1 + 1) := by omega
  have en_a_r : ¬ (w.heap.size + 1 + 1 = g_a) := by omega
  have lim_r5 := Row.lim r5
  obtain ⟨q_x_0, q_x_1, q_x_2, f_x_0, f_x_1, f_x_2, q_x⟩ := B_x.all3
  obtain ⟨q_y_0, q_y_1, q_y_2, f_y_0, f_y_1, f_y_2, q_y⟩ := B_y.all3
  obtain ⟨q_r_0, q_r_1, q_r_2, f_r_0, f_r_1, f_r_2, q_r⟩ := B_r.all3
  obtain ⟨q_a_0, q_a_1, f_a_0, f_a_1, q_a⟩ := B_a.all2
  have ne_w5_x : ¬ (w5.heap.size = w.heap.size) := (by omega)
  have ne_w5_y : ¬ (w5.heap.size = w.heap.size + 1) := (by omega)
  have ne_w5_a : ¬ (w5.heap.size = g_a) := (by omega)
  have en_w5_x : ¬ (w.heap.size = w5.heap.size) := (by omega)
  have en_w5_y : ¬ (w.heap.size + 1 = w5.heap.size) := (by omega)
  have en_w5_a : ¬ (g_a = w5.heap.size) := (by omega)
  go_upto_region 5 with fail
  go_cut [7] (fun sl wx => ∃ (g : Nat) (A6 : Option Addr) (c6 : Nat), sl = .pointer (some ⟨g, 0, none⟩) ∧ w5.heap.size ≤ g ∧ Bx wx g #[.bool (sgnZ M2), .slice A6 (len (magZ M2)) c6] ∧ Row wx w5.heap.size A6 (len (magZ M2)) c6 (digI (magZ M2)) ∧ Old w5 wx)
  case first =>
    have OP : Old w5 w5 := Old.refl _
    go_region_held3 (fun w' => w'.cell? ⟨w.heap.size, 0, none⟩ = some (.bool (sgnZ z1)) ∧ w'.cell? ⟨w.heap.size, 1, none⟩ = some (.slice A1 (len (magZ z1)) c1) ∧ w'.cell? ⟨w.heap.size, 2, none⟩ = some (.slice D1 (len d1) e1) ∧ w'.cell? ⟨w.heap.size + 1, 0, none⟩ = some (.bool (sgnZ z2)) ∧ w'.cell? ⟨w.heap.size + 1, 1, none⟩ = some (.slice A2 (len (magZ z2)) c2) ∧ w'.cell? ⟨w.heap.size + 1, 2, none⟩ = some (.slice D2 (len d2) e2) ∧ w'.cell? ⟨g_a, 0, none⟩ = some (.bool (sgnZ M1)) ∧ w'.cell? ⟨g_a, 1, none⟩ = some (.slice A5 (len (magZ M1)) c5)) (go_keep)
      (first
       | (go_at_call 47; refine callsNamed ?_; intro p6 hp; clear q_x_0 q_x_1 q_x_2 f_x_0 f_x_1 f_x_2 q_x q_y_0 q_y_1 q_y_2 f_y_0 f_y_1 f_y_2 q_y q_r_0 q_r_1 q_r_2 f_r_0 f_r_1 f_r_2 q_r q_a_0 q_a_1 f_a_0 f_a_1 q_a; have O' : Old w p6 := (by rw [hp]; exact Below.trans (b := w5) O oldA); replace B_x : Bx p6 (w.heap.size) #[.bool (sgnZ z1), .slice A1 (len (magZ z1)) c1, .slice D1 (len d1) e1] := (bxK B_x hp); replace B_y : Bx p6 (w.heap.size + 1) #[.bool (sgnZ z2), .slice A2 (len (magZ z2)) c2, .slice D2 (len d2) e2] := (bxK B_y hp); replace B_r : Bx p6 (w.heap.size + 1 + 1) #[.bool false, .slice none 0 0, .slice none 0 0] := (bxK B_r hp); replace B_a : Bx p6 (g_a) #[.bool (sgnZ M1), .slice A5 (len (magZ M1)) c5] := (bxK B_a hp); replace r5 := rowK r5 hp; replace OP : Old w5 p6 := (by rw [hp]; exact Below.trans (b := w5) OP oldA); (first | (replace E := bxK E hp) | (have E : Bx p6 w5.heap.size #[.bool false, .slice none 0 0] := (eNew hp); have nE_x : ¬ (w5.heap.size = w.heap.size) := (by omega); have eN_x : ¬ (w.heap.size = w5.heap.size) := (by omega); have nE_y : ¬ (w5.heap.size = w.heap.size + 1) := (by omega); have eN_y : ¬ (w.heap.size + 1 = w5.heap.size) := (by omega); have nE_r : ¬ (w5.heap.size = w.heap.size + 1 + 1) := (by omega); have eN_r : ¬ (w.heap.size + 1 + 1 = w5.heap.size) := (by omega); have nE_a : ¬ (w5.heap.size = g_a) := (by omega); have eN_a : ¬ (g_a = w5.heap.size) := (by omega); have ltE := Bx.lt E) | skip); have zp6 : w5.heap.size ≤ p6.heap.size := (by rw [hp]; exact leA); clear hp O; have O := O'; clear O'; refine (l02Mul_any A2 D1 c2 e1 (magZ z2) d1 l2 m1 _ (Row.below (B := w.heap.size) h2 O (Nat.le_refl _)) (Row.below (B := w.heap.size) k1 O (Nat.le_refl _)) (by omega) (by omega)).mono ?_; rintro e w6 ⟨A4, c4, rfl, r4, o6⟩; replace B_x := Bx.old B_x o6; replace B_y := Bx.old B_y o6; replace B_r := Bx.old B_r o6; replace B_a := Bx.old B_a o6; replace r5 := Row.below r5 o6 (Nat.le_refl _); replace O := Old.trans O o6; replace OP := Old.trans OP o6; (first | (replace E := Bx.old E o6) | skip); have zw6 := o6.size; replace r4 := Row.more (lo' := p6.heap.size) r4 leA; have lim_r4 := Row.lim r4; obtain ⟨q_x_0, q_x_1, q_x_2, f_x_0, f_x_1, f_x_2, q_x⟩ := B_x.all3; obtain ⟨q_y_0, q_y_1, q_y_2, f_y_0, f_y_1, f_y_2, q_y⟩ := B_y.all3; obtain ⟨q_r_0, q_r_1, q_r_2, f_r_0, f_r_1, f_r_2, q_r⟩ := B_r.all3; obtain ⟨q_a_0, q_a_1, f_a_0, f_a_1, q_a⟩ := B_a.all2; have ne_w6_x : ¬ (w6.heap.size = w.heap.size) := (by omega); have ne_w6_y : ¬ (w6.heap.size = w.heap.size + 1) := (by omega); have ne_w6_a : ¬ (w6.heap.size = g_a) := (by omega); have en_w6_x : ¬ (w.heap.size = w6.heap.size) := (by omega); have en_w6_y : ¬ (w.heap.size + 1 = w6.heap.size) := (by omega); have en_w6_a : ¬ (g_a = w6.heap.size) := (by omega); (first | (have qE0 := E.cell 0 rfl; have qE1 := E.cell 1 rfl; have fE0 := E.frozen 0; have fE1 := E.frozen 1; have qE := E.lt) | skip))
       | (go_at_call 46; (first | (clear qE0 qE1 fE0 fE1 qE) | skip); refine callsNamed ?_; intro p7 hp; clear q_x_0 q_x_1 q_x_2 f_x_0 f_x_1 f_x_2 q_x q_y_0 q_y_1 q_y_2 f_y_0 f_y_1 f_y_2 q_y q_r_0 q_r_1 q_r_2 f_r_0 f_r_1 f_r_2 q_r q_a_0 q_a_1 f_a_0 f_a_1 q_a; have O' : Old w p7 := (by rw [hp]; exact Below.trans (b := w6) O oldA); replace B_x : Bx p7 (w.heap.size) #[.bool (sgnZ z1), .slice A1 (len (magZ z1)) c1, .slice D1 (len d1) e1] := (bxK B_x hp); replace B_y : Bx p7 (w.heap.size + 1) #[.bool (sgnZ z2), .slice A2 (len (magZ z2)) c2, .slice D2 (len d2) e2] := (bxK B_y hp); replace B_r : Bx p7 (w.heap.size + 1 + 1) #[.bool false, .slice none 0 0, .slice none 0 0] := (bxK B_r hp); replace B_a : Bx p7 (g_a) #[.bool (sgnZ M1), .slice A5 (len (magZ M1)) c5] := (bxK B_a hp); replace r5 := rowK r5 hp; replace r4 := rowK r4 hp; replace OP : Old w5 p7 := (by rw [hp]; exact Below.trans (b := w6) OP oldA); (first | (replace E := bxK E hp) | (have E : Bx p7 w6.heap.size #[.bool false, .slice none 0 0] := (eNew hp); have nE_x : ¬ (w6.heap.size = w.heap.size) := (by omega); have eN_x : ¬ (w.heap.size = w6.heap.size) := (by omega); have nE_y : ¬ (w6.heap.size = w.heap.size + 1) := (by omega); have eN_y : ¬ (w.heap.size + 1 = w6.heap.size) := (by omega); have nE_r : ¬ (w6.heap.size = w.heap.size + 1 + 1) := (by omega); have eN_r : ¬ (w.heap.size + 1 + 1 = w6.heap.size) := (by omega); have nE_a : ¬ (w6.heap.size = g_a) := (by omega); have eN_a : ¬ (g_a = w6.heap.size) := (by omega); have ltE := Bx.lt E) | skip); have zp7 : w6.heap.size ≤ p7.heap.size := (by rw [hp]; exact leA); clear hp O; have O := O'; clear O'; refine (retB_to HM2.out (l03Make_fit (sgnZ z2) A4 c4 (magZ z2 * d1) _ _ r4 (by omega))).mono ?_; rintro e w7 ⟨⟨A6, c6, rfl, r6⟩, o7⟩; replace B_x := Bx.old B_x o7; replace B_y := Bx.old B_y o7; replace B_r := Bx.old B_r o7; replace B_a := Bx.old B_a o7; replace r5 := Row.below r5 o7 (Nat.le_refl _); replace r4 := Row.below r4 o7 (Nat.le_refl _); replace O := Old.trans O o7; replace OP := Old.trans OP o7; (first | (replace E := Bx.old E o7) | skip); have zw7 := o7.size; replace r6 := Row.more (lo' := p7.heap.size) r6 leA; have lim_r6 := Row.lim r6; obtain ⟨q_x_0, q_x_1, q_x_2, f_x_0, f_x_1, f_x_2, q_x⟩ := B_x.all3; obtain ⟨q_y_0, q_y_1, q_y_2, f_y_0, f_y_1, f_y_2, q_y⟩ := B_y.all3; obtain ⟨q_r_0, q_r_1, q_r_2, f_r_0, f_r_1, f_r_2, q_r⟩ := B_r.all3; obtain ⟨q_a_0, q_a_1, f_a_0, f_a_1, q_a⟩ := B_a.all2; have ne_w7_x : ¬ (w7.heap.size = w.heap.size) := (by omega); have ne_w7_y : ¬ (w7.heap.size = w.heap.size + 1) := (by omega); have ne_w7_a : ¬ (w7.heap.size = g_a) := (by omega); have en_w7_x : ¬ (w.heap.size = w7.heap.size) := (by omega); have en_w7_y : ¬ (w.heap.size + 1 = w7.heap.size) := (by omega); have en_w7_a : ¬ (g_a = w7.heap.size) := (by omega); (first | (have qE0 := E.cell 0 rfl; have qE1 := E.cell 1 rfl; have fE0 := E.frozen 0; have fE1 := E.frozen 1; have qE := E.lt) | skip)))
    all_goals (go_wp2_with fail; go_meet; exact ⟨_, A6, c6, rfl, leA, (by first | exact Bx.new _ _ _ | exact Bx.put2 E _ _ | exact Bx.put2 (Bx.new _ _ _) _ _ | exact Bx.put2 (Bx.drew (Bx.new _ _ _)) _ _), (by refine Row.more (lo := p7.heap.size) ?_ leA; first | exact (Row.far_set (Row.far_set r6 (by first | (simp <;> done) | (simp; omega) | omega) _) (by first | (simp <;> done) | (simp; omega) | omega) _) | exact Row.below (B := w7.heap.size) r6 oldA (Nat.le_refl _)), Below.trans (b := w7) OP oldA⟩)
  case rest =>
  obtain ⟨g_b, A6, c6, rfl, hg_b, B_b, r6, o8⟩ := hcut
  obtain ⟨w8, hw⟩ : ∃ x, x = wc := ⟨_, rfl⟩
  subst hw
  clear q_x_0 q_x_1 q_x_2 f_x_0 f_x_1 f_x_2 q_x q_y_0 q_y_1 q_y_2 f_y_0 f_y_1 f_y_2 q_y q_r_0 q_r_1 q_r_2 f_r_0 f_r_1 f_r_2 q_r q_a_0 q_a_1 f_a_0 f_a_1 q_a
  clear ne_w5_x en_w5_x ne_w5_y en_w5_y ne_w5_a en_w5_a
  replace B_x := Bx.old B_x o8
  replace B_y := Bx.old B_y o8
  replace B_r := Bx.old B_r o8
  replace B_a := Bx.old B_a o8
  replace r5 := Row.below r5 o8 (Nat.le_refl _)
  replace O := Old.trans O o8
  have zw8 := o8.size
  have lt_b := B_b.lt
  have ne_b_x : ¬ (g_b = w.heap.size) := by omega
  have en_b_x : ¬ (w.heap.size = g_b) := by omega
  have ne_b_y : ¬ (g_b = w.heap.size + 1) := by omega
  have en_b_y : ¬ (w.heap.size + 1 = g_b) := by omega
  have ne_b_r : ¬ (g_b = w.heap.size + 1 + 1) := by omega
  have en_b_r : ¬ (w.heap.size + 1 + 1 = g_b) := by omega
  have ne_b_a : ¬ (g_b = g_a) := by omega
  have en_b_a : ¬ (g_a = g_b) := by omega
  have lim_r6 := Row.lim r6
  obtain ⟨q_x_0, q_x_1, q_x_2, f_x_0, f_x_1, f_x_2, q_x⟩ := B_x.all3
  obtain ⟨q_y_0, q_y_1, q_y_2, f_y_0, f_y_1, f_y_2, q_y⟩ := B_y.all3
  obtain ⟨q_r_0, q_r_1, q_r_2, f_r_0, f_r_1, f_r_2, q_r⟩ := B_r.all3
  obtain ⟨q_a_0, q_a_1, f_a_0, f_a_1, q_a⟩ := B_a.all2
  obtain ⟨q_b_0, q_b_1, f_b_0, f_b_1, q_b⟩ := B_b.all2
  go_upto_region 6 with fail
  go_cut [8] (fun sl wx => ∃ (g : Nat) (A7 : Option Addr) (c7 : Nat), sl = .pointer (some ⟨g, 0, none⟩) ∧ w8.heap.size ≤ g ∧ Bx wx g #[.bool (sgnZ S), .slice A7 (len (magZ S)) c7] ∧ Row wx w8.heap.size A7 (len (magZ S)) c7 (digI (magZ S)) ∧ Old w8 wx)
  case first =>
    have OP : Old w8 w8 := Old.refl _
    go_wp2_with fail
    refine callsNamed ?_
    intro p9 hp
    clear q_x_0 q_x_1 q_x_2 f_x_0 f_x_1 f_x_2 q_x q_y_0 q_y_1 q_y_2 f_y_0 f_y_1 f_y_2 q_y q_r_0 q_r_1 q_r_2 f_r_0 f_r_1 f_r_2 q_r q_a_0 q_a_1 f_a_0 f_a_1 q_a q_b_0 q_b_1 f_b_0 f_b_1 q_b
    have O' : Old w p9 := (by rw [hp]; exact Below.trans (b := w8) O oldA)
    replace B_x : Bx p9 (w.heap.size) #[.bool (sgnZ z1), .slice A1 (len (magZ z1)) c1, .slice D1 (len d1) e1] := (bxK B_x hp)
    replace B_y : Bx p9 (w.heap.size + 1) #[.bool (sgnZ z2), .slice A2 (len (magZ z2)) c2, .slice D2 (len d2) e2] := (bxK B_y hp)
    replace B_r : Bx p9 (w.heap.size + 1 + 1) #[.bool false, .slice none 0 0, .slice none 0 0] := (bxK B_r hp)
    replace B_a : Bx p9 (g_a) #[.bool (sgnZ M1), .slice A5 (len (magZ M1)) c5] := (bxK B_a hp)
    replace B_b : Bx p9 (g_b) #[.bool (sgnZ M2), .slice A6 (len (magZ M2)) c6] := (bxK B_b hp)
    replace r5 := rowK r5 hp
    replace r6 := rowK r6 hp
    replace OP : Old w8 p9 := (by rw [hp]; exact Below.trans (b := w8) OP oldA)
    have zp9 : w8.heap.size ≤ p9.heap.size := (by rw [hp]; exact leA)
    clear hp O
    have O := O'
    clear O'
    refine (retB_to HS.out (l03Add_fit M1 M2 A5 A6 c5 c6 _ _ _ r5 r6 (by omega) (by omega))).mono ?_
    rintro e w9 ⟨⟨A7, c7, rfl, r7⟩, o9⟩
    replace B_x := Bx.old B_x o9
    replace B_y := Bx.old B_y o9
    replace B_r := Bx.old B_r o9
    replace B_a := Bx.old B_a o9
    replace B_b := Bx.old B_b o9
    replace r5 := Row.below r5 o9 (Nat.le_refl _)
    replace r6 := Row.below r6 o9 (Nat.le_refl _)
    replace O := Old.trans O o9
    replace OP := Old.trans OP o9
    have zw9 := o9.size
    replace r7 := Row.more (lo' := p9.heap.size) r7 leA
    have lim_r7 := Row.lim r7
    obtain ⟨q_x_0, q_x_1, q_x_2, f_x_0, f_x_1, f_x_2, q_x⟩ := B_x.all3
    obtain ⟨q_y_0, q_y_1, q_y_2, f_y_0, f_y_1, f_y_2, q_y⟩ := B_y.all3
    obtain ⟨q_r_0, q_r_1, q_r_2, f_r_0, f_r_1, f_r_2, q_r⟩ := B_r.all3
    obtain ⟨q_a_0, q_a_1, f_a_0, f_a_1, q_a⟩ := B_a.all2
    obtain ⟨q_b_0, q_b_1, f_b_0, f_b_1, q_b⟩ := B_b.all2
    go_wp2_with fail
    go_meet
    exact ⟨_, A7, c7, rfl, leA, (by first | exact Bx.new _ _ _ | exact Bx.put2 (Bx.new _ _ _) _ _ | exact Bx.put2 (Bx.drew (Bx.new _ _ _)) _ _), (by refine Row.more (lo := p9.heap.size) ?_ leA; first | exact (Row.far_set (Row.far_set r7 (by first | (simp <;> done) | (simp; omega) | omega) _) (by first | (simp <;> done) | (simp; omega) | omega) _) | exact Row.below (B := w9.heap.size) r7 oldA (Nat.le_refl _)), Below.trans (b := w9) OP oldA⟩
  case rest =>
  obtain ⟨g_n, A7, c7, rfl, hg_n, B_n, r7, o10⟩ := hcut
  obtain ⟨w10, hw⟩ : ∃ x, x = wc := ⟨_, rfl⟩
  subst hw
  clear q_x_0 q_x_1 q_x_2 f_x_0 f_x_1 f_x_2 q_x q_y_0 q_y_1 q_y_2 f_y_0 f_y_1 f_y_2 q_y q_r_0 q_r_1 q_r_2 f_r_0 f_r_1 f_r_2 q_r q_a_0 q_a_1 f_a_0 f_a_1 q_a q_b_0 q_b_1 f_b_0 f_b_1 q_b
  replace B_x := Bx.old B_x o10
  replace B_y := Bx.old B_y o10
  replace B_r := Bx.old B_r o10
  replace B_a := Bx.old B_a o10
  replace B_b := Bx.old B_b o10
  replace r5 := Row.below r5 o10 (Nat.le_refl _)
  replace r6 := Row.below r6 o10 (Nat.le_refl _)
  replace O := Old.trans O o10
  have zw10 := o10.size
  have lt_n := B_n.lt
  have ne_n_x : ¬ (g_n = w.heap.size) := by omega
  have en_n_x : ¬ (w.heap.size = g_n) := by omega
  have ne_n_y : ¬ (g_n = w.heap.size + 1) := by omega
  have en_n_y : ¬ (w.heap.size + 1 = g_n) := by omega
  have ne_n_r : ¬ (g_n = w.heap.size + 1 + 1) := by omega
  have en_n_r : ¬ (w.heap.size + 1 + 1 = g_n) := by omega
  have ne_n_a : ¬ (g_n = g_a) := by omega
  have en_n_a : ¬ (g_a = g_n) := by omega
  have ne_n_b : ¬ (g_n = g_b) := by omega
  have en_n_b : ¬ (g_b = g_n) := by omega
  have lim_r7 := Row.lim r7
  obtain ⟨q_x_0, q_x_1, q_x_2, f_x_0, f_x_1, f_x_2, q_x⟩ := B_x.all3
  obtain ⟨q_y_0, q_y_1, q_y_2, f_y_0, f_y_1, f_y_2, q_y⟩ := B_y.all3
  obtain ⟨q_r_0, q_r_1, q_r_2, f_r_0, f_r_1, f_r_2, q_r⟩ := B_r.all3
  obtain ⟨q_a_0, q_a_1, f_a_0, f_a_1, q_a⟩ := B_a.all2
  obtain ⟨q_b_0, q_b_1, f_b_0, f_b_1, q_b⟩ := B_b.all2
  obtain ⟨q_n_0, q_n_1, f_n_0, f_n_1, q_n⟩ := B_n.all2
  go_wp2_with fail
  go_region_held3 (fun w' => w'.cell? ⟨w.heap.size, 0, none⟩ = some (.bool (sgnZ z1)) ∧ w'.cell? ⟨w.heap.size, 1, none⟩ = some (.slice A1 (len (magZ z1)) c1) ∧ w'.cell? ⟨w.heap.size, 2, none⟩ = some (.slice D1 (len d1) e1) ∧ w'.cell? ⟨w.heap.size + 1, 0, none⟩ = some (.bool (sgnZ z2)) ∧ w'.cell? ⟨w.heap.size + 1, 1, none⟩ = some (.slice A2 (len (magZ z2)) c2) ∧ w'.cell? ⟨w.heap.size + 1, 2, none⟩ = some (.slice D2 (len d2) e2) ∧ w'.cell? ⟨g_a, 0, none⟩ = some (.bool (sgnZ M1)) ∧ w'.cell? ⟨g_a, 1, none⟩ = some (.slice A5 (len (magZ M1)) c5) ∧ w'.cell? ⟨g_b, 0, none⟩ = some (.bool (sgnZ M2)) ∧ w'.cell? ⟨g_b, 1, none⟩ = some (.slice A6 (len (magZ M2)) c6) ∧ w'.cell? ⟨g_n, 0, none⟩ = some (.bool (sgnZ S)) ∧ w'.cell? ⟨g_n, 1, none⟩ = some (.slice A7 (len (magZ S)) c7)) (go_keep)
    (first
     | (go_at_call 47; refine callsNamed ?_; intro p11 hp; clear q_x_0 q_x_1 q_x_2 f_x_0 f_x_1 f_x_2 q_x q_y_0 q_y_1 q_y_2 f_y_0 f_y_1 f_y_2 q_y q_r_0 q_r_1 q_r_2 f_r_0 f_r_1 f_r_2 q_r q_a_0 q_a_1 f_a_0 f_a_1 q_a q_b_0 q_b_1 f_b_0 f_b_1 q_b q_n_0 q_n_1 f_n_0 f_n_1 q_n; have O' : Old w p11 := (by rw [hp]; exact Below.trans (b := w10) O oldA); replace B_x : Bx p11 (w.heap.size) #[.bool (sgnZ z1), .slice A1 (len (magZ z1)) c1, .slice D1 (len d1) e1] := (bxK B_x hp); replace B_y : Bx p11 (w.heap.size + 1) #[.bool (sgnZ z2), .slice A2 (len (magZ z2)) c2, .slice D2 (len d2) e2] := (bxK B_y hp); replace B_r : Bx p11 (w.heap.size + 1 + 1) #[.bool false, .slice none 0 0, .slice none 0 0] := (bxK B_r hp); replace B_a : Bx p11 (g_a) #[.bool (sgnZ M1), .slice A5 (len (magZ M1)) c5] := (bxK B_a hp); replace B_b : Bx p11 (g_b) #[.bool (sgnZ M2), .slice A6 (len (magZ M2)) c6] := (bxK B_b hp); replace B_n : Bx p11 (g_n) #[.bool (sgnZ S), .slice A7 (len (magZ S)) c7] := (bxK B_n hp); replace r5 := rowK r5 hp; replace r6 := rowK r6 hp; replace r7 := rowK r7 hp; have zp11 : w10.heap.size ≤ p11.heap.size := (by rw [hp]; exact leA); clear hp O; have O := O'; clear O'; refine (l02Mul_any D1 D2 e1 e2 d1 d2 m1 m2 _ (Row.below (B := w.heap.size) k1 O (Nat.le_refl _)) (Row.below (B := w.heap.size) k2 O (Nat.le_refl _)) (by omega) (by omega)).mono ?_; rintro e w11 ⟨A8, c8, rfl, r8, o11⟩; replace B_x := Bx.old B_x o11; replace B_y := Bx.old B_y o11; replace B_r := Bx.old B_r o11; replace B_a := Bx.old B_a o11; replace B_b := Bx.old B_b o11; replace B_n := Bx.old B_n o11; replace r5 := Row.below r5 o11 (Nat.le_refl _); replace r6 := Row.below r6 o11 (Nat.le_refl _); replace r7 := Row.below r7 o11 (Nat.le_refl _); replace O := Old.trans O o11; have zw11 := o11.size; replace r8 := Row.more (lo' := p11.heap.size) r8 leA; have lim_r8 := Row.lim r8; obtain ⟨q_x_0, q_x_1, q_x_2, f_x_0, f_x_1, f_x_2, q_x⟩ := B_x.all3; obtain ⟨q_y_0, q_y_1, q_y_2, f_y_0, f_y_1, f_y_2, q_y⟩ := B_y.all3; obtain ⟨q_r_0, q_r_1, q_r_2, f_r_0, f_r_1, f_r_2, q_r⟩ := B_r.all3; obtain ⟨q_a_0, q_a_1, f_a_0, f_a_1, q_a⟩ := B_a.all2; obtain ⟨q_b_0, q_b_1, f_b_0, f_b_1, q_b⟩ := B_b.all2; obtain ⟨q_n_0, q_n_1, f_n_0, f_n_1, q_n⟩ := B_n.all2)
     | (go_at_call 45; refine callsNamed ?_; intro p12 hp; clear q_x_0 q_x_1 q_x_2 f_x_0 f_x_1 f_x_2 q_x q_y_0 q_y_1 q_y_2 f_y_0 f_y_1 f_y_2 q_y q_r_0 q_r_1 q_r_2 f_r_0 f_r_1 f_r_2 q_r q_a_0 q_a_1 f_a_0 f_a_1 q_a q_b_0 q_b_1 f_b_0 f_b_1 q_b q_n_0 q_n_1 f_n_0 f_n_1 q_n; have O' : Old w p12 := (by rw [hp]; exact Below.trans (b := w11) O oldA); replace B_x : Bx p12 (w.heap.size) #[.bool (sgnZ z1), .slice A1 (len (magZ z1)) c1, .slice D1 (len d1) e1] := (bxK B_x hp); replace B_y : Bx p12 (w.heap.size + 1) #[.bool (sgnZ z2), .slice A2 (len (magZ z2)) c2, .slice D2 (len d2) e2] := (bxK B_y hp); replace B_r : Bx p12 (w.heap.size + 1 + 1) #[.bool false, .slice none 0 0, .slice none 0 0] := (bxK B_r hp); replace B_a : Bx p12 (g_a) #[.bool (sgnZ M1), .slice A5 (len (magZ M1)) c5] := (bxK B_a hp); replace B_b : Bx p12 (g_b) #[.bool (sgnZ M2), .slice A6 (len (magZ M2)) c6] := (bxK B_b hp); replace B_n : Bx p12 (g_n) #[.bool (sgnZ S), .slice A7 (len (magZ S)) c7] := (bxK B_n hp); replace r5 := rowK r5 hp; replace r6 := rowK r6 hp; replace r7 := rowK r7 hp; replace r8 := rowK r8 hp; have zp12 : w11.heap.size ≤ p12.heap.size := (by rw [hp]; exact leA); clear hp O; have O := O'; clear O'; refine (l04Low_any (sgnZ S) A7 A8 c7 c8 (magZ S) (d1 * d2) _ _ _ r7 r8 (by omega) (by omega)).mono ?_; rintro e w12 ⟨⟨z9, d9, A9, c9, D9, e9, hv, rfl, r9, s9, ap⟩, o12⟩; replace B_x := Bx.old B_x o12; replace B_y := Bx.old B_y o12; replace B_r := Bx.old B_r o12; replace B_a := Bx.old B_a o12; replace B_b := Bx.old B_b o12; replace B_n := Bx.old B_n o12; replace r5 := Row.below r5 o12 (Nat.le_refl _); replace r6 := Row.below r6 o12 (Nat.le_refl _); replace r7 := Row.below r7 o12 (Nat.le_refl _); replace r8 := Row.below r8 o12 (Nat.le_refl _); replace O := Old.trans O o12; have zw12 := o12.size; replace r9 := Row.more (lo' := p12.heap.size) r9 leA; replace s9 := Row.more (lo' := p12.heap.size) s9 leA; have lim_r9 := Row.lim r9; have lim_s9 := Row.lim s9; have HV := Lib.hid hv; have AP := Lib.hid ap; clear hv ap; obtain ⟨q_x_0, q_x_1, q_x_2, f_x_0, f_x_1, f_x_2, q_x⟩ := B_x.all3; obtain ⟨q_y_0, q_y_1, q_y_2, f_y_0, f_y_1, f_y_2, q_y⟩ := B_y.all3; obtain ⟨q_r_0, q_r_1, q_r_2, f_r_0, f_r_1, f_r_2, q_r⟩ := B_r.all3; obtain ⟨q_a_0, q_a_1, f_a_0, f_a_1, q_a⟩ := B_a.all2; obtain ⟨q_b_0, q_b_1, f_b_0, f_b_1, q_b⟩ := B_b.all2; obtain ⟨q_n_0, q_n_1, f_n_0, f_n_1, q_n⟩ := B_n.all2))
  go_wp2
  refine bodyPost_ret (v := .agg #[.bool (sgnZ z9), .slice A9 (len (magZ z9)) c9, .slice D9 (len d9) e9]) (by simp [results, Try.results29, go_sem, q_r_0, q_r_1, q_r_2]) rfl ⟨⟨z9, d9, A9, c9, D9, e9, HC.out.trans HV.out, rfl, ?_, ?_, AP.out⟩, ?_⟩
  · refine Row.more (lo := p12.heap.size) ?_ leA
    repeat' (first | exact r9 | refine Row.far_set ?_ (by first | (simp <;> done) | (simp; omega) | omega) _)
  · refine Row.more (lo := p12.heap.size) ?_ leA
    repeat' (first | exact s9 | refine Row.far_set ?_ (by first | (simp <;> done) | (simp; omega) | omega) _)
  · exact Below.trans (b := w12) O oldA
theorem l04Add_any (z1 : Int) (d1 : Nat) (A1 D1 : Option Addr) (c1 e1 l1 m1 : Nat) (z2 : Int) (d2 : Nat) (A2 D2 : Option Addr) (c2 e2 l2 m2 : Nat) (w : World) (h1 : NatS w l1 A1 c1 (magZ z1)) (k1 : NatS w m1 D1 e1 d1) (n1 : normF (z1, d1)) (h2 : NatS w l2 A2 c2 (magZ z2)) (k2 : NatS w m2 D2 e2 d2) (n2 : normF (z2, d2)) :
    Calls Try.prog 29 #[.agg #[.bool (sgnZ z1), .slice A1 (len (magZ z1)) c1, .slice D1 (len d1) e1], .agg #[.bool (sgnZ z2), .slice A2 (len (magZ z2)) c2, .slice D2 (len d2) e2]] w fun e w' => RetR e w' w.heap.size (addF (z1, d1) (z2, d2)) ∧ Old w w' := by
  by_cases o1 : d1 = 1
  · by_cases o2 : d2 = 1
    · exact l04Add_one z1 d1 A1 D1 c1 e1 l1 m1 z2 d2 A2 D2 c2 e2 l2 m2 w h1 k1 n1 h2 k2 n2 o1 o2
    · exact l04Add_gen2 z1 d1 A1 D1 c1 e1 l1 m1 z2 d2 A2 D2 c2 e2 l2 m2 w h1 k1 n1 h2 k2 n2 o1 o2
  · exact l04Add_gen1 z1 d1 A1 D1 c1 e1 l1 m1 z2 d2 A2 D2 c2 e2 l2 m2 w h1 k1 n1 h2 k2 n2 o1
end Go.Proofs.Ytgchbbjhdeobpaa
