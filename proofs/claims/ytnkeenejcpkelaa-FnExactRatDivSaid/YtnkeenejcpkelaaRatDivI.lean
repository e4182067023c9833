/-
  The program's functions on fractions inside.
-/
import Derived.Test.YtnkeenejcpkelaaRatFacts
namespace Go.Proofs.Ytnkeenejcpkelaa
set_option linter.unusedVariables false
open Go.RowKit Num
attribute [local go_sem ↓] Go.wp_at_zero Go.wp_at_succ
set_option maxRecDepth 100000 in
set_option maxHeartbeats 1000000 in
theorem ratDiv_yes2 (z1 : Int) (d1 : Nat) (A1 D1 : Option Addr) (c1 e1 l1 m1 : Nat) (z2 : Int) (d2 : Nat) (A2 D2 : Option Addr) (c2 e2 l2 m2 : Nat) (w : World) (h1 : NatS w l1 A1 c1 (magZ z1)) (k1 : NatS w m1 D1 e1 d1) (n1 : normF (z1, d1)) (h2 : NatS w l2 A2 c2 (magZ z2)) (k2 : NatS w m2 D2 e2 d2) (n2 : normF (z2, d2)) (p1 : 0 < d1) (p2 : 0 < d2) (p3 : 0 < magZ z2) :
    Calls Try.prog 112 #[.agg #[.bool (sgnZ z1), .slice A1 (len (magZ z1)) c1, .slice D1 (len d1) e1], .agg #[.bool (sgnZ z2), .slice A2 (len (magZ z2)) c2, .slice D2 (len d2) e2]] w fun e w' => RetR e w' w.heap.size (divF (z1, d1) (z2, d2)) ∧ Old w w' := by
  have N1 := Lib.hid n1
  have LN1 := norm_len n1
  have La1 : len (magZ z1) ≤ 24 := LN1.1
  have Lb1 : len d1 ≤ 24 := LN1.2
  clear n1 LN1
  have N2 := Lib.hid n2
  have LN2 := norm_len n2
  have La2 : len (magZ z2) ≤ 24 := LN2.1
  have Lb2 : len d2 ≤ 24 := LN2.2
  clear n2 LN2
  obtain ⟨M, hM⟩ : ∃ M, M = z1 * (d2 : Int) := ⟨_, rfl⟩
  have HM := Lib.hid hM.symm
  have LM : len (magZ M) ≤ 48 := by rw [hM]; exact mul_len2 La1 Lb2
  obtain ⟨S, hS⟩ : ∃ S, S = signed (sgnZ M != sgnZ z2) (magZ M) := ⟨_, rfl⟩
  have HSM : Hid (magZ S = magZ M) := Lib.hid (by rw [hS, mag_signed])
  have HSG : Hid (((sgnZ M != sgnZ z2) && decide (0 < len (magZ M))) = sgnZ S) := Lib.hid (by rw [hS, sgn_signed, len_dec])
  have LS : len (magZ S) ≤ 48 := by rw [HSM.out]; exact LM
  have HC : Hid (divF (z1, d1) (z2, d2) = mkF S (d1 * magZ z2)) := Lib.hid (by rw [div_val p2 hM, hS])
  have LQ : len (d1 * magZ z2) ≤ 48 := mul_fit Lb1 La2
  have PQ : Hid (0 < d1 * magZ z2) := Lib.hid (Nat.mul_pos p1 p3)
  have hz0 : (((len (magZ z2) : Nat) : Int) == 0) = false := by have := len_pos p3; simp; omega
  clear hM hS p3
  have P1 := Lib.hid p1
  have P2 := Lib.hid p2
  clear p1 p2
  have O : Old w (((w.alloc (.cells #[.bool (sgnZ z1), .slice A1 (len (magZ z1)) c1, .slice D1 (len d1) e1] 31)).alloc (.cells #[.bool (sgnZ z2), .slice A2 (len (magZ z2)) c2, .slice D2 (len d2) e2] 31)).alloc (.cells #[.bool false, .slice none 0 0, .slice none 0 0] 31)) := oldA
  have B_x : Bx (((w.alloc (.cells #[.bool (sgnZ z1), .slice A1 (len (magZ z1)) c1, .slice D1 (len d1) e1] 31)).alloc (.cells #[.bool (sgnZ z2), .slice A2 (len (magZ z2)) c2, .slice D2 (len d2) e2] 31)).alloc (.cells #[.bool false, .slice none 0 0, .slice none 0 0] 31)) (w.heap.size) #[.bool (sgnZ z1), .slice A1 (len (magZ z1)) c1, .slice D1 (len d1) e1] := by have h := (Bx.alloc (Bx.alloc (Bx.new w #[.bool (sgnZ z1), .slice A1 (len (magZ z1)) c1, .slice D1 (len d1) e1] 31) (.cells #[.bool (sgnZ z2), .slice A2 (len (magZ z2)) c2, .slice D2 (len d2) e2] 31)) (.cells #[.bool false, .slice none 0 0, .slice none 0 0] 31)); simpa using h
  have B_y : Bx (((w.alloc (.cells #[.bool (sgnZ z1), .slice A1 (len (magZ z1)) c1, .slice D1 (len d1) e1] 31)).alloc (.cells #[.bool (sgnZ z2), .slice A2 (len (magZ z2)) c2, .slice D2 (len d2) e2] 31)).alloc (.cells #[.bool false, .slice none 0 0, .slice none 0 0] 31)) (w.heap.size + 1) #[.bool (sgnZ z2), .slice A2 (len (magZ z2)) c2, .slice D2 (len d2) e2] := by have h := (Bx.alloc (Bx.new (w.alloc (.cells #[.bool (sgnZ z1), .slice A1 (len (magZ z1)) c1, .slice D1 (len d1) e1] 31)) #[.bool (sgnZ z2), .slice A2 (len (magZ z2)) c2, .slice D2 (len d2) e2] 31) (.cells #[.bool false, .slice none 0 0, .slice none 0 0] 31)); simpa using h
  have B_r : Bx (((w.alloc (.cells #[.bool (sgnZ z1), .slice A1 (len (magZ z1)) c1, .slice D1 (len d1) e1] 31)).alloc (.cells #[.bool (sgnZ z2), .slice A2 (len (magZ z2)) c2, .slice D2 (len d2) e2] 31)).alloc (.cells #[.bool false, .slice none 0 0, .slice none 0 0] 31)) (w.heap.size + 1 + 1) #[.bool false, .slice none 0 0, .slice none 0 0] := by have h := (Bx.new ((w.alloc (.cells #[.bool (sgnZ z1), .slice A1 (len (magZ z1)) c1, .slice D1 (len d1) e1] 31)).alloc (.cells #[.bool (sgnZ z2), .slice A2 (len (magZ z2)) c2, .slice D2 (len d2) e2] 31)) #[.bool false, .slice none 0 0, .slice none 0 0] 31); simpa using h
  have ne_0_1 : ¬ (w.heap.size = w.heap.size + 1) := by omega
  have ne_0_2 : ¬ (w.heap.size = w.heap.size + 1 + 1) := by omega
  have ne_1_0 : ¬ (w.heap.size + 1 = w.heap.size) := by omega
  have ne_1_2 : ¬ (w.heap.size + 1 = w.heap.size + 1 + 1) := by omega
  have ne_2_0 : ¬ (w.heap.size + 1 + 1 = w.heap.size) := by omega
  have ne_2_1 : ¬ (w.heap.size + 1 + 1 = w.heap.size + 1) := by omega
  have ze : w.heap.size + 3 ≤ (((w.alloc (.cells #[.bool (sgnZ z1), .slice A1 (len (magZ z1)) c1, .slice D1 (len d1) e1] 31)).alloc (.cells #[.bool (sgnZ z2), .slice A2 (len (magZ z2)) c2, .slice D2 (len d2) e2] 31)).alloc (.cells #[.bool false, .slice none 0 0, .slice none 0 0] 31)).heap.size := (by simp)
  go_enter Try.func112, Try.ntmps112
  go_wp2_with fail
  refine callsNamed ?_
  intro p1 hp
  have O' : Old w p1 := (by rw [hp]; exact Below.trans (b := (((w.alloc (.cells #[.bool (sgnZ z1), .slice A1 (len (magZ z1)) c1, .slice D1 (len d1) e1] 31)).alloc (.cells #[.bool (sgnZ z2), .slice A2 (len (magZ z2)) c2, .slice D2 (len d2) e2] 31)).alloc (.cells #[.bool false, .slice none 0 0, .slice none 0 0] 31))) O oldA)
  replace B_x : Bx p1 (w.heap.size) #[.bool (sgnZ z1), .slice A1 (len (magZ z1)) c1, .slice D1 (len d1) e1] := (by rw [hp]; repeat' (first | (with_reducible exact B_x) | (with_reducible refine Bx.alloc ?_ _) | (with_reducible refine Bx.drewN ?_ _) | (with_reducible refine Bx.drew ?_) | refine Bx.far ?_ (by first | assumption | (simp <;> done) | (simp; omega) | omega) _))
  replace B_y : Bx p1 (w.heap.size + 1) #[.bool (sgnZ z2), .slice A2 (len (magZ z2)) c2, .slice D2 (len d2) e2] := (by rw [hp]; repeat' (first | (with_reducible exact B_y) | (with_reducible refine Bx.alloc ?_ _) | (with_reducible refine Bx.drewN ?_ _) | (with_reducible refine Bx.drew ?_) | refine Bx.far ?_ (by first | assumption | (simp <;> done) | (simp; omega) | omega) _))
  replace B_r : Bx p1 (w.heap.size + 1 + 1) #[.bool false, .slice none 0 0, .slice none 0 0] := (by rw [hp]; repeat' (first | (with_reducible exact B_r) | (with_reducible refine Bx.alloc ?_ _) | (with_reducible refine Bx.drewN ?_ _) | (with_reducible refine Bx.drew ?_) | refine Bx.far ?_ (by first | assumption | (simp <;> done) | (simp; omega) | omega) _))
  have zp1 : (((w.alloc (.cells #[.bool (sgnZ z1), .slice A1 (len (magZ z1)) c1, .slice D1 (len d1) e1] 31)).alloc (.cells #[.bool (sgnZ z2), .slice A2 (len (magZ z2)) c2, .slice D2 (len d2) e2] 31)).alloc (.cells #[.bool false, .slice none 0 0, .slice none 0 0] 31)).heap.size ≤ p1.heap.size := (by rw [hp]; exact leA)
  clear hp O
  have O := O'
  clear O'
  refine (isGood_yes (sgnZ z1) A1 D1 (len (magZ z1)) c1 d1 e1 _ P1.out).mono ?_
  rintro e w1 ⟨rfl, o1⟩
  replace B_x := Bx.old B_x o1
  replace B_y := Bx.old B_y o1
  replace B_r := Bx.old B_r o1
  replace O := Old.trans O o1
  have zw1 := o1.size
  have q_x_0 := B_x.cell 0 rfl
  have q_x_1 := B_x.cell 1 rfl
  have q_x_2 := B_x.cell 2 rfl
  have f_x_0 := B_x.frozen 0
  have f_x_1 := B_x.frozen 1
  have f_x_2 := B_x.frozen 2
  have q_x := B_x.lt
  have q_y_0 := B_y.cell 0 rfl
  have q_y_1 := B_y.cell 1 rfl
  have q_y_2 := B_y.cell 2 rfl
  have f_y_0 := B_y.frozen 0
  have f_y_1 := B_y.frozen 1
  have f_y_2 := B_y.frozen 2
  have q_y := B_y.lt
  have q_r_0 := B_r.cell 0 rfl
  have q_r_1 := B_r.cell 1 rfl
  have q_r_2 := B_r.cell 2 rfl
  have f_r_0 := B_r.frozen 0
  have f_r_1 := B_r.frozen 1
  have f_r_2 := B_r.frozen 2
  have q_r := B_r.lt
  go_wp2_with fail
  refine callsNamed ?_
  intro p2 hp
  clear q_x_0 q_x_1 q_x_2 f_x_0 f_x_1 f_x_2 q_x q_y_0 q_y_1 q_y_2 f_y_0 f_y_1 f_y_2 q_y q_r_0 q_r_1 q_r_2 f_r_0 f_r_1 f_r_2 q_r
  have O' : Old w p2 := (by rw [hp]; exact Below.trans (b := w1) O oldA)
  replace B_x : Bx p2 (w.heap.size) #[.bool (sgnZ z1), .slice A1 (len (magZ z1)) c1, .slice D1 (len d1) e1] := (by rw [hp]; repeat' (first | (with_reducible exact B_x) | (with_reducible refine Bx.alloc ?_ _) | (with_reducible refine Bx.drewN ?_ _) | (with_reducible refine Bx.drew ?_) | refine Bx.far ?_ (by first | assumption | (simp <;> done) | (simp; omega) | omega) _))
  replace B_y : Bx p2 (w.heap.size + 1) #[.bool (sgnZ z2), .slice A2 (len (magZ z2)) c2, .slice D2 (len d2) e2] := (by rw [hp]; repeat' (first | (with_reducible exact B_y) | (with_reducible refine Bx.alloc ?_ _) | (with_reducible refine Bx.drewN ?_ _) | (with_reducible refine Bx.drew ?_) | refine Bx.far ?_ (by first | assumption | (simp <;> done) | (simp; omega) | omega) _))
  replace B_r : Bx p2 (w.heap.size + 1 + 1) #[.bool false, .slice none 0 0, .slice none 0 0] := (by rw [hp]; repeat' (first | (with_reducible exact B_r) | (with_reducible refine Bx.alloc ?_ _) | (with_reducible refine Bx.drewN ?_ _) | (with_reducible refine Bx.drew ?_) | refine Bx.far ?_ (by first | assumption | (simp <;> done) | (simp; omega) | omega) _))
  have zp2 : w1.heap.size ≤ p2.heap.size := (by rw [hp]; exact leA)
  clear hp O
  have O := O'
  clear O'
  refine (isGood_yes (sgnZ z2) A2 D2 (len (magZ z2)) c2 d2 e2 _ P2.out).mono ?_
  rintro e w2 ⟨rfl, o2⟩
  replace B_x := Bx.old B_x o2
  replace B_y := Bx.old B_y o2
  replace B_r := Bx.old B_r o2
  replace O := Old.trans O o2
  have zw2 := o2.size
  have q_x_0 := B_x.cell 0 rfl
  have q_x_1 := B_x.cell 1 rfl
  have q_x_2 := B_x.cell 2 rfl
  have f_x_0 := B_x.frozen 0
  have f_x_1 := B_x.frozen 1
  have f_x_2 := B_x.frozen 2
  have q_x := B_x.lt
  have q_y_0 := B_y.cell 0 rfl
  have q_y_1 := B_y.cell 1 rfl
  have q_y_2 := B_y.cell 2 rfl
  have f_y_0 := B_y.frozen 0
  have f_y_1 := B_y.frozen 1
  have f_y_2 := B_y.frozen 2
  have q_y := B_y.lt
  have q_r_0 := B_r.cell 0 rfl
  have q_r_1 := B_r.cell 1 rfl
  have q_r_2 := B_r.cell 2 rfl
  have f_r_0 := B_r.frozen 0
  have f_r_1 := B_r.frozen 1
  have f_r_2 := B_r.frozen 2
  have q_r := B_r.lt
  go_upto_region 3 with fail
  go_cut [5] (fun sl wx => ∃ (g : Nat) (A7 : Option Addr) (c7 : Nat), sl = .pointer (some ⟨g, 0, none⟩) ∧ w2.heap.size ≤ g ∧ Bx wx g #[.bool (sgnZ M), .slice A7 (len (magZ M)) c7] ∧ Row wx w2.heap.size A7 (len (magZ M)) c7 (digI (magZ M)) ∧ Old w2 wx)
  case first =>
    have OP : Old w2 w2 := Old.refl _
    go_wp2_with fail
    refine callsNamed ?_
    intro p3 hp
    clear q_x_0 q_x_1 q_x_2 f_x_0 f_x_1 f_x_2 q_x q_y_0 q_y_1 q_y_2 f_y_0 f_y_1 f_y_2 q_y q_r_0 q_r_1 q_r_2 f_r_0 f_r_1 f_r_2 q_r
    have O' : Old w p3 := (by rw [hp]; exact Below.trans (b := w2) O oldA)
    replace B_x : Bx p3 (w.heap.size) #[.bool (sgnZ z1), .slice A1 (len (magZ z1)) c1, .slice D1 (len d1) e1] := (by rw [hp]; repeat' (first | (with_reducible exact B_x) | (with_reducible refine Bx.alloc ?_ _) | (with_reducible refine Bx.drewN ?_ _) | (with_reducible refine Bx.drew ?_) | refine Bx.far ?_ (by first | assumption | (simp <;> done) | (simp; omega) | omega) _))
    replace B_y : Bx p3 (w.heap.size + 1) #[.bool (sgnZ z2), .slice A2 (len (magZ z2)) c2, .slice D2 (len d2) e2] := (by rw [hp]; repeat' (first | (with_reducible exact B_y) | (with_reducible refine Bx.alloc ?_ _) | (with_reducible refine Bx.drewN ?_ _) | (with_reducible refine Bx.drew ?_) | refine Bx.far ?_ (by first | assumption | (simp <;> done) | (simp; omega) | omega) _))
    replace B_r : Bx p3 (w.heap.size + 1 + 1) #[.bool false, .slice none 0 0, .slice none 0 0] := (by rw [hp]; repeat' (first | (with_reducible exact B_r) | (with_reducible refine Bx.alloc ?_ _) | (with_reducible refine Bx.drewN ?_ _) | (with_reducible refine Bx.drew ?_) | refine Bx.far ?_ (by first | assumption | (simp <;> done) | (simp; omega) | omega) _))
    replace OP : Old w2 p3 := (by rw [hp]; exact Below.trans (b := w2) OP oldA)
    have zp3 : w2.heap.size ≤ p3.heap.size := (by rw [hp]; exact leA)
    clear hp O
    have O := O'
    clear O'
    refine (retB_to HM.out (bigMul_nat z1 d2 A1 D2 c1 e2 l1 m2 _ (Row.below (B := w.heap.size) h1 O (Nat.le_refl _)) (Row.below (B := w.heap.size) k2 O (Nat.le_refl _)) La1 Lb2)).mono ?_
    rintro e w3 ⟨⟨A7, c7, rfl, r7⟩, o3⟩
    replace B_x := Bx.old B_x o3
    replace B_y := Bx.old B_y o3
    replace B_r := Bx.old B_r o3
    replace O := Old.trans O o3
    replace OP := Old.trans OP o3
    have zw3 := o3.size
    replace r7 := Row.more (lo' := p3.heap.size) r7 leA
    have lim_r7 := Row.lim r7
    have q_x_0 := B_x.cell 0 rfl
    have q_x_1 := B_x.cell 1 rfl
    have q_x_2 := B_x.cell 2 rfl
    have f_x_0 := B_x.frozen 0
    have f_x_1 := B_x.frozen 1
    have f_x_2 := B_x.frozen 2
    have q_x := B_x.lt
    have q_y_0 := B_y.cell 0 rfl
    have q_y_1 := B_y.cell 1 rfl
    have q_y_2 := B_y.cell 2 rfl
    have f_y_0 := B_y.frozen 0
    have f_y_1 := B_y.frozen 1
    have f_y_2 := B_y.frozen 2
    have q_y := B_y.lt
    have q_r_0 := B_r.cell 0 rfl
    have q_r_1 := B_r.cell 1 rfl
    have q_r_2 := B_r.cell 2 rfl
    have f_r_0 := B_r.frozen 0
    have f_r_1 := B_r.frozen 1
    have f_r_2 := B_r.frozen 2
    have q_r := B_r.lt
    go_wp2_with fail
    go_meet
    exact ⟨_, A7, c7, rfl, leA, (by first | exact Bx.new _ _ _ | exact Bx.put2 (Bx.new _ _ _) _ _ | exact Bx.put2 (Bx.drew (Bx.new _ _ _)) _ _), (by refine Row.more (lo := p3.heap.size) ?_ leA; first | exact (Row.far_set (Row.far_set r7 (by first | (simp <;> done) | (simp; omega) | omega) _) (by first | (simp <;> done) | (simp; omega) | omega) _) | exact Row.below (B := w3.heap.size) r7 oldA (Nat.le_refl _)), Below.trans (b := w3) OP oldA⟩
  case rest =>
  obtain ⟨g_n, A7, c7, rfl, hg_n, B_n, r7, o4⟩ := hcut
  obtain ⟨w4, hw⟩ : ∃ x, x = wc := ⟨_, rfl⟩
  subst hw
  clear q_x_0 q_x_1 q_x_2 f_x_0 f_x_1 f_x_2 q_x q_y_0 q_y_1 q_y_2 f_y_0 f_y_1 f_y_2 q_y q_r_0 q_r_1 q_r_2 f_r_0 f_r_1 f_r_2 q_r
  replace B_x := Bx.old B_x o4
  replace B_y := Bx.old B_y o4
  replace B_r := Bx.old B_r o4
  replace O := Old.trans O o4
  have zw4 := o4.size
  have lt_n := B_n.lt
  have ne_n_x : ¬ (g_n = w.heap.size) := by omega
  have en_n_x : ¬ (w.heap.size = g_n) := by omega
  have ne_n_y : ¬ (g_n = w.heap.size + 1) := by omega
  have en_n_y : ¬ (w.heap.size + 1 = g_n) := by omega
  have ne_n_r : ¬ (g_n = w.heap.size + 1 + 1) := by omega
  have en_n_r : ¬ (w.heap.size + 1 + 1 = g_n) := by omega
  have lim_r7 := Row.lim r7
  have q_x_0 := B_x.cell 0 rfl
  have q_x_1 := B_x.cell 1 rfl
  have q_x_2 := B_x.cell 2 rfl
  have f_x_0 := B_x.frozen 0
  have f_x_1 := B_x.frozen 1
  have f_x_2 := B_x.frozen 2
  have q_x := B_x.lt
  have q_y_0 := B_y.cell 0 rfl
  have q_y_1 := B_y.cell 1 rfl
  have q_y_2 := B_y.cell 2 rfl
  have f_y_0 := B_y.frozen 0
  have f_y_1 := B_y.frozen 1
  have f_y_2 := B_y.frozen 2
  have q_y := B_y.lt
  have q_r_0 := B_r.cell 0 rfl
  have q_r_1 := B_r.cell 1 rfl
  have q_r_2 := B_r.cell 2 rfl
  have f_r_0 := B_r.frozen 0
  have f_r_1 := B_r.frozen 1
  have f_r_2 := B_r.frozen 2
  have q_r := B_r.lt
  have q_n_0 := B_n.cell 0 rfl
  have q_n_1 := B_n.cell 1 rfl
  have f_n_0 := B_n.frozen 0
  have f_n_1 := B_n.frozen 1
  have q_n := B_n.lt
  go_wp2_with fail
  go_region_held3 (fun w' => w'.cell? ⟨w.heap.size, 0, none⟩ = some (.bool (sgnZ z1)) ∧ w'.cell? ⟨w.heap.size, 1, none⟩ = some (.slice A1 (len (magZ z1)) c1) ∧ w'.cell? ⟨w.heap.size, 2, none⟩ = some (.slice D1 (len d1) e1) ∧ w'.cell? ⟨w.heap.size + 1, 0, none⟩ = some (.bool (sgnZ z2)) ∧ w'.cell? ⟨w.heap.size + 1, 1, none⟩ = some (.slice A2 (len (magZ z2)) c2) ∧ w'.cell? ⟨w.heap.size + 1, 2, none⟩ = some (.slice D2 (len d2) e2) ∧ w'.cell? ⟨g_n, 0, none⟩ = some (.bool (sgnZ M)) ∧ w'.cell? ⟨g_n, 1, none⟩ = some (.slice A7 (len (magZ M)) c7)) (go_keep)
    (first
     | (go_at_call 106; refine callsNamed ?_; intro p5 hp; clear q_x_0 q_x_1 q_x_2 f_x_0 f_x_1 f_x_2 q_x q_y_0 q_y_1 q_y_2 f_y_0 f_y_1 f_y_2 q_y q_r_0 q_r_1 q_r_2 f_r_0 f_r_1 f_r_2 q_r q_n_0 q_n_1 f_n_0 f_n_1 q_n; have O' : Old w p5 := (by rw [hp]; exact Below.trans (b := w4) O oldA); replace B_x : Bx p5 (w.heap.size) #[.bool (sgnZ z1), .slice A1 (len (magZ z1)) c1, .slice D1 (len d1) e1] := (by rw [hp]; repeat' (first | (with_reducible exact B_x) | (with_reducible refine Bx.alloc ?_ _) | (with_reducible refine Bx.drewN ?_ _) | (with_reducible refine Bx.drew ?_) | refine Bx.far ?_ (by first | assumption | (simp <;> done) | (simp; omega) | omega) _)); replace B_y : Bx p5 (w.heap.size + 1) #[.bool (sgnZ z2), .slice A2 (len (magZ z2)) c2, .slice D2 (len d2) e2] := (by rw [hp]; repeat' (first | (with_reducible exact B_y) | (with_reducible refine Bx.alloc ?_ _) | (with_reducible refine Bx.drewN ?_ _) | (with_reducible refine Bx.drew ?_) | refine Bx.far ?_ (by first | assumption | (simp <;> done) | (simp; omega) | omega) _)); replace B_r : Bx p5 (w.heap.size + 1 + 1) #[.bool false, .slice none 0 0, .slice none 0 0] := (by rw [hp]; repeat' (first | (with_reducible exact B_r) | (with_reducible refine Bx.alloc ?_ _) | (with_reducible refine Bx.drewN ?_ _) | (with_reducible refine Bx.drew ?_) | refine Bx.far ?_ (by first | assumption | (simp <;> done) | (simp; omega) | omega) _)); replace B_n : Bx p5 (g_n) #[.bool (sgnZ M), .slice A7 (len (magZ M)) c7] := (by rw [hp]; repeat' (first | (with_reducible exact B_n) | (with_reducible refine Bx.alloc ?_ _) | (with_reducible refine Bx.drewN ?_ _) | (with_reducible refine Bx.drew ?_) | refine Bx.far ?_ (by first | assumption | (simp <;> done) | (simp; omega) | omega) _)); replace r7 := Row.at r7 p5 (by rw [hp]; repeat' (first | (with_reducible exact r7) | (with_reducible refine Row.alloc' ?_ _) | (with_reducible refine Row.drewN ?_ _) | (with_reducible refine Row.drew' ?_) | refine Row.far_off ?_ (by assumption) _ | refine Row.far_set ?_ (by first | (simp <;> done) | (simp; omega) | omega) _)); have zp5 : w4.heap.size ≤ p5.heap.size := (by rw [hp]; exact leA); clear hp O; have O := O'; clear O'; refine (plain_to (v' := .agg #[.bool (sgnZ S), .slice A7 (len (magZ S)) c7]) (by rw [HSG.out, HSM.out]) (bigMake_any (sgnZ M != sgnZ z2) A7 (len (magZ M)) c7 _)).mono ?_; rintro e w5 ⟨rfl, o5⟩; replace B_x := Bx.old B_x o5; replace B_y := Bx.old B_y o5; replace B_r := Bx.old B_r o5; replace B_n := Bx.old B_n o5; replace r7 := Row.below r7 o5 (Nat.le_refl _); replace O := Old.trans O o5; have zw5 := o5.size; have q_x_0 := B_x.cell 0 rfl; have q_x_1 := B_x.cell 1 rfl; have q_x_2 := B_x.cell 2 rfl; have f_x_0 := B_x.frozen 0; have f_x_1 := B_x.frozen 1; have f_x_2 := B_x.frozen 2; have q_x := B_x.lt; have q_y_0 := B_y.cell 0 rfl; have q_y_1 := B_y.cell 1 rfl; have q_y_2 := B_y.cell 2 rfl; have f_y_0 := B_y.frozen 0; have f_y_1 := B_y.frozen 1; have f_y_2 := B_y.frozen 2; have q_y := B_y.lt; have q_r_0 := B_r.cell 0 rfl; have q_r_1 := B_r.cell 1 rfl; have q_r_2 := B_r.cell 2 rfl; have f_r_0 := B_r.frozen 0; have f_r_1 := B_r.frozen 1; have f_r_2 := B_r.frozen 2; have q_r := B_r.lt; have q_n_0 := B_n.cell 0 rfl; have q_n_1 := B_n.cell 1 rfl; have f_n_0 := B_n.frozen 0; have f_n_1 := B_n.frozen 1; have q_n := B_n.lt)
     | (go_at_call 148; refine callsNamed ?_; intro p6 hp; clear q_x_0 q_x_1 q_x_2 f_x_0 f_x_1 f_x_2 q_x q_y_0 q_y_1 q_y_2 f_y_0 f_y_1 f_y_2 q_y q_r_0 q_r_1 q_r_2 f_r_0 f_r_1 f_r_2 q_r q_n_0 q_n_1 f_n_0 f_n_1 q_n; have O' : Old w p6 := (by rw [hp]; exact Below.trans (b := w5) O oldA); replace B_x : Bx p6 (w.heap.size) #[.bool (sgnZ z1), .slice A1 (len (magZ z1)) c1, .slice D1 (len d1) e1] := (by rw [hp]; repeat' (first | (with_reducible exact B_x) | (with_reducible refine Bx.alloc ?_ _) | (with_reducible refine Bx.drewN ?_ _) | (with_reducible refine Bx.drew ?_) | refine Bx.far ?_ (by first | assumption | (simp <;> done) | (simp; omega) | omega) _)); replace B_y : Bx p6 (w.heap.size + 1) #[.bool (sgnZ z2), .slice A2 (len (magZ z2)) c2, .slice D2 (len d2) e2] := (by rw [hp]; repeat' (first | (with_reducible exact B_y) | (with_reducible refine Bx.alloc ?_ _) | (with_reducible refine Bx.drewN ?_ _) | (with_reducible refine Bx.drew ?_) | refine Bx.far ?_ (by first | assumption | (simp <;> done) | (simp; omega) | omega) _)); replace B_r : Bx p6 (w.heap.size + 1 + 1) #[.bool false, .slice none 0 0, .slice none 0 0] := (by rw [hp]; repeat' (first | (with_reducible exact B_r) | (with_reducible refine Bx.alloc ?_ _) | (with_reducible refine Bx.drewN ?_ _) | (with_reducible refine Bx.drew ?_) | refine Bx.far ?_ (by first | assumption | (simp <;> done) | (simp; omega) | omega) _)); replace B_n : Bx p6 (g_n) #[.bool (sgnZ M), .slice A7 (len (magZ M)) c7] := (by rw [hp]; repeat' (first | (with_reducible exact B_n) | (with_reducible refine Bx.alloc ?_ _) | (with_reducible refine Bx.drewN ?_ _) | (with_reducible refine Bx.drew ?_) | refine Bx.far ?_ (by first | assumption | (simp <;> done) | (simp; omega) | omega) _)); replace r7 := Row.at r7 p6 (by rw [hp]; repeat' (first | (with_reducible exact r7) | (with_reducible refine Row.alloc' ?_ _) | (with_reducible refine Row.drewN ?_ _) | (with_reducible refine Row.drew' ?_) | refine Row.far_off ?_ (by assumption) _ | refine Row.far_set ?_ (by first | (simp <;> done) | (simp; omega) | omega) _)); have zp6 : w5.heap.size ≤ p6.heap.size := (by rw [hp]; exact leA); clear hp O; have O := O'; clear O'; refine (natMul_any D1 A2 e1 c2 d1 (magZ z2) m1 l2 _ (Row.below (B := w.heap.size) k1 O (Nat.le_refl _)) (Row.below (B := w.heap.size) h2 O (Nat.le_refl _)) (by omega) (by omega)).mono ?_; rintro e w6 ⟨A8, c8, rfl, r8, o6⟩; replace B_x := Bx.old B_x o6; replace B_y := Bx.old B_y o6; replace B_r := Bx.old B_r o6; replace B_n := Bx.old B_n o6; replace r7 := Row.below r7 o6 (Nat.le_refl _); replace O := Old.trans O o6; have zw6 := o6.size; replace r8 := Row.more (lo' := p6.heap.size) r8 leA; have lim_r8 := Row.lim r8; have q_x_0 := B_x.cell 0 rfl; have q_x_1 := B_x.cell 1 rfl; have q_x_2 := B_x.cell 2 rfl; have f_x_0 := B_x.frozen 0; have f_x_1 := B_x.frozen 1; have f_x_2 := B_x.frozen 2; have q_x := B_x.lt; have q_y_0 := B_y.cell 0 rfl; have q_y_1 := B_y.cell 1 rfl; have q_y_2 := B_y.cell 2 rfl; have f_y_0 := B_y.frozen 0; have f_y_1 := B_y.frozen 1; have f_y_2 := B_y.frozen 2; have q_y := B_y.lt; have q_r_0 := B_r.cell 0 rfl; have q_r_1 := B_r.cell 1 rfl; have q_r_2 := B_r.cell 2 rfl; have f_r_0 := B_r.frozen 0; have f_r_1 := B_r.frozen 1; have f_r_2 := B_r.frozen 2; have q_r := B_r.lt; have q_n_0 := B_n.cell 0 rfl; have q_n_1 := B_n.cell 1 rfl; have f_n_0 := B_n.frozen 0; have f_n_1 := B_n.frozen 1; have q_n := B_n.lt)
     | (go_at_call 105; refine callsNamed ?_; intro p7 hp; clear q_x_0 q_x_1 q_x_2 f_x_0 f_x_1 f_x_2 q_x q_y_0 q_y_1 q_y_2 f_y_0 f_y_1 f_y_2 q_y q_r_0 q_r_1 q_r_2 f_r_0 f_r_1 f_r_2 q_r q_n_0 q_n_1 f_n_0 f_n_1 q_n; have O' : Old w p7 := (by rw [hp]; exact Below.trans (b := w6) O oldA); replace B_x : Bx p7 (w.heap.size) #[.bool (sgnZ z1), .slice A1 (len (magZ z1)) c1, .slice D1 (len d1) e1] := (by rw [hp]; repeat' (first | (with_reducible exact B_x) | (with_reducible refine Bx.alloc ?_ _) | (with_reducible refine Bx.drewN ?_ _) | (with_reducible refine Bx.drew ?_) | refine Bx.far ?_ (by first | assumption | (simp <;> done) | (simp; omega) | omega) _)); replace B_y : Bx p7 (w.heap.size + 1) #[.bool (sgnZ z2), .slice A2 (len (magZ z2)) c2, .slice D2 (len d2) e2] := (by rw [hp]; repeat' (first | (with_reducible exact B_y) | (with_reducible refine Bx.alloc ?_ _) | (with_reducible refine Bx.drewN ?_ _) | (with_reducible refine Bx.drew ?_) | refine Bx.far ?_ (by first | assumption | (simp <;> done) | (simp; omega) | omega) _)); replace B_r : Bx p7 (w.heap.size + 1 + 1) #[.bool false, .slice none 0 0, .slice none 0 0] := (by rw [hp]; repeat' (first | (with_reducible exact B_r) | (with_reducible refine Bx.alloc ?_ _) | (with_reducible refine Bx.drewN ?_ _) | (with_reducible refine Bx.drew ?_) | refine Bx.far ?_ (by first | assumption | (simp <;> done) | (simp; omega) | omega) _)); replace B_n : Bx p7 (g_n) #[.bool (sgnZ M), .slice A7 (len (magZ M)) c7] := (by rw [hp]; repeat' (first | (with_reducible exact B_n) | (with_reducible refine Bx.alloc ?_ _) | (with_reducible refine Bx.drewN ?_ _) | (with_reducible refine Bx.drew ?_) | refine Bx.far ?_ (by first | assumption | (simp <;> done) | (simp; omega) | omega) _)); replace r7 := Row.at r7 p7 (by rw [hp]; repeat' (first | (with_reducible exact r7) | (with_reducible refine Row.alloc' ?_ _) | (with_reducible refine Row.drewN ?_ _) | (with_reducible refine Row.drew' ?_) | refine Row.far_off ?_ (by assumption) _ | refine Row.far_set ?_ (by first | (simp <;> done) | (simp; omega) | omega) _)); replace r8 := Row.at r8 p7 (by rw [hp]; repeat' (first | (with_reducible exact r8) | (with_reducible refine Row.alloc' ?_ _) | (with_reducible refine Row.drewN ?_ _) | (with_reducible refine Row.drew' ?_) | refine Row.far_off ?_ (by assumption) _ | refine Row.far_set ?_ (by first | (simp <;> done) | (simp; omega) | omega) _)); have zp7 : w6.heap.size ≤ p7.heap.size := (by rw [hp]; exact leA); clear hp O; have O := O'; clear O'; refine (ratMake_any S (d1 * magZ z2) A7 A8 c7 c8 _ _ _ (by rw [HSM.out]; exact r7) r8 (by omega) (by omega) PQ.out).mono ?_; rintro e w7 ⟨⟨z9, d9, A9, c9, D9, e9, hv, rfl, r9, s9, ap⟩, o7⟩; replace B_x := Bx.old B_x o7; replace B_y := Bx.old B_y o7; replace B_r := Bx.old B_r o7; replace B_n := Bx.old B_n o7; replace r7 := Row.below r7 o7 (Nat.le_refl _); replace r8 := Row.below r8 o7 (Nat.le_refl _); replace O := Old.trans O o7; have zw7 := o7.size; replace r9 := Row.more (lo' := p7.heap.size) r9 leA; replace s9 := Row.more (lo' := p7.heap.size) s9 leA; have lim_r9 := Row.lim r9; have lim_s9 := Row.lim s9; have HV := Lib.hid hv; have AP := Lib.hid ap; clear hv ap; have q_x_0 := B_x.cell 0 rfl; have q_x_1 := B_x.cell 1 rfl; have q_x_2 := B_x.cell 2 rfl; have f_x_0 := B_x.frozen 0; have f_x_1 := B_x.frozen 1; have f_x_2 := B_x.frozen 2; have q_x := B_x.lt; have q_y_0 := B_y.cell 0 rfl; have q_y_1 := B_y.cell 1 rfl; have q_y_2 := B_y.cell 2 rfl; have f_y_0 := B_y.frozen 0; have f_y_1 := B_y.frozen 1; have f_y_2 := B_y.frozen 2; have q_y := B_y.lt; have q_r_0 := B_r.cell 0 rfl; have q_r_1 := B_r.cell 1 rfl; have q_r_2 := B_r.cell 2 rfl; have f_r_0 := B_r.frozen 0; have f_r_1 := B_r.frozen 1; have f_r_2 := B_r.frozen 2; have q_r := B_r.lt; have q_n_0 := B_n.cell 0 rfl; have q_n_1 := B_n.cell 1 rfl; have f_n_0 := B_n.frozen 0; have f_n_1 := B_n.frozen 1; have q_n := B_n.lt))
  go_wp2
  refine bodyPost_ret (v := .agg #[.bool (sgnZ z9), .slice A9 (len (magZ z9)) c9, .slice D9 (len d9) e9]) (by simp [results, Try.results112, go_sem, q_r_0, q_r_1, q_r_2]) rfl ⟨⟨z9, d9, A9, c9, D9, e9, HC.out.trans HV.out, rfl, ?_, ?_, AP.out⟩, ?_⟩
  · refine Row.more (lo := p7.heap.size) ?_ leA
    repeat' (first | exact r9 | refine Row.far_set ?_ (by first | (simp <;> done) | (simp; omega) | omega) _)
  · refine Row.more (lo := p7.heap.size) ?_ leA
    repeat' (first | exact s9 | refine Row.far_set ?_ (by first | (simp <;> done) | (simp; omega) | omega) _)
  · exact Below.trans (b := w7) O oldA
set_option maxRecDepth 100000 in
set_option maxHeartbeats 1000000 in
theorem ratDiv_null (z1 : Int) (d1 : Nat) (A1 D1 : Option Addr) (c1 e1 l1 m1 : Nat) (z2 : Int) (d2 : Nat) (A2 D2 : Option Addr) (c2 e2 l2 m2 : Nat) (w : World) (h1 : NatS w l1 A1 c1 (magZ z1)) (k1 : NatS w m1 D1 e1 d1) (n1 : normF (z1, d1)) (h2 : NatS w l2 A2 c2 (magZ z2)) (k2 : NatS w m2 D2 e2 d2) (n2 : normF (z2, d2)) (p1 : 0 < d1) (p2 : 0 < d2) (p3 : ¬ 0 < magZ z2) :
    Calls Try.prog 112 #[.agg #[.bool (sgnZ z1), .slice A1 (len (magZ z1)) c1, .slice D1 (len d1) e1], .agg #[.bool (sgnZ z2), .slice A2 (len (magZ z2)) c2, .slice D2 (len d2) e2]] w fun e w' => RetR e w' w.heap.size (0, 0) ∧ Old w w' := by
  have N1 := Lib.hid n1
  have LN1 := norm_len n1
  have La1 : len (magZ z1) ≤ 24 := LN1.1
  have Lb1 : len d1 ≤ 24 := LN1.2
  clear n1 LN1
  have N2 := Lib.hid n2
  have LN2 := norm_len n2
  have La2 : len (magZ z2) ≤ 24 := LN2.1
  have Lb2 : len d2 ≤ 24 := LN2.2
  clear n2 LN2
  have hz0 : (((len (magZ z2) : Nat) : Int) == 0) = true := zero_len_beq (by omega)
  clear p3
  have P1 := Lib.hid p1
  have P2 := Lib.hid p2
  clear p1 p2
  have O : Old w (((w.alloc (.cells #[.bool (sgnZ z1), .slice A1 (len (magZ z1)) c1, .slice D1 (len d1) e1] 31)).alloc (.cells #[.bool (sgnZ z2), .slice A2 (len (magZ z2)) c2, .slice D2 (len d2) e2] 31)).alloc (.cells #[.bool false, .slice none 0 0, .slice none 0 0] 31)) := oldA
  have B_x : Bx (((w.alloc (.cells #[.bool (sgnZ z1), .slice A1 (len (magZ z1)) c1, .slice D1 (len d1) e1] 31)).alloc (.cells #[.bool (sgnZ z2), .slice A2 (len (magZ z2)) c2, .slice D2 (len d2) e2] 31)).alloc (.cells #[.bool false, .slice none 0 0, .slice none 0 0] 31)) (w.heap.size) #[.bool (sgnZ z1), .slice A1 (len (magZ z1)) c1, .slice D1 (len d1) e1] := by have h := (Bx.alloc (Bx.alloc (Bx.new w #[.bool (sgnZ z1), .slice A1 (len (magZ z1)) c1, .slice D1 (len d1) e1] 31) (.cells #[.bool (sgnZ z2), .slice A2 (len (magZ z2)) c2, .slice D2 (len d2) e2] 31)) (.cells #[.bool false, .slice none 0 0, .slice none 0 0] 31)); simpa using h
  have B_y : Bx (((w.alloc (.cells #[.bool (sgnZ z1), .slice A1 (len (magZ z1)) c1, .slice D1 (len d1) e1] 31)).alloc (.cells #[.bool (sgnZ z2), .slice A2 (len (magZ z2)) c2, .slice D2 (len d2) e2] 31)).alloc (.cells #[.bool false, .slice none 0 0, .slice none 0 0] 31)) (w.heap.size + 1) #[.bool (sgnZ z2), .slice A2 (len (magZ z2)) c2, .slice D2 (len d2) e2] := by have h := (Bx.alloc (Bx.new (w.alloc (.cells #[.bool (sgnZ z1), .slice A1 (len (magZ z1)) c1, .slice D1 (len d1) e1] 31)) #[.bool (sgnZ z2), .slice A2 (len (magZ z2)) c2, .slice D2 (len d2) e2] 31) (.cells #[.bool false, .slice none 0 0, .slice none 0 0] 31)); simpa using h
  have B_r : Bx (((w.alloc (.cells #[.bool (sgnZ z1), .slice A1 (len (magZ z1)) c1, .slice D1 (len d1) e1] 31)).alloc (.cells #[.bool (sgnZ z2), .slice A2 (len (magZ z2)) c2, .slice D2 (len d2) e2] 31)).alloc (.cells #[.bool false, .slice none 0 0, .slice none 0 0] 31)) (w.heap.size + 1 + 1) #[.bool false, .slice none 0 0, .slice none 0 0] := by have h := (Bx.new ((w.alloc (.cells #[.bool (sgnZ z1), .slice A1 (len (magZ z1)) c1, .slice D1 (len d1) e1] 31)).alloc (.cells #[.bool (sgnZ z2), .slice A2 (len (magZ z2)) c2, .slice D2 (len d2) e2] 31)) #[.bool false, .slice none 0 0, .slice none 0 0] 31); simpa using h
  have ne_0_1 : ¬ (w.heap.size = w.heap.size + 1) := by omega
  have ne_0_2 : ¬ (w.heap.size = w.heap.size + 1 + 1) := by omega
  have ne_1_0 : ¬ (w.heap.size + 1 = w.heap.size) := by omega
  have ne_1_2 : ¬ (w.heap.size + 1 = w.heap.size + 1 + 1) := by omega
  have ne_2_0 : ¬ (w.heap.size + 1 + 1 = w.heap.size) := by omega
  have ne_2_1 : ¬ (w.heap.size + 1 + 1 = w.heap.size + 1) := by omega
  have ze : w.heap.size + 3 ≤ (((w.alloc (.cells #[.bool (sgnZ z1), .slice A1 (len (magZ z1)) c1, .slice D1 (len d1) e1] 31)).alloc (.cells #[.bool (sgnZ z2), .slice A2 (len (magZ z2)) c2, .slice D2 (len d2) e2] 31)).alloc (.cells #[.bool false, .slice none 0 0, .slice none 0 0] 31)).heap.size := (by simp)
  go_enter Try.func112, Try.ntmps112
  go_wp2_with fail
  refine callsNamed ?_
  intro p1 hp
  have O' : Old w p1 := (by rw [hp]; exact Below.trans (b := (((w.alloc (.cells #[.bool (sgnZ z1), .slice A1 (len (magZ z1)) c1, .slice D1 (len d1) e1] 31)).alloc (.cells #[.bool (sgnZ z2), .slice A2 (len (magZ z2)) c2, .slice D2 (len d2) e2] 31)).alloc (.cells #[.bool false, .slice none 0 0, .slice none 0 0] 31))) O oldA)
  replace B_x : Bx p1 (w.heap.size) #[.bool (sgnZ z1), .slice A1 (len (magZ z1)) c1, .slice D1 (len d1) e1] := (by rw [hp]; repeat' (first | (with_reducible exact B_x) | (with_reducible refine Bx.alloc ?_ _) | (with_reducible refine Bx.drewN ?_ _) | (with_reducible refine Bx.drew ?_) | refine Bx.far ?_ (by first | assumption | (simp <;> done) | (simp; omega) | omega) _))
  replace B_y : Bx p1 (w.heap.size + 1) #[.bool (sgnZ z2), .slice A2 (len (magZ z2)) c2, .slice D2 (len d2) e2] := (by rw [hp]; repeat' (first | (with_reducible exact B_y) | (with_reducible refine Bx.alloc ?_ _) | (with_reducible refine Bx.drewN ?_ _) | (with_reducible refine Bx.drew ?_) | refine Bx.far ?_ (by first | assumption | (simp <;> done) | (simp; omega) | omega) _))
  replace B_r : Bx p1 (w.heap.size + 1 + 1) #[.bool false, .slice none 0 0, .slice none 0 0] := (by rw [hp]; repeat' (first | (with_reducible exact B_r) | (with_reducible refine Bx.alloc ?_ _) | (with_reducible refine Bx.drewN ?_ _) | (with_reducible refine Bx.drew ?_) | refine Bx.far ?_ (by first | assumption | (simp <;> done) | (simp; omega) | omega) _))
  have zp1 : (((w.alloc (.cells #[.bool (sgnZ z1), .slice A1 (len (magZ z1)) c1, .slice D1 (len d1) e1] 31)).alloc (.cells #[.bool (sgnZ z2), .slice A2 (len (magZ z2)) c2, .slice D2 (len d2) e2] 31)).alloc (.cells #[.bool false, .slice none 0 0, .slice none 0 0] 31)).heap.size ≤ p1.heap.size := (by rw [hp]; exact leA)
  clear hp O
  have O := O'
  clear O'
  refine (isGood_yes (sgnZ z1) A1 D1 (len (magZ z1)) c1 d1 e1 _ P1.out).mono ?_
  rintro e w1 ⟨rfl, o1⟩
  replace B_x := Bx.old B_x o1
  replace B_y := Bx.old B_y o1
  replace B_r := Bx.old B_r o1
  replace O := Old.trans O o1
  have zw1 := o1.size
  have q_x_0 := B_x.cell 0 rfl
  have q_x_1 := B_x.cell 1 rfl
  have q_x_2 := B_x.cell 2 rfl
  have f_x_0 := B_x.frozen 0
  have f_x_1 := B_x.frozen 1
  have f_x_2 := B_x.frozen 2
  have q_x := B_x.lt
  have q_y_0 := B_y.cell 0 rfl
  have q_y_1 := B_y.cell 1 rfl
  have q_y_2 := B_y.cell 2 rfl
  have f_y_0 := B_y.frozen 0
  have f_y_1 := B_y.frozen 1
  have f_y_2 := B_y.frozen 2
  have q_y := B_y.lt
  have q_r_0 := B_r.cell 0 rfl
  have q_r_1 := B_r.cell 1 rfl
  have q_r_2 := B_r.cell 2 rfl
  have f_r_0 := B_r.frozen 0
  have f_r_1 := B_r.frozen 1
  have f_r_2 := B_r.frozen 2
  have q_r := B_r.lt
  go_wp2_with fail
  refine callsNamed ?_
  intro p2 hp
  clear q_x_0 q_x_1 q_x_2 f_x_0 f_x_1 f_x_2 q_x q_y_0 q_y_1 q_y_2 f_y_0 f_y_1 f_y_2 q_y q_r_0 q_r_1 q_r_2 f_r_0 f_r_1 f_r_2 q_r
  have O' : Old w p2 := (by rw [hp]; exact Below.trans (b := w1) O oldA)
  replace B_x : Bx p2 (w.heap.size) #[.bool (sgnZ z1), .slice A1 (len (magZ z1)) c1, .slice D1 (len d1) e1] := (by rw [hp]; repeat' (first | (with_reducible exact B_x) | (with_reducible refine Bx.alloc ?_ _) | (with_reducible refine Bx.drewN ?_ _) | (with_reducible refine Bx.drew ?_) | refine Bx.far ?_ (by first | assumption | (simp <;> done) | (simp; omega) | omega) _))
  replace B_y : Bx p2 (w.heap.size + 1) #[.bool (sgnZ z2), .slice A2 (len (magZ z2)) c2, .slice D2 (len d2) e2] := (by rw [hp]; repeat' (first | (with_reducible exact B_y) | (with_reducible refine Bx.alloc ?_ _) | (with_reducible refine Bx.drewN ?_ _) | (with_reducible refine Bx.drew ?_) | refine Bx.far ?_ (by first | assumption | (simp <;> done) | (simp; omega) | omega) _))
  replace B_r : Bx p2 (w.heap.size + 1 + 1) #[.bool false, .slice none 0 0, .slice none 0 0] := (by rw [hp]; repeat' (first | (with_reducible exact B_r) | (with_reducible refine Bx.alloc ?_ _) | (with_reducible refine Bx.drewN ?_ _) | (with_reducible refine Bx.drew ?_) | refine Bx.far ?_ (by first | assumption | (simp <;> done) | (simp; omega) | omega) _))
  have zp2 : w1.heap.size ≤ p2.heap.size := (by rw [hp]; exact leA)
  clear hp O
  have O := O'
  clear O'
  refine (isGood_yes (sgnZ z2) A2 D2 (len (magZ z2)) c2 d2 e2 _ P2.out).mono ?_
  rintro e w2 ⟨rfl, o2⟩
  replace B_x := Bx.old B_x o2
  replace B_y := Bx.old B_y o2
  replace B_r := Bx.old B_r o2
  replace O := Old.trans O o2
  have zw2 := o2.size
  have q_x_0 := B_x.cell 0 rfl
  have q_x_1 := B_x.cell 1 rfl
  have q_x_2 := B_x.cell 2 rfl
  have f_x_0 := B_x.frozen 0
  have f_x_1 := B_x.frozen 1
  have f_x_2 := B_x.frozen 2
  have q_x := B_x.lt
  have q_y_0 := B_y.cell 0 rfl
  have q_y_1 := B_y.cell 1 rfl
  have q_y_2 := B_y.cell 2 rfl
  have f_y_0 := B_y.frozen 0
  have f_y_1 := B_y.frozen 1
  have f_y_2 := B_y.frozen 2
  have q_y := B_y.lt
  have q_r_0 := B_r.cell 0 rfl
  have q_r_1 := B_r.cell 1 rfl
  have q_r_2 := B_r.cell 2 rfl
  have f_r_0 := B_r.frozen 0
  have f_r_1 := B_r.frozen 1
  have f_r_2 := B_r.frozen 2
  have q_r := B_r.lt
  go_wp2
  refine bodyPost_ret (v := .agg #[.bool false, .slice none 0 0, .slice none 0 0]) (by simp [results, Try.results112, go_sem, q_r_0, q_r_1, q_r_2]) rfl ⟨RetR.zero rfl, Below.trans (b := w2) O oldA⟩
theorem ratDiv_yes (z1 : Int) (d1 : Nat) (A1 D1 : Option Addr) (c1 e1 l1 m1 : Nat) (z2 : Int) (d2 : Nat) (A2 D2 : Option Addr) (c2 e2 l2 m2 : Nat) (w : World) (h1 : NatS w l1 A1 c1 (magZ z1)) (k1 : NatS w m1 D1 e1 d1) (n1 : normF (z1, d1)) (h2 : NatS w l2 A2 c2 (magZ z2)) (k2 : NatS w m2 D2 e2 d2) (n2 : normF (z2, d2)) (p1 : 0 < d1) (p2 : 0 < d2) :
    Calls Try.prog 112 #[.agg #[.bool (sgnZ z1), .slice A1 (len (magZ z1)) c1, .slice D1 (len d1) e1], .agg #[.bool (sgnZ z2), .slice A2 (len (magZ z2)) c2, .slice D2 (len d2) e2]] w fun e w' => RetR e w' w.heap.size (divF (z1, d1) (z2, d2)) ∧ Old w w' := by
  by_cases p3 : 0 < magZ z2
  · exact ratDiv_yes2 z1 d1 A1 D1 c1 e1 l1 m1 z2 d2 A2 D2 c2 e2 l2 m2 w h1 k1 n1 h2 k2 n2 p1 p2 p3
  · have e0 : divF (z1, d1) (z2, d2) = (0, 0) := mkF_d0 (by show d1 * magZ z2 = 0; rw [show magZ z2 = 0 by omega, Nat.mul_zero])
    rw [e0]; exact ratDiv_null z1 d1 A1 D1 c1 e1 l1 m1 z2 d2 A2 D2 c2 e2 l2 m2 w h1 k1 n1 h2 k2 n2 p1 p2 p3
set_option maxRecDepth 100000 in
set_option maxHeartbeats 1000000 in
theorem ratDiv_no1 (z1 : Int) (d1 : Nat) (A1 D1 : Option Addr) (c1 e1 l1 m1 : Nat) (z2 : Int) (d2 : Nat) (A2 D2 : Option Addr) (c2 e2 l2 m2 : Nat) (w : World) (h1 : NatS w l1 A1 c1 (magZ z1)) (k1 : NatS w m1 D1 e1 d1) (n1 : normF (z1, d1)) (h2 : NatS w l2 A2 c2 (magZ z2)) (k2 : NatS w m2 D2 e2 d2) (n2 : normF (z2, d2)) (p1 : ¬ 0 < d1) :
    Calls Try.prog 112 #[.agg #[.bool (sgnZ z1), .slice A1 (len (magZ z1)) c1, .slice D1 (len d1) e1], .agg #[.bool (sgnZ z2), .slice A2 (len (magZ z2)) c2, .slice D2 (len d2) e2]] w fun e w' => RetR e w' w.heap.size (0, 0) ∧ Old w w' := by
  have N1 := Lib.hid n1
  have LN1 := norm_len n1
  have La1 : len (magZ z1) ≤ 24 := LN1.1
  have Lb1 : len d1 ≤ 24 := LN1.2
  clear n1 LN1
  have N2 := Lib.hid n2
  have LN2 := norm_len n2
  have La2 : len (magZ z2) ≤ 24 := LN2.1
  have Lb2 : len d2 ≤ 24 := LN2.2
  clear n2 LN2
  have P1 := Lib.hid p1
  clear p1
  have O : Old w (((w.alloc (.cells #[.bool (sgnZ z1), .slice A1 (len (magZ z1)) c1, .slice D1 (len d1) e1] 31)).alloc (.cells #[.bool (sgnZ z2), .slice A2 (len (magZ z2)) c2, .slice D2 (len d2) e2] 31)).alloc (.cells #[.bool false, .slice none 0 0, .slice none 0 0] 31)) := oldA
  have B_x : Bx (((w.alloc (.cells #[.bool (sgnZ z1), .slice A1 (len (magZ z1)) c1, .slice D1 (len d1) e1] 31)).alloc (.cells #[.bool (sgnZ z2), .slice A2 (len (magZ z2)) c2, .slice D2 (len d2) e2] 31)).alloc (.cells #[.bool false, .slice none 0 0, .slice none 0 0] 31)) (w.heap.size) #[.bool (sgnZ z1), .slice A1 (len (magZ z1)) c1, .slice D1 (len d1) e1] := by have h := (Bx.alloc (Bx.alloc (Bx.new w #[.bool (sgnZ z1), .slice A1 (len (magZ z1)) c1, .slice D1 (len d1) e1] 31) (.cells #[.bool (sgnZ z2), .slice A2 (len (magZ z2)) c2, .slice D2 (len d2) e2] 31)) (.cells #[.bool false, .slice none 0 0, .slice none 0 0] 31)); simpa using h
  have B_y : Bx (((w.alloc (.cells #[.bool (sgnZ z1), .slice A1 (len (magZ z1)) c1, .slice D1 (len d1) e1] 31)).alloc (.cells #[.bool (sgnZ z2), .slice A2 (len (magZ z2)) c2, .slice D2 (len d2) e2] 31)).alloc (.cells #[.bool false, .slice none 0 0, .slice none 0 0] 31)) (w.heap.size + 1) #[.bool (sgnZ z2), .slice A2 (len (magZ z2)) c2, .slice D2 (len d2) e2] := by have h := (Bx.alloc (Bx.new (w.alloc (.cells #[.bool (sgnZ z1), .slice A1 (len (magZ z1)) c1, .slice D1 (len d1) e1] 31)) #[.bool (sgnZ z2), .slice A2 (len (magZ z2)) c2, .slice D2 (len d2) e2] 31) (.cells #[.bool false, .slice none 0 0, .slice none 0 0] 31)); simpa using h
  have B_r : Bx (((w.alloc (.cells #[.bool (sgnZ z1), .slice A1 (len (magZ z1)) c1, .slice D1 (len d1) e1] 31)).alloc (.cells #[.bool (sgnZ z2), .slice A2 (len (magZ z2)) c2, .slice D2 (len d2) e2] 31)).alloc (.cells #[.bool false, .slice none 0 0, .slice none 0 0] 31)) (w.heap.size + 1 + 1) #[.bool false, .slice none 0 0, .slice none 0 0] := by have h := (Bx.new ((w.alloc (.cells #[.bool (sgnZ z1), .slice A1 (len (magZ z1)) c1, .slice D1 (len d1) e1] 31)).alloc (.cells #[.bool (sgnZ z2), .slice A2 (len (magZ z2)) c2, .slice D2 (len d2) e2] 31)) #[.bool false, .slice none 0 0, .slice none 0 0] 31); simpa using h
  have ne_0_1 : ¬ (w.heap.size = w.heap.size + 1) := by omega
  have ne_0_2 : ¬ (w.heap.size = w.heap.size + 1 + 1) := by omega
  have ne_1_0 : ¬ (w.heap.size + 1 = w.heap.size) := by omega
  have ne_1_2 : ¬ (w.heap.size + 1 = w.heap.size + 1 + 1) := by omega
  have ne_2_0 : ¬ (w.heap.size + 1 + 1 = w.heap.size) := by omega
  have ne_2_1 : ¬ (w.heap.size + 1 + 1 = w.heap.size + 1) := by omega
  have ze : w.heap.size + 3 ≤ (((w.alloc (.cells #[.bool (sgnZ z1), .slice A1 (len (magZ z1)) c1, .slice D1 (len d1) e1] 31)).alloc (.cells #[.bool (sgnZ z2), .slice A2 (len (magZ z2)) c2, .slice D2 (len d2) e2] 31)).alloc (.cells #[.bool false, .slice none 0 0, .slice none 0 0] 31)).heap.size := (by simp)
  go_enter Try.func112, Try.ntmps112
  go_wp2_with fail
  refine callsNamed ?_
  intro p1 hp
  have O' : Old w p1 := (by rw [hp]; exact Below.trans (b := (((w.alloc (.cells #[.bool (sgnZ z1), .slice A1 (len (magZ z1)) c1, .slice D1 (len d1) e1] 31)).alloc (.cells #[.bool (sgnZ z2), .slice A2 (len (magZ z2)) c2, .slice D2 (len d2) e2] 31)).alloc (.cells #[.bool false, .slice none 0 0, .slice none 0 0] 31))) O oldA)
  replace B_x : Bx p1 (w.heap.size) #[.bool (sgnZ z1), .slice A1 (len (magZ z1)) c1, .slice D1 (len d1) e1] := (by rw [hp]; repeat' (first | (with_reducible exact B_x) | (with_reducible refine Bx.alloc ?_ _) | (with_reducible refine Bx.drewN ?_ _) | (with_reducible refine Bx.drew ?_) | refine Bx.far ?_ (by first | assumption | (simp <;> done) | (simp; omega) | omega) _))
  replace B_y : Bx p1 (w.heap.size + 1) #[.bool (sgnZ z2), .slice A2 (len (magZ z2)) c2, .slice D2 (len d2) e2] := (by rw [hp]; repeat' (first | (with_reducible exact B_y) | (with_reducible refine Bx.alloc ?_ _) | (with_reducible refine Bx.drewN ?_ _) | (with_reducible refine Bx.drew ?_) | refine Bx.far ?_ (by first | assumption | (simp <;> done) | (simp; omega) | omega) _))
  replace B_r : Bx p1 (w.heap.size + 1 + 1) #[.bool false, .slice none 0 0, .slice none 0 0] := (by rw [hp]; repeat' (first | (with_reducible exact B_r) | (with_reducible refine Bx.alloc ?_ _) | (with_reducible refine Bx.drewN ?_ _) | (with_reducible refine Bx.drew ?_) | refine Bx.far ?_ (by first | assumption | (simp <;> done) | (simp; omega) | omega) _))
  have zp1 : (((w.alloc (.cells #[.bool (sgnZ z1), .slice A1 (len (magZ z1)) c1, .slice D1 (len d1) e1] 31)).alloc (.cells #[.bool (sgnZ z2), .slice A2 (len (magZ z2)) c2, .slice D2 (len d2) e2] 31)).alloc (.cells #[.bool false, .slice none 0 0, .slice none 0 0] 31)).heap.size ≤ p1.heap.size := (by rw [hp]; exact leA)
  clear hp O
  have O := O'
  clear O'
  refine (isGood_no (sgnZ z1) A1 D1 (len (magZ z1)) c1 d1 e1 _ P1.out).mono ?_
  rintro e w1 ⟨rfl, o1⟩
  replace B_x := Bx.old B_x o1
  replace B_y := Bx.old B_y o1
  replace B_r := Bx.old B_r o1
  replace O := Old.trans O o1
  have zw1 := o1.size
  have q_x_0 := B_x.cell 0 rfl
  have q_x_1 := B_x.cell 1 rfl
  have q_x_2 := B_x.cell 2 rfl
  have f_x_0 := B_x.frozen 0
  have f_x_1 := B_x.frozen 1
  have f_x_2 := B_x.frozen 2
  have q_x := B_x.lt
  have q_y_0 := B_y.cell 0 rfl
  have q_y_1 := B_y.cell 1 rfl
  have q_y_2 := B_y.cell 2 rfl
  have f_y_0 := B_y.frozen 0
  have f_y_1 := B_y.frozen 1
  have f_y_2 := B_y.frozen 2
  have q_y := B_y.lt
  have q_r_0 := B_r.cell 0 rfl
  have q_r_1 := B_r.cell 1 rfl
  have q_r_2 := B_r.cell 2 rfl
  have f_r_0 := B_r.frozen 0
  have f_r_1 := B_r.frozen 1
  have f_r_2 := B_r.frozen 2
  have q_r := B_r.lt
  go_wp2
  refine bodyPost_ret (v := .agg #[.bool false, .slice none 0 0, .slice none 0 0]) (by simp [results, Try.results112, go_sem, q_r_0, q_r_1, q_r_2]) rfl ⟨RetR.zero rfl, Below.trans (b := w1) O oldA⟩
set_option maxRecDepth 100000 in
set_option maxHeartbeats 1000000 in
theorem ratDiv_no2 (z1 : Int) (d1 : Nat) (A1 D1 : Option Addr) (c1 e1 l1 m1 : Nat) (z2 : Int) (d2 : Nat) (A2 D2 : Option Addr) (c2 e2 l2 m2 : Nat) (w : World) (h1 : NatS w l1 A1 c1 (magZ z1)) (k1 : NatS w m1 D1 e1 d1) (n1 : normF (z1, d1)) (h2 : NatS w l2 A2 c2 (magZ z2)) (k2 : NatS w m2 D2 e2 d2) (n2 : normF (z2, d2)) (p1 : 0 < d1) (p2 : ¬ 0 < d2) :
    Calls Try.prog 112 #[.agg #[.bool (sgnZ z1), .slice A1 (len (magZ z1)) c1, .slice D1 (len d1) e1], .agg #[.bool (sgnZ z2), .slice A2 (len (magZ z2)) c2, .slice D2 (len d2) e2]] w fun e w' => RetR e w' w.heap.size (0, 0) ∧ Old w w' := by
  have N1 := Lib.hid n1
  have LN1 := norm_len n1
  have La1 : len (magZ z1) ≤ 24 := LN1.1
  have Lb1 : len d1 ≤ 24 := LN1.2
  clear n1 LN1
  have N2 := Lib.hid n2
  have LN2 := norm_len n2
  have La2 : len (magZ z2) ≤ 24 := LN2.1
  have Lb2 : len d2 ≤ 24 := LN2.2
  clear n2 LN2
  have P1 := Lib.hid p1
  have P2 := Lib.hid p2
  clear p1 p2
  have O : Old w (((w.alloc (.cells #[.bool (sgnZ z1), .slice A1 (len (magZ z1)) c1, .slice D1 (len d1) e1] 31)).alloc (.cells #[.bool (sgnZ z2), .slice A2 (len (magZ z2)) c2, .slice D2 (len d2) e2] 31)).alloc (.cells #[.bool false, .slice none 0 0, .slice none 0 0] 31)) := oldA
  have B_x : Bx (((w.alloc (.cells #[.bool (sgnZ z1), .slice A1 (len (magZ z1)) c1, .slice D1 (len d1) e1] 31)).alloc (.cells #[.bool (sgnZ z2), .slice A2 (len (magZ z2)) c2, .slice D2 (len d2) e2] 31)).alloc (.cells #[.bool false, .slice none 0 0, .slice none 0 0] 31)) (w.heap.size) #[.bool (sgnZ z1), .slice A1 (len (magZ z1)) c1, .slice D1 (len d1) e1] := by have h := (Bx.alloc (Bx.alloc (Bx.new w #[.bool (sgnZ z1), .slice A1 (len (magZ z1)) c1, .slice D1 (len d1) e1] 31) (.cells #[.bool (sgnZ z2), .slice A2 (len (magZ z2)) c2, .slice D2 (len d2) e2] 31)) (.cells #[.bool false, .slice none 0 0, .slice none 0 0] 31)); simpa using h
  have B_y : Bx (((w.alloc (.cells #[.bool (sgnZ z1), .slice A1 (len (magZ z1)) c1, .slice D1 (len d1) e1] 31)).alloc (.cells #[.bool (sgnZ z2), .slice A2 (len (magZ z2)) c2, .slice D2 (len d2) e2] 31)).alloc (.cells #[.bool false, .slice none 0 0, .slice none 0 0] 31)) (w.heap.size + 1) #[.bool (sgnZ z2), .slice A2 (len (magZ z2)) c2, .slice D2 (len d2) e2] := by have h := (Bx.alloc (Bx.new (w.alloc (.cells #[.bool (sgnZ z1), .slice A1 (len (magZ z1)) c1, .slice D1 (len d1) e1] 31)) #[.bool (sgnZ z2), .slice A2 (len (magZ z2)) c2, .slice D2 (len d2) e2] 31) (.cells #[.bool false, .slice none 0 0, .slice none 0 0] 31)); simpa using h
  have B_r : Bx (((w.alloc (.cells #[.bool (sgnZ z1), .slice A1 (len (magZ z1)) c1, .slice D1 (len d1) e1] 31)).alloc (.cells #[.bool (sgnZ z2), .slice A2 (len (magZ z2)) c2, .slice D2 (len d2) e2] 31)).alloc (.cells #[.bool false, .slice none 0 0, .slice none 0 0] 31)) (w.heap.size + 1 + 1) #[.bool false, .slice none 0 0, .slice none 0 0] := by have h := (Bx.new ((w.alloc (.cells #[.bool (sgnZ z1), .slice A1 (len (magZ z1)) c1, .slice D1 (len d1) e1] 31)).alloc (.cells #[.bool (sgnZ z2), .slice A2 (len (magZ z2)) c2, .slice D2 (len d2) e2] 31)) #[.bool false, .slice none 0 0, .slice none 0 0] 31); simpa using h
  have ne_0_1 : ¬ (w.heap.size = w.heap.size + 1) := by omega
  have ne_0_2 : ¬ (w.heap.size = w.heap.size + 1 + 1) := by omega
  have ne_1_0 : ¬ (w.heap.size + 1 = w.heap.size) := by omega
  have ne_1_2 : ¬ (w.heap.size + 1 = w.heap.size + 1 + 1) := by omega
  have ne_2_0 : ¬ (w.heap.size + 1 + 1 = w.heap.size) := by omega
  have ne_2_1 : ¬ (w.heap.size + 1 + 1 = w.heap.size + 1) := by omega
  have ze : w.heap.size + 3 ≤ (((w.alloc (.cells #[.bool (sgnZ z1), .slice A1 (len (magZ z1)) c1, .slice D1 (len d1) e1] 31)).alloc (.cells #[.bool (sgnZ z2), .slice A2 (len (magZ z2)) c2, .slice D2 (len d2) e2] 31)).alloc (.cells #[.bool false, .slice none 0 0, .slice none 0 0] 31)).heap.size := (by simp)
  go_enter Try.func112, Try.ntmps112
  go_wp2_with fail
  refine callsNamed ?_
  intro p1 hp
  have O' : Old w p1 := (by rw [hp]; exact Below.trans (b := (((w.alloc (.cells #[.bool (sgnZ z1), .slice A1 (len (magZ z1)) c1, .slice D1 (len d1) e1] 31)).alloc (.cells #[.bool (sgnZ z2), .slice A2 (len (magZ z2)) c2, .slice D2 (len d2) e2] 31)).alloc (.cells #[.bool false, .slice none 0 0, .slice none 0 0] 31))) O oldA)
  replace B_x : Bx p1 (w.heap.size) #[.bool (sgnZ z1), .slice A1 (len (magZ z1)) c1, .slice D1 (len d1) e1] := (by rw [hp]; repeat' (first | (with_reducible exact B_x) | (with_reducible refine Bx.alloc ?_ _) | (with_reducible refine Bx.drewN ?_ _) | (with_reducible refine Bx.drew ?_) | refine Bx.far ?_ (by first | assumption | (simp <;> done) | (simp; omega) | omega) _))
  replace B_y : Bx p1 (w.heap.size + 1) #[.bool (sgnZ z2), .slice A2 (len (magZ z2)) c2, .slice D2 (len d2) e2] := (by rw [hp]; repeat' (first | (with_reducible exact B_y) | (with_reducible refine Bx.alloc ?_ _) | (with_reducible refine Bx.drewN ?_ _) | (with_reducible refine Bx.drew ?_) | refine Bx.far ?_ (by first | assumption | (simp <;> done) | (simp; omega) | omega) _))
  replace B_r : Bx p1 (w.heap.size + 1 + 1) #[.bool false, .slice none 0 0, .slice none 0 0] := (by rw [hp]; repeat' (first | (with_reducible exact B_r) | (with_reducible refine Bx.alloc ?_ _) | (with_reducible refine Bx.drewN ?_ _) | (with_reducible refine Bx.drew ?_) | refine Bx.far ?_ (by first | assumption | (simp <;> done) | (simp; omega) | omega) _))
  have zp1 : (((w.alloc (.cells #[.bool (sgnZ z1), .slice A1 (len (magZ z1)) c1, .slice D1 (len d1) e1] 31)).alloc (.cells #[.bool (sgnZ z2), .slice A2 (len (magZ z2)) c2, .slice D2 (len d2) e2] 31)).alloc (.cells #[.bool false, .slice none 0 0, .slice none 0 0] 31)).heap.size ≤ p1.heap.size := (by rw [hp]; exact leA)
  clear hp O
  have O := O'
  clear O'
  refine (isGood_yes (sgnZ z1) A1 D1 (len (magZ z1)) c1 d1 e1 _ P1.out).mono ?_
  rintro e w1 ⟨rfl, o1⟩
  replace B_x := Bx.old B_x o1
  replace B_y := Bx.old B_y o1
  replace B_r := Bx.old B_r o1
  replace O := Old.trans O o1
  have zw1 := o1.size
  have q_x_0 := B_x.cell 0 rfl
  have q_x_1 := B_x.cell 1 rfl
  have q_x_2 := B_x.cell 2 rfl
  have f_x_0 := B_x.frozen 0
  have f_x_1 := B_x.frozen 1
  have f_x_2 := B_x.frozen 2
  have q_x := B_x.lt
  have q_y_0 := B_y.cell 0 rfl
  have q_y_1 := B_y.cell 1 rfl
  have q_y_2 := B_y.cell 2 rfl
  have f_y_0 := B_y.frozen 0
  have f_y_1 := B_y.frozen 1
  have f_y_2 := B_y.frozen 2
  have q_y := B_y.lt
  have q_r_0 := B_r.cell 0 rfl
  have q_r_1 := B_r.cell 1 rfl
  have q_r_2 := B_r.cell 2 rfl
  have f_r_0 := B_r.frozen 0
  have f_r_1 := B_r.frozen 1
  have f_r_2 := B_r.frozen 2
  have q_r := B_r.lt
  go_wp2_with fail
  refine callsNamed ?_
  intro p2 hp
  clear q_x_0 q_x_1 q_x_2 f_x_0 f_x_1 f_x_2 q_x q_y_0 q_y_1 q_y_2 f_y_0 f_y_1 f_y_2 q_y q_r_0 q_r_1 q_r_2 f_r_0 f_r_1 f_r_2 q_r
  have O' : Old w p2 := (by rw [hp]; exact Below.trans (b := w1) O oldA)
  replace B_x : Bx p2 (w.heap.size) #[.bool (sgnZ z1), .slice A1 (len (magZ z1)) c1, .slice D1 (len d1) e1] := (by rw [hp]; repeat' (first | (with_reducible exact B_x) | (with_reducible refine Bx.alloc ?_ _) | (with_reducible refine Bx.drewN ?_ _) | (with_reducible refine Bx.drew ?_) | refine Bx.far ?_ (by first | assumption | (simp <;> done) | (simp; omega) | omega) _))
  replace B_y : Bx p2 (w.heap.size + 1) #[.bool (sgnZ z2), .slice A2 (len (magZ z2)) c2, .slice D2 (len d2) e2] := (by rw [hp]; repeat' (first | (with_reducible exact B_y) | (with_reducible refine Bx.alloc ?_ _) | (with_reducible refine Bx.drewN ?_ _) | (with_reducible refine Bx.drew ?_) | refine Bx.far ?_ (by first | assumption | (simp <;> done) | (simp; omega) | omega) _))
  replace B_r : Bx p2 (w.heap.size + 1 + 1) #[.bool false, .slice none 0 0, .slice none 0 0] := (by rw [hp]; repeat' (first | (with_reducible exact B_r) | (with_reducible refine Bx.alloc ?_ _) | (with_reducible refine Bx.drewN ?_ _) | (with_reducible refine Bx.drew ?_) | refine Bx.far ?_ (by first | assumption | (simp <;> done) | (simp; omega) | omega) _))
  have zp2 : w1.heap.size ≤ p2.heap.size := (by rw [hp]; exact leA)
  clear hp O
  have O := O'
  clear O'
  refine (isGood_no (sgnZ z2) A2 D2 (len (magZ z2)) c2 d2 e2 _ P2.out).mono ?_
  rintro e w2 ⟨rfl, o2⟩
  replace B_x := Bx.old B_x o2
  replace B_y := Bx.old B_y o2
  replace B_r := Bx.old B_r o2
  replace O := Old.trans O o2
  have zw2 := o2.size
  have q_x_0 := B_x.cell 0 rfl
  have q_x_1 := B_x.cell 1 rfl
  have q_x_2 := B_x.cell 2 rfl
  have f_x_0 := B_x.frozen 0
  have f_x_1 := B_x.frozen 1
  have f_x_2 := B_x.frozen 2
  have q_x := B_x.lt
  have q_y_0 := B_y.cell 0 rfl
  have q_y_1 := B_y.cell 1 rfl
  have q_y_2 := B_y.cell 2 rfl
  have f_y_0 := B_y.frozen 0
  have f_y_1 := B_y.frozen 1
  have f_y_2 := B_y.frozen 2
  have q_y := B_y.lt
  have q_r_0 := B_r.cell 0 rfl
  have q_r_1 := B_r.cell 1 rfl
  have q_r_2 := B_r.cell 2 rfl
  have f_r_0 := B_r.frozen 0
  have f_r_1 := B_r.frozen 1
  have f_r_2 := B_r.frozen 2
  have q_r := B_r.lt
  go_wp2
  refine bodyPost_ret (v := .agg #[.bool false, .slice none 0 0, .slice none 0 0]) (by simp [results, Try.results112, go_sem, q_r_0, q_r_1, q_r_2]) rfl ⟨RetR.zero rfl, Below.trans (b := w2) O oldA⟩
theorem ratDiv_any (z1 : Int) (d1 : Nat) (A1 D1 : Option Addr) (c1 e1 l1 m1 : Nat) (z2 : Int) (d2 : Nat) (A2 D2 : Option Addr) (c2 e2 l2 m2 : Nat) (w : World) (h1 : NatS w l1 A1 c1 (magZ z1)) (k1 : NatS w m1 D1 e1 d1) (n1 : normF (z1, d1)) (h2 : NatS w l2 A2 c2 (magZ z2)) (k2 : NatS w m2 D2 e2 d2) (n2 : normF (z2, d2)) :
    Calls Try.prog 112 #[.agg #[.bool (sgnZ z1), .slice A1 (len (magZ z1)) c1, .slice D1 (len d1) e1], .agg #[.bool (sgnZ z2), .slice A2 (len (magZ z2)) c2, .slice D2 (len d2) e2]] w fun e w' => RetR e w' w.heap.size (divF (z1, d1) (z2, d2)) ∧ Old w w' := by
  by_cases p1 : 0 < d1
  · by_cases p2 : 0 < d2
    · exact ratDiv_yes z1 d1 A1 D1 c1 e1 l1 m1 z2 d2 A2 D2 c2 e2 l2 m2 w h1 k1 n1 h2 k2 n2 p1 p2
    · rw [divF_no2 (norm_den n2 (by show d2 = 0; omega))]; exact ratDiv_no2 z1 d1 A1 D1 c1 e1 l1 m1 z2 d2 A2 D2 c2 e2 l2 m2 w h1 k1 n1 h2 k2 n2 p1 p2
  · rw [divF_no1 (by show d1 = 0; omega)]; exact ratDiv_no1 z1 d1 A1 D1 c1 e1 l1 m1 z2 d2 A2 D2 c2 e2 l2 m2 w h1 k1 n1 h2 k2 n2 p1
end Go.Proofs.Ytnkeenejcpkelaa
