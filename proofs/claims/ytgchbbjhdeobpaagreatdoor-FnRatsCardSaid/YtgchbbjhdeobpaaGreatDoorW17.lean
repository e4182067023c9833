import Derived.BigQuiet
import Derived.ChangeOld
import Derived.Deep.DeepCutAuto
import Derived.Deep.DrawnRows
import Derived.Deep.OwnRows
import Derived.Deep.QuietTactic
import Derived.Deep.RegionHeld3
import Derived.Deep.RegionWith
import Derived.Deep.Upon
import Derived.IntWalk
import Derived.JoinedOf
import Derived.KernelRfl
import Derived.Laws.FloatArith
import Derived.Lib.AtoiErrMem
import Derived.Lib.ConvBytes
import Derived.Lib.Hide
import Derived.Lib.SmallJoins
import Derived.Lib.Strings
import Derived.OpenShut
import Derived.ProofKit
import Derived.ShutString
import Derived.Test.YtgchbbjhdeobpaaGreatDoorRows
import Derived.Test.YtgchbbjhdeobpaaGreatDoorShelf
import Derived.WalkKit
import Derived.WalkLawsBesides
import Derived.WalkSpells
import Ieee.Arith
import Derived.Test.YtgchbbjhdeobpaaGreatDoorW1
import Derived.Test.YtgchbbjhdeobpaaGreatDoorW2
import Derived.Test.YtgchbbjhdeobpaaGreatDoorW3
import Derived.Test.YtgchbbjhdeobpaaGreatDoorW4
import Derived.Test.YtgchbbjhdeobpaaGreatDoorW5
import Derived.Test.YtgchbbjhdeobpaaGreatDoorW6
import Derived.Test.YtgchbbjhdeobpaaGreatDoorW8
import Derived.Test.YtgchbbjhdeobpaaGreatDoorW9
import Derived.Test.YtgchbbjhdeobpaaGreatDoorW11
import Derived.Test.YtgchbbjhdeobpaaGreatDoorW12
import Derived.Test.YtgchbbjhdeobpaaGreatDoorW14
import Derived.Test.YtgchbbjhdeobpaaGreatDoorW15
import Derived.Test.YtgchbbjhdeobpaaGreatDoorW16
/- What the claim's proof reaches of: RatDivI, RatDivE, RatCmpS, RatCmpE, RatSignE, ParseBig. -/
namespace Go.Proofs.YtgchbbjhdeobpaaGreatDoor
set_option linter.unusedVariables false
open Go.RowKit Num
attribute [local go_sem ↓] Go.wp_at_zero Go.wp_at_succ
set_option maxRecDepth 100000 in
set_option maxHeartbeats 1000000 in
theorem ratDiv_yes2 (z1 : Int) (d1 : Nat) (A1 D1 : Option Addr) (c1 e1 l1 m1 : Nat) (z2 : Int) (d2 : Nat) (A2 D2 : Option Addr) (c2 e2 l2 m2 : Nat) (w : World) (h1 : NatS w l1 A1 c1 (magZ z1)) (k1 : NatS w m1 D1 e1 d1) (n1 : normF (z1, d1)) (h2 : NatS w l2 A2 c2 (magZ z2)) (k2 : NatS w m2 D2 e2 d2) (n2 : normF (z2, d2)) (p1 : 0 < d1) (p2 : 0 < d2) (p3 : 0 < magZ z2) :
    Calls Tryz.prog 48 #[.agg #[.bool (sgnZ z1), .slice A1 (len (magZ z1)) c1, .slice D1 (len d1) e1], .agg #[.bool (sgnZ z2), .slice A2 (len (magZ z2)) c2, .slice D2 (len d2) e2]] w fun e w' => RetR e w' w.heap.size (divF (z1, d1) (z2, d2)) ∧ Old w w' := by
  have N1 := Lib.hid n1
  have LN1 := norm_len n1
  have La1 : len (magZ z1) ≤ 24 := LN1.1
  have Lb1 : len d1 ≤ 24 := LN1.2
  clear n1 LN1
  have N2 := Lib.hid n2
  have LN2 := norm_len n2
  have La2 : len (magZ z2) ≤ 24 := LN2.1
  have Lb2 : len d2 ≤ 24 := LN2.2
  clear n2 LN2
  obtain ⟨M, hM⟩ : ∃ M, M = z1 * (d2 : Int) := ⟨_, rfl⟩
  have HM := Lib.hid hM.symm
  have LM : len (magZ M) ≤ 48 := by rw [hM]; exact mul_len2 La1 Lb2
  obtain ⟨S, hS⟩ : ∃ S, S = signed (sgnZ M != sgnZ z2) (magZ M) := ⟨_, rfl⟩
  have HSM : Hid (magZ S = magZ M) := Lib.hid (by rw [hS, mag_signed])
  have HSG : Hid (((sgnZ M != sgnZ z2) && decide (0 < len (magZ M))) = sgnZ S) := Lib.hid (by rw [hS, sgn_signed, len_dec])
  have LS : len (magZ S) ≤ 48 := by rw [HSM.out]; exact LM
  have HC : Hid (divF (z1, d1) (z2, d2) = mkF S (d1 * magZ z2)) := Lib.hid (by rw [div_val p2 hM, hS])
  have LQ : len (d1 * magZ z2) ≤ 48 := mul_fit Lb1 La2
  have PQ : Hid (0 < d1 * magZ z2) := Lib.hid (Nat.mul_pos p1 p3)
  have hz0 : (((len (magZ z2) : Nat) : Int) == 0) = false := by have := len_pos p3; simp; omega
  clear hM hS p3
  have P1 := Lib.hid p1
  have P2 := Lib.hid p2
  clear p1 p2
  have O : Old w (((w.alloc (.cells #[.bool (sgnZ z1), .slice A1 (len (magZ z1)) c1, .slice D1 (len d1) e1] 26)).alloc (.cells #[.bool (sgnZ z2), .slice A2 (len (magZ z2)) c2, .slice D2 (len d2) e2] 26)).alloc (.cells #[.bool false, .slice none 0 0, .slice none 0 0] 26)) := oldA
  have B_x : Bx (((w.alloc (.cells #[.bool (sgnZ z1), .slice A1 (len (magZ z1)) c1, .slice D1 (len d1) e1] 26)).alloc (.cells #[.bool (sgnZ z2), .slice A2 (len (magZ z2)) c2, .slice D2 (len d2) e2] 26)).alloc (.cells #[.bool false, .slice none 0 0, .slice none 0 0] 26)) (w.heap.size) #[.bool (sgnZ z1), .slice A1 (len (magZ z1)) c1, .slice D1 (len d1) e1] := by have h := (Bx.alloc (Bx.alloc (Bx.new w #[.bool (sgnZ z1), .slice A1 (len (magZ z1)) c1, .slice D1 (len d1) e1] 26) (.cells #[.bool (sgnZ z2), .slice A2 (len (magZ z2)) c2, .slice D2 (len d2) e2] 26)) (.cells #[.bool false, .slice none 0 0, .slice none 0 0] 26)); simpa using h
  have B_y : Bx (((w.alloc (.cells #[.bool (sgnZ z1), .slice A1 (len (magZ z1)) c1, .slice D1 (len d1) e1] 26)).alloc (.cells #[.bool (sgnZ z2), .slice A2 (len (magZ z2)) c2, .slice D2 (len d2) e2] 26)).alloc (.cells #[.bool false, .slice none 0 0, .slice none 0 0] 26)) (w.heap.size + 1) #[.bool (sgnZ z2), .slice A2 (len (magZ z2)) c2, .slice D2 (len d2) e2] := by have h := (Bx.alloc (Bx.new (w.alloc (.cells #[.bool (sgnZ z1), .slice A1 (len (magZ z1)) c1, .slice D1 (len d1) e1] 26)) #[.bool (sgnZ z2), .slice A2 (len (magZ z2)) c2, .slice D2 (len d2) e2] 26) (.cells #[.bool false, .slice none 0 0, .slice none 0 0] 26)); simpa using h
  have B_r : Bx (((w.alloc (.cells #[.bool (sgnZ z1), .slice A1 (len (magZ z1)) c1, .slice D1 (len d1) e1] 26)).alloc (.cells #[.bool (sgnZ z2), .slice A2 (len (magZ z2)) c2, .slice D2 (len d2) e2] 26)).alloc (.cells #[.bool false, .slice none 0 0, .slice none 0 0] 26)) (w.heap.size + 1 + 1) #[.bool false, .slice none 0 0, .slice none 0 0] := by have h := (Bx.new ((w.alloc (.cells #[.bool (sgnZ z1), .slice A1 (len (magZ z1)) c1, .slice D1 (len d1) e1] 26)).alloc (.cells #[.bool (sgnZ z2), .slice A2 (len (magZ z2)) c2, .slice D2 (len d2) e2] 26)) #[.bool false, .slice none 0 0, .slice none 0 0] 26); simpa using h
  have ne_0_1 : ¬ (w.heap.size = w.heap.size + 1) := by omega
  have ne_0_2 : ¬ (w.heap.size = w.heap.size + 1 + 1) := by omega
  have ne_1_0 : ¬ (w.heap.size + 1 = w.heap.size) := by omega
  have ne_1_2 : ¬ (w.heap.size + 1 = w.heap.size + 1 + 1) := by omega
  have ne_2_0 : ¬ (w.heap.size + 1 + 1 = w.heap.size) := by omega
  have ne_2_1 : ¬ (w.heap.size + 1 + 1 = w.heap.size + 1) := by omega
  have ze : w.heap.size + 3 ≤ (((w.alloc (.cells #[.bool (sgnZ z1), .slice A1 (len (magZ z1)) c1, .slice D1 (len d1) e1] 26)).alloc (.cells #[.bool (sgnZ z2), .slice A2 (len (magZ z2)) c2, .slice D2 (len d2) e2] 26)).alloc (.cells #[.bool false, .slice none 0 0, .slice none 0 0] 26)).heap.size := (by simp)
  go_enter Tryz.func48, Tryz.ntmps48
  go_wp2_with fail
  refine callsNamed ?_
  intro p1 hp
  have O' : Old w p1 := (by rw [hp]; exact Below.trans (b := (((w.alloc (.cells #[.bool (sgnZ z1), .slice A1 (len (magZ z1)) c1, .slice D1 (len d1) e1] 26)).alloc (.cells #[.bool (sgnZ z2), .slice A2 (len (magZ z2)) c2, .slice D2 (len d2) e2] 26)).alloc (.cells #[.bool false, .slice none 0 0, .slice none 0 0] 26))) O oldA)
  replace B_x : Bx p1 (w.heap.size) #[.bool (sgnZ z1), .slice A1 (len (magZ z1)) c1, .slice D1 (len d1) e1] := (bxK B_x hp)
  replace B_y : Bx p1 (w.heap.size + 1) #[.bool (sgnZ z2), .slice A2 (len (magZ z2)) c2, .slice D2 (len d2) e2] := (bxK B_y hp)
  replace B_r : Bx p1 (w.heap.size + 1 + 1) #[.bool false, .slice none 0 0, .slice none 0 0] := (bxK B_r hp)
  have zp1 : (((w.alloc (.cells #[.bool (sgnZ z1), .slice A1 (len (magZ z1)) c1, .slice D1 (len d1) e1] 26)).alloc (.cells #[.bool (sgnZ z2), .slice A2 (len (magZ z2)) c2, .slice D2 (len d2) e2] 26)).alloc (.cells #[.bool false, .slice none 0 0, .slice none 0 0] 26)).heap.size ≤ p1.heap.size := (by rw [hp]; exact leA)
  clear hp O
  have O := O'
  clear O'
  refine (isGood_yes (sgnZ z1) A1 D1 (len (magZ z1)) c1 d1 e1 _ P1.out).mono ?_
  rintro e w1 ⟨rfl, o1⟩
  replace B_x := Bx.old B_x o1
  replace B_y := Bx.old B_y o1
  replace B_r := Bx.old B_r o1
  replace O := Old.trans O o1
  have zw1 := o1.size
  obtain ⟨q_x_0, q_x_1, q_x_2, f_x_0, f_x_1, f_x_2, q_x⟩ := B_x.all3
  obtain ⟨q_y_0, q_y_1, q_y_2, f_y_0, f_y_1, f_y_2, q_y⟩ := B_y.all3
  obtain ⟨q_r_0, q_r_1, q_r_2, f_r_0, f_r_1, f_r_2, q_r⟩ := B_r.all3
  go_wp2_with fail
  refine callsNamed ?_
  intro p2 hp
  clear q_x_0 q_x_1 q_x_2 f_x_0 f_x_1 f_x_2 q_x q_y_0 q_y_1 q_y_2 f_y_0 f_y_1 f_y_2 q_y q_r_0 q_r_1 q_r_2 f_r_0 f_r_1 f_r_2 q_r
  have O' : Old w p2 := (by rw [hp]; exact Below.trans (b := w1) O oldA)
  replace B_x : Bx p2 (w.heap.size) #[.bool (sgnZ z1), .slice A1 (len (magZ z1)) c1, .slice D1 (len d1) e1] := (bxK B_x hp)
  replace B_y : Bx p2 (w.heap.size + 1) #[.bool (sgnZ z2), .slice A2 (len (magZ z2)) c2, .slice D2 (len d2) e2] := (bxK B_y hp)
  replace B_r : Bx p2 (w.heap.size + 1 + 1) #[.bool false, .slice none 0 0, .slice none 0 0] := (bxK B_r hp)
  have zp2 : w1.heap.size ≤ p2.heap.size := (by rw [hp]; exact leA)
  clear hp O
  have O := O'
  clear O'
  refine (isGood_yes (sgnZ z2) A2 D2 (len (magZ z2)) c2 d2 e2 _ P2.out).mono ?_
  rintro e w2 ⟨rfl, o2⟩
  replace B_x := Bx.old B_x o2
  replace B_y := Bx.old B_y o2
  replace B_r := Bx.old B_r o2
  replace O := Old.trans O o2
  have zw2 := o2.size
  obtain ⟨q_x_0, q_x_1, q_x_2, f_x_0, f_x_1, f_x_2, q_x⟩ := B_x.all3
  obtain ⟨q_y_0, q_y_1, q_y_2, f_y_0, f_y_1, f_y_2, q_y⟩ := B_y.all3
  obtain ⟨q_r_0, q_r_1, q_r_2, f_r_0, f_r_1, f_r_2, q_r⟩ := B_r.all3
  go_upto_region 3 with fail
  go_cut [5] (fun sl wx => ∃ (g : Nat) (A7 : Option Addr) (c7 : Nat), sl = .pointer (some ⟨g, 0, none⟩) ∧ w2.heap.size ≤ g ∧ Bx wx g #[.bool (sgnZ M), .slice A7 (len (magZ M)) c7] ∧ Row wx w2.heap.size A7 (len (magZ M)) c7 (digI (magZ M)) ∧ Old w2 wx)
  case first =>
    have OP : Old w2 w2 := Old.refl _
    go_wp2_with fail
    refine callsNamed ?_
    intro p3 hp
    clear q_x_0 q_x_1 q_x_2 f_x_0 f_x_1 f_x_2 q_x q_y_0 q_y_1 q_y_2 f_y_0 f_y_1 f_y_2 q_y q_r_0 q_r_1 q_r_2 f_r_0 f_r_1 f_r_2 q_r
    have O' : Old w p3 := (by rw [hp]; exact Below.trans (b := w2) O oldA)
    replace B_x : Bx p3 (w.heap.size) #[.bool (sgnZ z1), .slice A1 (len (magZ z1)) c1, .slice D1 (len d1) e1] := (bxK B_x hp)
    replace B_y : Bx p3 (w.heap.size + 1) #[.bool (sgnZ z2), .slice A2 (len (magZ z2)) c2, .slice D2 (len d2) e2] := (bxK B_y hp)
    replace B_r : Bx p3 (w.heap.size + 1 + 1) #[.bool false, .slice none 0 0, .slice none 0 0] := (bxK B_r hp)
    replace OP : Old w2 p3 := (by rw [hp]; exact Below.trans (b := w2) OP oldA)
    have zp3 : w2.heap.size ≤ p3.heap.size := (by rw [hp]; exact leA)
    clear hp O
    have O := O'
    clear O'
    refine (retB_to HM.out (bigMul_nat z1 d2 A1 D2 c1 e2 l1 m2 _ (Row.below (B := w.heap.size) h1 O (Nat.le_refl _)) (Row.below (B := w.heap.size) k2 O (Nat.le_refl _)) La1 Lb2)).mono ?_
    rintro e w3 ⟨⟨A7, c7, rfl, r7⟩, o3⟩
    replace B_x := Bx.old B_x o3
    replace B_y := Bx.old B_y o3
    replace B_r := Bx.old B_r o3
    replace O := Old.trans O o3
    replace OP := Old.trans OP o3
    have zw3 := o3.size
    replace r7 := Row.more (lo' := p3.heap.size) r7 leA
    have lim_r7 := Row.lim r7
    obtain ⟨q_x_0, q_x_1, q_x_2, f_x_0, f_x_1, f_x_2, q_x⟩ := B_x.all3
    obtain ⟨q_y_0, q_y_1, q_y_2, f_y_0, f_y_1, f_y_2, q_y⟩ := B_y.all3
    obtain ⟨q_r_0, q_r_1, q_r_2, f_r_0, f_r_1, f_r_2, q_r⟩ := B_r.all3
    go_wp2_with fail
    go_meet
    exact ⟨_, A7, c7, rfl, leA, (by first | exact Bx.new _ _ _ | exact Bx.put2 (Bx.new _ _ _) _ _ | exact Bx.put2 (Bx.drew (Bx.new _ _ _)) _ _), (by refine Row.more (lo := p3.heap.size) ?_ leA; first | exact (Row.far_set (Row.far_set r7 (by first | (simp <;> done) | (simp; omega) | omega) _) (by first | (simp <;> done) | (simp; omega) | omega) _) | exact Row.below (B := w3.heap.size) r7 oldA (Nat.le_refl _)), Below.trans (b := w3) OP oldA⟩
  case rest =>
  obtain ⟨g_n, A7, c7, rfl, hg_n, B_n, r7, o4⟩ := hcut
  obtain ⟨w4, hw⟩ : ∃ x, x = wc := ⟨_, rfl⟩
  subst hw
  clear q_x_0 q_x_1 q_x_2 f_x_0 f_x_1 f_x_2 q_x q_y_0 q_y_1 q_y_2 f_y_0 f_y_1 f_y_2 q_y q_r_0 q_r_1 q_r_2 f_r_0 f_r_1 f_r_2 q_r
  replace B_x := Bx.old B_x o4
  replace B_y := Bx.old B_y o4
  replace B_r := Bx.old B_r o4
  replace O := Old.trans O o4
  have zw4 := o4.size
  have lt_n := B_n.lt
  have ne_n_x : ¬ (g_n = w.heap.size) := by omega
  have en_n_x : ¬ (w.heap.size = g_n) := by omega
  have ne_n_y : ¬ (g_n = w.heap.size + 1) := by omega
  have en_n_y : ¬ (w.heap.size + 1 = g_n) := by omega
  have ne_n_r : ¬ (g_n = w.heap.size + 1 + 1) := by omega
  have en_n_r : ¬ (w.heap.size + 1 + 1 = g_n) := by omega
  have lim_r7 := Row.lim r7
  obtain ⟨q_x_0, q_x_1, q_x_2, f_x_0, f_x_1, f_x_2, q_x⟩ := B_x.all3
  obtain ⟨q_y_0, q_y_1, q_y_2, f_y_0, f_y_1, f_y_2, q_y⟩ := B_y.all3
  obtain ⟨q_r_0, q_r_1, q_r_2, f_r_0, f_r_1, f_r_2, q_r⟩ := B_r.all3
  obtain ⟨q_n_0, q_n_1, f_n_0, f_n_1, q_n⟩ := B_n.all2
  go_wp2_with fail
  go_region_held3 (fun w' => w'.cell? ⟨w.heap.size, 0, none⟩ = some (.bool (sgnZ z1)) ∧ w'.cell? ⟨w.heap.size, 1, none⟩ = some (.slice A1 (len (magZ z1)) c1) ∧ w'.cell? ⟨w.heap.size, 2, none⟩ = some (.slice D1 (len d1) e1) ∧ w'.cell? ⟨w.heap.size + 1, 0, none⟩ = some (.bool (sgnZ z2)) ∧ w'.cell? ⟨w.heap.size + 1, 1, none⟩ = some (.slice A2 (len (magZ z2)) c2) ∧ w'.cell? ⟨w.heap.size + 1, 2, none⟩ = some (.slice D2 (len d2) e2) ∧ w'.cell? ⟨g_n, 0, none⟩ = some (.bool (sgnZ M)) ∧ w'.cell? ⟨g_n, 1, none⟩ = some (.slice A7 (len (magZ M)) c7)) (go_keep)
    (first
     | (go_at_call 78; refine callsNamed ?_; intro p5 hp; clear q_x_0 q_x_1 q_x_2 f_x_0 f_x_1 f_x_2 q_x q_y_0 q_y_1 q_y_2 f_y_0 f_y_1 f_y_2 q_y q_r_0 q_r_1 q_r_2 f_r_0 f_r_1 f_r_2 q_r q_n_0 q_n_1 f_n_0 f_n_1 q_n; have O' : Old w p5 := (by rw [hp]; exact Below.trans (b := w4) O oldA); replace B_x : Bx p5 (w.heap.size) #[.bool (sgnZ z1), .slice A1 (len (magZ z1)) c1, .slice D1 (len d1) e1] := (bxK B_x hp); replace B_y : Bx p5 (w.heap.size + 1) #[.bool (sgnZ z2), .slice A2 (len (magZ z2)) c2, .slice D2 (len d2) e2] := (bxK B_y hp); replace B_r : Bx p5 (w.heap.size + 1 + 1) #[.bool false, .slice none 0 0, .slice none 0 0] := (bxK B_r hp); replace B_n : Bx p5 (g_n) #[.bool (sgnZ M), .slice A7 (len (magZ M)) c7] := (bxK B_n hp); replace r7 := rowK r7 hp; have zp5 : w4.heap.size ≤ p5.heap.size := (by rw [hp]; exact leA); clear hp O; have O := O'; clear O'; refine (plain_to (v' := .agg #[.bool (sgnZ S), .slice A7 (len (magZ S)) c7]) (by rw [HSG.out, HSM.out]) (bigMake_any (sgnZ M != sgnZ z2) A7 (len (magZ M)) c7 _)).mono ?_; rintro e w5 ⟨rfl, o5⟩; replace B_x := Bx.old B_x o5; replace B_y := Bx.old B_y o5; replace B_r := Bx.old B_r o5; replace B_n := Bx.old B_n o5; replace r7 := Row.below r7 o5 (Nat.le_refl _); replace O := Old.trans O o5; have zw5 := o5.size; obtain ⟨q_x_0, q_x_1, q_x_2, f_x_0, f_x_1, f_x_2, q_x⟩ := B_x.all3; obtain ⟨q_y_0, q_y_1, q_y_2, f_y_0, f_y_1, f_y_2, q_y⟩ := B_y.all3; obtain ⟨q_r_0, q_r_1, q_r_2, f_r_0, f_r_1, f_r_2, q_r⟩ := B_r.all3; obtain ⟨q_n_0, q_n_1, f_n_0, f_n_1, q_n⟩ := B_n.all2)
     | (go_at_call 75; refine callsNamed ?_; intro p6 hp; clear q_x_0 q_x_1 q_x_2 f_x_0 f_x_1 f_x_2 q_x q_y_0 q_y_1 q_y_2 f_y_0 f_y_1 f_y_2 q_y q_r_0 q_r_1 q_r_2 f_r_0 f_r_1 f_r_2 q_r q_n_0 q_n_1 f_n_0 f_n_1 q_n; have O' : Old w p6 := (by rw [hp]; exact Below.trans (b := w5) O oldA); replace B_x : Bx p6 (w.heap.size) #[.bool (sgnZ z1), .slice A1 (len (magZ z1)) c1, .slice D1 (len d1) e1] := (bxK B_x hp); replace B_y : Bx p6 (w.heap.size + 1) #[.bool (sgnZ z2), .slice A2 (len (magZ z2)) c2, .slice D2 (len d2) e2] := (bxK B_y hp); replace B_r : Bx p6 (w.heap.size + 1 + 1) #[.bool false, .slice none 0 0, .slice none 0 0] := (bxK B_r hp); replace B_n : Bx p6 (g_n) #[.bool (sgnZ M), .slice A7 (len (magZ M)) c7] := (bxK B_n hp); replace r7 := rowK r7 hp; have zp6 : w5.heap.size ≤ p6.heap.size := (by rw [hp]; exact leA); clear hp O; have O := O'; clear O'; refine (natMul_any D1 A2 e1 c2 d1 (magZ z2) m1 l2 _ (Row.below (B := w.heap.size) k1 O (Nat.le_refl _)) (Row.below (B := w.heap.size) h2 O (Nat.le_refl _)) (by omega) (by omega)).mono ?_; rintro e w6 ⟨A8, c8, rfl, r8, o6⟩; replace B_x := Bx.old B_x o6; replace B_y := Bx.old B_y o6; replace B_r := Bx.old B_r o6; replace B_n := Bx.old B_n o6; replace r7 := Row.below r7 o6 (Nat.le_refl _); replace O := Old.trans O o6; have zw6 := o6.size; replace r8 := Row.more (lo' := p6.heap.size) r8 leA; have lim_r8 := Row.lim r8; obtain ⟨q_x_0, q_x_1, q_x_2, f_x_0, f_x_1, f_x_2, q_x⟩ := B_x.all3; obtain ⟨q_y_0, q_y_1, q_y_2, f_y_0, f_y_1, f_y_2, q_y⟩ := B_y.all3; obtain ⟨q_r_0, q_r_1, q_r_2, f_r_0, f_r_1, f_r_2, q_r⟩ := B_r.all3; obtain ⟨q_n_0, q_n_1, f_n_0, f_n_1, q_n⟩ := B_n.all2)
     | (go_at_call 74; refine callsNamed ?_; intro p7 hp; clear q_x_0 q_x_1 q_x_2 f_x_0 f_x_1 f_x_2 q_x q_y_0 q_y_1 q_y_2 f_y_0 f_y_1 f_y_2 q_y q_r_0 q_r_1 q_r_2 f_r_0 f_r_1 f_r_2 q_r q_n_0 q_n_1 f_n_0 f_n_1 q_n; have O' : Old w p7 := (by rw [hp]; exact Below.trans (b := w6) O oldA); replace B_x : Bx p7 (w.heap.size) #[.bool (sgnZ z1), .slice A1 (len (magZ z1)) c1, .slice D1 (len d1) e1] := (bxK B_x hp); replace B_y : Bx p7 (w.heap.size + 1) #[.bool (sgnZ z2), .slice A2 (len (magZ z2)) c2, .slice D2 (len d2) e2] := (bxK B_y hp); replace B_r : Bx p7 (w.heap.size + 1 + 1) #[.bool false, .slice none 0 0, .slice none 0 0] := (bxK B_r hp); replace B_n : Bx p7 (g_n) #[.bool (sgnZ M), .slice A7 (len (magZ M)) c7] := (bxK B_n hp); replace r7 := rowK r7 hp; replace r8 := rowK r8 hp; have zp7 : w6.heap.size ≤ p7.heap.size := (by rw [hp]; exact leA); clear hp O; have O := O'; clear O'; refine (ratMake_any S (d1 * magZ z2) A7 A8 c7 c8 _ _ _ (by rw [HSM.out]; exact r7) r8 (by omega) (by omega) PQ.out).mono ?_; rintro e w7 ⟨⟨z9, d9, A9, c9, D9, e9, hv, rfl, r9, s9, ap⟩, o7⟩; replace B_x := Bx.old B_x o7; replace B_y := Bx.old B_y o7; replace B_r := Bx.old B_r o7; replace B_n := Bx.old B_n o7; replace r7 := Row.below r7 o7 (Nat.le_refl _); replace r8 := Row.below r8 o7 (Nat.le_refl _); replace O := Old.trans O o7; have zw7 := o7.size; replace r9 := Row.more (lo' := p7.heap.size) r9 leA; replace s9 := Row.more (lo' := p7.heap.size) s9 leA; have lim_r9 := Row.lim r9; have lim_s9 := Row.lim s9; have HV := Lib.hid hv; have AP := Lib.hid ap; clear hv ap; obtain ⟨q_x_0, q_x_1, q_x_2, f_x_0, f_x_1, f_x_2, q_x⟩ := B_x.all3; obtain ⟨q_y_0, q_y_1, q_y_2, f_y_0, f_y_1, f_y_2, q_y⟩ := B_y.all3; obtain ⟨q_r_0, q_r_1, q_r_2, f_r_0, f_r_1, f_r_2, q_r⟩ := B_r.all3; obtain ⟨q_n_0, q_n_1, f_n_0, f_n_1, q_n⟩ := B_n.all2))
  go_wp2
  refine bodyPost_ret (v := .agg #[.bool (sgnZ z9), .slice A9 (len (magZ z9)) c9, .slice D9 (len d9) e9]) (by simp [results, Tryz.results48, go_sem, q_r_0, q_r_1, q_r_2]) rfl ⟨⟨z9, d9, A9, c9, D9, e9, HC.out.trans HV.out, rfl, ?_, ?_, AP.out⟩, ?_⟩
  · refine Row.more (lo := p7.heap.size) ?_ leA
    repeat' (first | exact r9 | refine Row.far_set ?_ (by first | (simp <;> done) | (simp; omega) | omega) _)
  · refine Row.more (lo := p7.heap.size) ?_ leA
    repeat' (first | exact s9 | refine Row.far_set ?_ (by first | (simp <;> done) | (simp; omega) | omega) _)
  · exact Below.trans (b := w7) O oldA
set_option maxRecDepth 100000 in
set_option maxHeartbeats 1000000 in
theorem ratDiv_null (z1 : Int) (d1 : Nat) (A1 D1 : Option Addr) (c1 e1 l1 m1 : Nat) (z2 : Int) (d2 : Nat) (A2 D2 : Option Addr) (c2 e2 l2 m2 : Nat) (w : World) (h1 : NatS w l1 A1 c1 (magZ z1)) (k1 : NatS w m1 D1 e1 d1) (n1 : normF (z1, d1)) (h2 : NatS w l2 A2 c2 (magZ z2)) (k2 : NatS w m2 D2 e2 d2) (n2 : normF (z2, d2)) (p1 : 0 < d1) (p2 : 0 < d2) (p3 : ¬ 0 < magZ z2) :
    Calls Tryz.prog 48 #[.agg #[.bool (sgnZ z1), .slice A1 (len (magZ z1)) c1, .slice D1 (len d1) e1], .agg #[.bool (sgnZ z2), .slice A2 (len (magZ z2)) c2, .slice D2 (len d2) e2]] w fun e w' => RetR e w' w.heap.size (0, 0) ∧ Old w w' := by
  have N1 := Lib.hid n1
  have LN1 := norm_len n1
  have La1 : len (magZ z1) ≤ 24 := LN1.1
  have Lb1 : len d1 ≤ 24 := LN1.2
  clear n1 LN1
  have N2 := Lib.hid n2
  have LN2 := norm_len n2
  have La2 : len (magZ z2) ≤ 24 := LN2.1
  have Lb2 : len d2 ≤ 24 := LN2.2
  clear n2 LN2
  have hz0 : (((len (magZ z2) : Nat) : Int) == 0) = true := zero_len_beq (by omega)
  clear p3
  have P1 := Lib.hid p1
  have P2 := Lib.hid p2
  clear p1 p2
  have O : Old w (((w.alloc (.cells #[.bool (sgnZ z1), .slice A1 (len (magZ z1)) c1, .slice D1 (len d1) e1] 26)).alloc (.cells #[.bool (sgnZ z2), .slice A2 (len (magZ z2)) c2, .slice D2 (len d2) e2] 26)).alloc (.cells #[.bool false, .slice none 0 0, .slice none 0 0] 26)) := oldA
  have B_x : Bx (((w.alloc (.cells #[.bool (sgnZ z1), .slice A1 (len (magZ z1)) c1, .slice D1 (len d1) e1] 26)).alloc (.cells #[.bool (sgnZ z2), .slice A2 (len (magZ z2)) c2, .slice D2 (len d2) e2] 26)).alloc (.cells #[.bool false, .slice none 0 0, .slice none 0 0] 26)) (w.heap.size) #[.bool (sgnZ z1), .slice A1 (len (magZ z1)) c1, .slice D1 (len d1) e1] := by have h := (Bx.alloc (Bx.alloc (Bx.new w #[.bool (sgnZ z1), .slice A1 (len (magZ z1)) c1, .slice D1 (len d1) e1] 26) (.cells #[.bool (sgnZ z2), .slice A2 (len (magZ z2)) c2, .slice D2 (len d2) e2] 26)) (.cells #[.bool false, .slice none 0 0, .slice none 0 0] 26)); simpa using h
  have B_y : Bx (((w.alloc (.cells #[.bool (sgnZ z1), .slice A1 (len (magZ z1)) c1, .slice D1 (len d1) e1] 26)).alloc (.cells #[.bool (sgnZ z2), .slice A2 (len (magZ z2)) c2, .slice D2 (len d2) e2] 26)).alloc (.cells #[.bool false, .slice none 0 0, .slice none 0 0] 26)) (w.heap.size + 1) #[.bool (sgnZ z2), .slice A2 (len (magZ z2)) c2, .slice D2 (len d2) e2] := by have h := (Bx.alloc (Bx.new (w.alloc (.cells #[.bool (sgnZ z1), .slice A1 (len (magZ z1)) c1, .slice D1 (len d1) e1] 26)) #[.bool (sgnZ z2), .slice A2 (len (magZ z2)) c2, .slice D2 (len d2) e2] 26) (.cells #[.bool false, .slice none 0 0, .slice none 0 0] 26)); simpa using h
  have B_r : Bx (((w.alloc (.cells #[.bool (sgnZ z1), .slice A1 (len (magZ z1)) c1, .slice D1 (len d1) e1] 26)).alloc (.cells #[.bool (sgnZ z2), .slice A2 (len (magZ z2)) c2, .slice D2 (len d2) e2] 26)).alloc (.cells #[.bool false, .slice none 0 0, .slice none 0 0] 26)) (w.heap.size + 1 + 1) #[.bool false, .slice none 0 0, .slice none 0 0] := by have h := (Bx.new ((w.alloc (.cells #[.bool (sgnZ z1), .slice A1 (len (magZ z1)) c1, .slice D1 (len d1) e1] 26)).alloc (.cells #[.bool (sgnZ z2), .slice A2 (len (magZ z2)) c2, .slice D2 (len d2) e2] 26)) #[.bool false, .slice none 0 0, .slice none 0 0] 26); simpa using h
  have ne_0_1 : ¬ (w.heap.size = w.heap.size + 1) := by omega
  have ne_0_2 : ¬ (w.heap.size = w.heap.size + 1 + 1) := by omega
  have ne_1_0 : ¬ (w.heap.size + 1 = w.heap.size) := by omega
  have ne_1_2 : ¬ (w.heap.size + 1 = w.heap.size + 1 + 1) := by omega
  have ne_2_0 : ¬ (w.heap.size + 1 + 1 = w.heap.size) := by omega
  have ne_2_1 : ¬ (w.heap.size + 1 + 1 = w.heap.size + 1) := by omega
  have ze : w.heap.size + 3 ≤ (((w.alloc (.cells #[.bool (sgnZ z1), .slice A1 (len (magZ z1)) c1, .slice D1 (len d1) e1] 26)).alloc (.cells #[.bool (sgnZ z2), .slice A2 (len (magZ z2)) c2, .slice D2 (len d2) e2] 26)).alloc (.cells #[.bool false, .slice none 0 0, .slice none 0 0] 26)).heap.size := (by simp)
  go_enter Tryz.func48, Tryz.ntmps48
  go_wp2_with fail
  refine callsNamed ?_
  intro p1 hp
  have O' : Old w p1 := (by rw [hp]; exact Below.trans (b := (((w.alloc (.cells #[.bool (sgnZ z1), .slice A1 (len (magZ z1)) c1, .slice D1 (len d1) e1] 26)).alloc (.cells #[.bool (sgnZ z2), .slice A2 (len (magZ z2)) c2, .slice D2 (len d2) e2] 26)).alloc (.cells #[.bool false, .slice none 0 0, .slice none 0 0] 26))) O oldA)
  replace B_x : Bx p1 (w.heap.size) #[.bool (sgnZ z1), .slice A1 (len (magZ z1)) c1, .slice D1 (len d1) e1] := (bxK B_x hp)
  replace B_y : Bx p1 (w.heap.size + 1) #[.bool (sgnZ z2), .slice A2 (len (magZ z2)) c2, .slice D2 (len d2) e2] := (bxK B_y hp)
  replace B_r : Bx p1 (w.heap.size + 1 + 1) #[.bool false, .slice none 0 0, .slice none 0 0] := (bxK B_r hp)
  have zp1 : (((w.alloc (.cells #[.bool (sgnZ z1), .slice A1 (len (magZ z1)) c1, .slice D1 (len d1) e1] 26)).alloc (.cells #[.bool (sgnZ z2), .slice A2 (len (magZ z2)) c2, .slice D2 (len d2) e2] 26)).alloc (.cells #[.bool false, .slice none 0 0, .slice none 0 0] 26)).heap.size ≤ p1.heap.size := (by rw [hp]; exact leA)
  clear hp O
  have O := O'
  clear O'
  refine (isGood_yes (sgnZ z1) A1 D1 (len (magZ z1)) c1 d1 e1 _ P1.out).mono ?_
  rintro e w1 ⟨rfl, o1⟩
  replace B_x := Bx.old B_x o1
  replace B_y := Bx.old B_y o1
  replace B_r := Bx.old B_r o1
  replace O := Old.trans O o1
  have zw1 := o1.size
  obtain ⟨q_x_0, q_x_1, q_x_2, f_x_0, f_x_1, f_x_2, q_x⟩ := B_x.all3
  obtain ⟨q_y_0, q_y_1, q_y_2, f_y_0, f_y_1, f_y_2, q_y⟩ := B_y.all3
  obtain ⟨q_r_0, q_r_1, q_r_2, f_r_0, f_r_1, f_r_2, q_r⟩ := B_r.all3
  go_wp2_with fail
  refine callsNamed ?_
  intro p2 hp
  clear q_x_0 q_x_1 q_x_2 f_x_0 f_x_1 f_x_2 q_x q_y_0 q_y_1 q_y_2 f_y_0 f_y_1 f_y_2 q_y q_r_0 q_r_1 q_r_2 f_r_0 f_r_1 f_r_2 q_r
  have O' : Old w p2 := (by rw [hp]; exact Below.trans (b := w1) O oldA)
  replace B_x : Bx p2 (w.heap.size) #[.bool (sgnZ z1), .slice A1 (len (magZ z1)) c1, .slice D1 (len d1) e1] := (bxK B_x hp)
  replace B_y : Bx p2 (w.heap.size + 1) #[.bool (sgnZ z2), .slice A2 (len (magZ z2)) c2, .slice D2 (len d2) e2] := (bxK B_y hp)
  replace B_r : Bx p2 (w.heap.size + 1 + 1) #[.bool false, .slice none 0 0, .slice none 0 0] := (bxK B_r hp)
  have zp2 : w1.heap.size ≤ p2.heap.size := (by rw [hp]; exact leA)
  clear hp O
  have O := O'
  clear O'
  refine (isGood_yes (sgnZ z2) A2 D2 (len (magZ z2)) c2 d2 e2 _ P2.out).mono ?_
  rintro e w2 ⟨rfl, o2⟩
  replace B_x := Bx.old B_x o2
  replace B_y := Bx.old B_y o2
  replace B_r := Bx.old B_r o2
  replace O := Old.trans O o2
  have zw2 := o2.size
  obtain ⟨q_x_0, q_x_1, q_x_2, f_x_0, f_x_1, f_x_2, q_x⟩ := B_x.all3
  obtain ⟨q_y_0, q_y_1, q_y_2, f_y_0, f_y_1, f_y_2, q_y⟩ := B_y.all3
  obtain ⟨q_r_0, q_r_1, q_r_2, f_r_0, f_r_1, f_r_2, q_r⟩ := B_r.all3
  go_wp2
  refine bodyPost_ret (v := .agg #[.bool false, .slice none 0 0, .slice none 0 0]) (by simp [results, Tryz.results48, go_sem, q_r_0, q_r_1, q_r_2]) rfl ⟨RetR.zero rfl, Below.trans (b := w2) O oldA⟩
theorem ratDiv_yes (z1 : Int) (d1 : Nat) (A1 D1 : Option Addr) (c1 e1 l1 m1 : Nat) (z2 : Int) (d2 : Nat) (A2 D2 : Option Addr) (c2 e2 l2 m2 : Nat) (w : World) (h1 : NatS w l1 A1 c1 (magZ z1)) (k1 : NatS w m1 D1 e1 d1) (n1 : normF (z1, d1)) (h2 : NatS w l2 A2 c2 (magZ z2)) (k2 : NatS w m2 D2 e2 d2) (n2 : normF (z2, d2)) (p1 : 0 < d1) (p2 : 0 < d2) :
    Calls Tryz.prog 48 #[.agg #[.bool (sgnZ z1), .slice A1 (len (magZ z1)) c1, .slice D1 (len d1) e1], .agg #[.bool (sgnZ z2), .slice A2 (len (magZ z2)) c2, .slice D2 (len d2) e2]] w fun e w' => RetR e w' w.heap.size (divF (z1, d1) (z2, d2)) ∧ Old w w' := by
  by_cases p3 : 0 < magZ z2
  · exact ratDiv_yes2 z1 d1 A1 D1 c1 e1 l1 m1 z2 d2 A2 D2 c2 e2 l2 m2 w h1 k1 n1 h2 k2 n2 p1 p2 p3
  · have e0 : divF (z1, d1) (z2, d2) = (0, 0) := mkF_d0 (by show d1 * magZ z2 = 0; rw [show magZ z2 = 0 by omega, Nat.mul_zero])
    rw [e0]; exact ratDiv_null z1 d1 A1 D1 c1 e1 l1 m1 z2 d2 A2 D2 c2 e2 l2 m2 w h1 k1 n1 h2 k2 n2 p1 p2 p3
set_option maxRecDepth 100000 in
set_option maxHeartbeats 1000000 in
theorem ratDiv_no1 (z1 : Int) (d1 : Nat) (A1 D1 : Option Addr) (c1 e1 l1 m1 : Nat) (z2 : Int) (d2 : Nat) (A2 D2 : Option Addr) (c2 e2 l2 m2 : Nat) (w : World) (h1 : NatS w l1 A1 c1 (magZ z1)) (k1 : NatS w m1 D1 e1 d1) (n1 : normF (z1, d1)) (h2 : NatS w l2 A2 c2 (magZ z2)) (k2 : NatS w m2 D2 e2 d2) (n2 : normF (z2, d2)) (p1 : ¬ 0 < d1) :
    Calls Tryz.prog 48 #[.agg #[.bool (sgnZ z1), .slice A1 (len (magZ z1)) c1, .slice D1 (len d1) e1], .agg #[.bool (sgnZ z2), .slice A2 (len (magZ z2)) c2, .slice D2 (len d2) e2]] w fun e w' => RetR e w' w.heap.size (0, 0) ∧ Old w w' := by
  have N1 := Lib.hid n1
  have LN1 := norm_len n1
  have La1 : len (magZ z1) ≤ 24 := LN1.1
  have Lb1 : len d1 ≤ 24 := LN1.2
  clear n1 LN1
  have N2 := Lib.hid n2
  have LN2 := norm_len n2
  have La2 : len (magZ z2) ≤ 24 := LN2.1
  have Lb2 : len d2 ≤ 24 := LN2.2
  clear n2 LN2
  have P1 := Lib.hid p1
  clear p1
  have O : Old w (((w.alloc (.cells #[.bool (sgnZ z1), .slice A1 (len (magZ z1)) c1, .slice D1 (len d1) e1] 26)).alloc (.cells #[.bool (sgnZ z2), .slice A2 (len (magZ z2)) c2, .slice D2 (len d2) e2] 26)).alloc (.cells #[.bool false, .slice none 0 0, .slice none 0 0] 26)) := oldA
  have B_x : Bx (((w.alloc (.cells #[.bool (sgnZ z1), .slice A1 (len (magZ z1)) c1, .slice D1 (len d1) e1] 26)).alloc (.cells #[.bool (sgnZ z2), .slice A2 (len (magZ z2)) c2, .slice D2 (len d2) e2] 26)).alloc (.cells #[.bool false, .slice none 0 0, .slice none 0 0] 26)) (w.heap.size) #[.bool (sgnZ z1), .slice A1 (len (magZ z1)) c1, .slice D1 (len d1) e1] := by have h := (Bx.alloc (Bx.alloc (Bx.new w #[.bool (sgnZ z1), .slice A1 (len (magZ z1)) c1, .slice D1 (len d1) e1] 26) (.cells #[.bool (sgnZ z2), .slice A2 (len (magZ z2)) c2, .slice D2 (len d2) e2] 26)) (.cells #[.bool false, .slice none 0 0, .slice none 0 0] 26)); simpa using h
  have B_y : Bx (((w.alloc (.cells #[.bool (sgnZ z1), .slice A1 (len (magZ z1)) c1, .slice D1 (len d1) e1] 26)).alloc (.cells #[.bool (sgnZ z2), .slice A2 (len (magZ z2)) c2, .slice D2 (len d2) e2] 26)).alloc (.cells #[.bool false, .slice none 0 0, .slice none 0 0] 26)) (w.heap.size + 1) #[.bool (sgnZ z2), .slice A2 (len (magZ z2)) c2, .slice D2 (len d2) e2] := by have h := (Bx.alloc (Bx.new (w.alloc (.cells #[.bool (sgnZ z1), .slice A1 (len (magZ z1)) c1, .slice D1 (len d1) e1] 26)) #[.bool (sgnZ z2), .slice A2 (len (magZ z2)) c2, .slice D2 (len d2) e2] 26) (.cells #[.bool false, .slice none 0 0, .slice none 0 0] 26)); simpa using h
  have B_r : Bx (((w.alloc (.cells #[.bool (sgnZ z1), .slice A1 (len (magZ z1)) c1, .slice D1 (len d1) e1] 26)).alloc (.cells #[.bool (sgnZ z2), .slice A2 (len (magZ z2)) c2, .slice D2 (len d2) e2] 26)).alloc (.cells #[.bool false, .slice none 0 0, .slice none 0 0] 26)) (w.heap.size + 1 + 1) #[.bool false, .slice none 0 0, .slice none 0 0] := by have h := (Bx.new ((w.alloc (.cells #[.bool (sgnZ z1), .slice A1 (len (magZ z1)) c1, .slice D1 (len d1) e1] 26)).alloc (.cells #[.bool (sgnZ z2), .slice A2 (len (magZ z2)) c2, .slice D2 (len d2) e2] 26)) #[.bool false, .slice none 0 0, .slice none 0 0] 26); simpa using h
  have ne_0_1 : ¬ (w.heap.size = w.heap.size + 1) := by omega
  have ne_0_2 : ¬ (w.heap.size = w.heap.size + 1 + 1) := by omega
  have ne_1_0 : ¬ (w.heap.size + 1 = w.heap.size) := by omega
  have ne_1_2 : ¬ (w.heap.size + 1 = w.heap.size + 1 + 1) := by omega
  have ne_2_0 : ¬ (w.heap.size + 1 + 1 = w.heap.size) := by omega
  have ne_2_1 : ¬ (w.heap.size + 1 + 1 = w.heap.size + 1) := by omega
  have ze : w.heap.size + 3 ≤ (((w.alloc (.cells #[.bool (sgnZ z1), .slice A1 (len (magZ z1)) c1, .slice D1 (len d1) e1] 26)).alloc (.cells #[.bool (sgnZ z2), .slice A2 (len (magZ z2)) c2, .slice D2 (len d2) e2] 26)).alloc (.cells #[.bool false, .slice none 0 0, .slice none 0 0] 26)).heap.size := (by simp)
  go_enter Tryz.func48, Tryz.ntmps48
  go_wp2_with fail
  refine callsNamed ?_
  intro p1 hp
  have O' : Old w p1 := (by rw [hp]; exact Below.trans (b := (((w.alloc (.cells #[.bool (sgnZ z1), .slice A1 (len (magZ z1)) c1, .slice D1 (len d1) e1] 26)).alloc (.cells #[.bool (sgnZ z2), .slice A2 (len (magZ z2)) c2, .slice D2 (len d2) e2] 26)).alloc (.cells #[.bool false, .slice none 0 0, .slice none 0 0] 26))) O oldA)
  replace B_x : Bx p1 (w.heap.size) #[.bool (sgnZ z1), .slice A1 (len (magZ z1)) c1, .slice D1 (len d1) e1] := (bxK B_x hp)
  replace B_y : Bx p1 (w.heap.size + 1) #[.bool (sgnZ z2), .slice A2 (len (magZ z2)) c2, .slice D2 (len d2) e2] := (bxK B_y hp)
  replace B_r : Bx p1 (w.heap.size + 1 + 1) #[.bool false, .slice none 0 0, .slice none 0 0] := (bxK B_r hp)
  have zp1 : (((w.alloc (.cells #[.bool (sgnZ z1), .slice A1 (len (magZ z1)) c1, .slice D1 (len d1) e1] 26)).alloc (.cells #[.bool (sgnZ z2), .slice A2 (len (magZ z2)) c2, .slice D2 (len d2) e2] 26)).alloc (.cells #[.bool false, .slice none 0 0, .slice none 0 0] 26)).heap.size ≤ p1.heap.size := (by rw [hp]; exact leA)
  clear hp O
  have O := O'
  clear O'
  refine (isGood_no (sgnZ z1) A1 D1 (len (magZ z1)) c1 d1 e1 _ P1.out).mono ?_
  rintro e w1 ⟨rfl, o1⟩
  replace B_x := Bx.old B_x o1
  replace B_y := Bx.old B_y o1
  replace B_r := Bx.old B_r o1
  replace O := Old.trans O o1
  have zw1 := o1.size
  obtain ⟨q_x_0, q_x_1, q_x_2, f_x_0, f_x_1, f_x_2, q_x⟩ := B_x.all3
  obtain ⟨q_y_0, q_y_1, q_y_2, f_y_0, f_y_1, f_y_2, q_y⟩ := B_y.all3
  obtain ⟨q_r_0, q_r_1, q_r_2, f_r_0, f_r_1, f_r_2, q_r⟩ := B_r.all3
  go_wp2
  refine bodyPost_ret (v := .agg #[.bool false, .slice none 0 0, .slice none 0 0]) (by simp [results, Tryz.results48, go_sem, q_r_0, q_r_1, q_r_2]) rfl ⟨RetR.zero rfl, Below.trans (b := w1) O oldA⟩
set_option maxRecDepth 100000 in
set_option maxHeartbeats 1000000 in
theorem ratDiv_no2 (z1 : Int) (d1 : Nat) (A1 D1 : Option Addr) (c1 e1 l1 m1 : Nat) (z2 : Int) (d2 : Nat) (A2 D2 : Option Addr) (c2 e2 l2 m2 : Nat) (w : World) (h1 : NatS w l1 A1 c1 (magZ z1)) (k1 : NatS w m1 D1 e1 d1) (n1 : normF (z1, d1)) (h2 : NatS w l2 A2 c2 (magZ z2)) (k2 : NatS w m2 D2 e2 d2) (n2 : normF (z2, d2)) (p1 : 0 < d1) (p2 : ¬ 0 < d2) :
    Calls Tryz.prog 48 #[.agg #[.bool (sgnZ z1), .slice A1 (len (magZ z1)) c1, .slice D1 (len d1) e1], .agg #[.bool (sgnZ z2), .slice A2 (len (magZ z2)) c2, .slice D2 (len d2) e2]] w fun e w' => RetR e w' w.heap.size (0, 0) ∧ Old w w' := by
  have N1 := Lib.hid n1
  have LN1 := norm_len n1
  have La1 : len (magZ z1) ≤ 24 := LN1.1
  have Lb1 : len d1 ≤ 24 := LN1.2
  clear n1 LN1
  have N2 := Lib.hid n2
  have LN2 := norm_len n2
  have La2 : len (magZ z2) ≤ 24 := LN2.1
  have Lb2 : len d2 ≤ 24 := LN2.2
  clear n2 LN2
  have P1 := Lib.hid p1
  have P2 := Lib.hid p2
  clear p1 p2
  have O : Old w (((w.alloc (.cells #[.bool (sgnZ z1), .slice A1 (len (magZ z1)) c1, .slice D1 (len d1) e1] 26)).alloc (.cells #[.bool (sgnZ z2), .slice A2 (len (magZ z2)) c2, .slice D2 (len d2) e2] 26)).alloc (.cells #[.bool false, .slice none 0 0, .slice none 0 0] 26)) := oldA
  have B_x : Bx (((w.alloc (.cells #[.bool (sgnZ z1), .slice A1 (len (magZ z1)) c1, .slice D1 (len d1) e1] 26)).alloc (.cells #[.bool (sgnZ z2), .slice A2 (len (magZ z2)) c2, .slice D2 (len d2) e2] 26)).alloc (.cells #[.bool false, .slice none 0 0, .slice none 0 0] 26)) (w.heap.size) #[.bool (sgnZ z1), .slice A1 (len (magZ z1)) c1, .slice D1 (len d1) e1] := by have h := (Bx.alloc (Bx.alloc (Bx.new w #[.bool (sgnZ z1), .slice A1 (len (magZ z1)) c1, .slice D1 (len d1) e1] 26) (.cells #[.bool (sgnZ z2), .slice A2 (len (magZ z2)) c2, .slice D2 (len d2) e2] 26)) (.cells #[.bool false, .slice none 0 0, .slice none 0 0] 26)); simpa using h
  have B_y : Bx (((w.alloc (.cells #[.bool (sgnZ z1), .slice A1 (len (magZ z1)) c1, .slice D1 (len d1) e1] 26)).alloc (.cells #[.bool (sgnZ z2), .slice A2 (len (magZ z2)) c2, .slice D2 (len d2) e2] 26)).alloc (.cells #[.bool false, .slice none 0 0, .slice none 0 0] 26)) (w.heap.size + 1) #[.bool (sgnZ z2), .slice A2 (len (magZ z2)) c2, .slice D2 (len d2) e2] := by have h := (Bx.alloc (Bx.new (w.alloc (.cells #[.bool (sgnZ z1), .slice A1 (len (magZ z1)) c1, .slice D1 (len d1) e1] 26)) #[.bool (sgnZ z2), .slice A2 (len (magZ z2)) c2, .slice D2 (len d2) e2] 26) (.cells #[.bool false, .slice none 0 0, .slice none 0 0] 26)); simpa using h
  have B_r : Bx (((w.alloc (.cells #[.bool (sgnZ z1), .slice A1 (len (magZ z1)) c1, .slice D1 (len d1) e1] 26)).alloc (.cells #[.bool (sgnZ z2), .slice A2 (len (magZ z2)) c2, .slice D2 (len d2) e2] 26)).alloc (.cells #[.bool false, .slice none 0 0, .slice none 0 0] 26)) (w.heap.size + 1 + 1) #[.bool false, .slice none 0 0, .slice none 0 0] := by have h := (Bx.new ((w.alloc (.cells #[.bool (sgnZ z1), .slice A1 (len (magZ z1)) c1, .slice D1 (len d1) e1] 26)).alloc (.cells #[.bool (sgnZ z2), .slice A2 (len (magZ z2)) c2, .slice D2 (len d2) e2] 26)) #[.bool false, .slice none 0 0, .slice none 0 0] 26); simpa using h
  have ne_0_1 : ¬ (w.heap.size = w.heap.size + 1) := by omega
  have ne_0_2 : ¬ (w.heap.size = w.heap.size + 1 + 1) := by omega
  have ne_1_0 : ¬ (w.heap.size + 1 = w.heap.size) := by omega
  have ne_1_2 : ¬ (w.heap.size + 1 = w.heap.size + 1 + 1) := by omega
  have ne_2_0 : ¬ (w.heap.size + 1 + 1 = w.heap.size) := by omega
  have ne_2_1 : ¬ (w.heap.size + 1 + 1 = w.heap.size + 1) := by omega
  have ze : w.heap.size + 3 ≤ (((w.alloc (.cells #[.bool (sgnZ z1), .slice A1 (len (magZ z1)) c1, .slice D1 (len d1) e1] 26)).alloc (.cells #[.bool (sgnZ z2), .slice A2 (len (magZ z2)) c2, .slice D2 (len d2) e2] 26)).alloc (.cells #[.bool false, .slice none 0 0, .slice none 0 0] 26)).heap.size := (by simp)
  go_enter Tryz.func48, Tryz.ntmps48
  go_wp2_with fail
  refine callsNamed ?_
  intro p1 hp
  have O' : Old w p1 := (by rw [hp]; exact Below.trans (b := (((w.alloc (.cells #[.bool (sgnZ z1), .slice A1 (len (magZ z1)) c1, .slice D1 (len d1) e1] 26)).alloc (.cells #[.bool (sgnZ z2), .slice A2 (len (magZ z2)) c2, .slice D2 (len d2) e2] 26)).alloc (.cells #[.bool false, .slice none 0 0, .slice none 0 0] 26))) O oldA)
  replace B_x : Bx p1 (w.heap.size) #[.bool (sgnZ z1), .slice A1 (len (magZ z1)) c1, .slice D1 (len d1) e1] := (bxK B_x hp)
  replace B_y : Bx p1 (w.heap.size + 1) #[.bool (sgnZ z2), .slice A2 (len (magZ z2)) c2, .slice D2 (len d2) e2] := (bxK B_y hp)
  replace B_r : Bx p1 (w.heap.size + 1 + 1) #[.bool false, .slice none 0 0, .slice none 0 0] := (bxK B_r hp)
  have zp1 : (((w.alloc (.cells #[.bool (sgnZ z1), .slice A1 (len (magZ z1)) c1, .slice D1 (len d1) e1] 26)).alloc (.cells #[.bool (sgnZ z2), .slice A2 (len (magZ z2)) c2, .slice D2 (len d2) e2] 26)).alloc (.cells #[.bool false, .slice none 0 0, .slice none 0 0] 26)).heap.size ≤ p1.heap.size := (by rw [hp]; exact leA)
  clear hp O
  have O := O'
  clear O'
  refine (isGood_yes (sgnZ z1) A1 D1 (len (magZ z1)) c1 d1 e1 _ P1.out).mono ?_
  rintro e w1 ⟨rfl, o1⟩
  replace B_x := Bx.old B_x o1
  replace B_y := Bx.old B_y o1
  replace B_r := Bx.old B_r o1
  replace O := Old.trans O o1
  have zw1 := o1.size
  obtain ⟨q_x_0, q_x_1, q_x_2, f_x_0, f_x_1, f_x_2, q_x⟩ := B_x.all3
  obtain ⟨q_y_0, q_y_1, q_y_2, f_y_0, f_y_1, f_y_2, q_y⟩ := B_y.all3
  obtain ⟨q_r_0, q_r_1, q_r_2, f_r_0, f_r_1, f_r_2, q_r⟩ := B_r.all3
  go_wp2_with fail
  refine callsNamed ?_
  intro p2 hp
  clear q_x_0 q_x_1 q_x_2 f_x_0 f_x_1 f_x_2 q_x q_y_0 q_y_1 q_y_2 f_y_0 f_y_1 f_y_2 q_y q_r_0 q_r_1 q_r_2 f_r_0 f_r_1 f_r_2 q_r
  have O' : Old w p2 := (by rw [hp]; exact Below.trans (b := w1) O oldA)
  replace B_x : Bx p2 (w.heap.size) #[.bool (sgnZ z1), .slice A1 (len (magZ z1)) c1, .slice D1 (len d1) e1] := (bxK B_x hp)
  replace B_y : Bx p2 (w.heap.size + 1) #[.bool (sgnZ z2), .slice A2 (len (magZ z2)) c2, .slice D2 (len d2) e2] := (bxK B_y hp)
  replace B_r : Bx p2 (w.heap.size + 1 + 1) #[.bool false, .slice none 0 0, .slice none 0 0] := (bxK B_r hp)
  have zp2 : w1.heap.size ≤ p2.heap.size := (by rw [hp]; exact leA)
  clear hp O
  have O := O'
  clear O'
  refine (isGood_no (sgnZ z2) A2 D2 (len (magZ z2)) c2 d2 e2 _ P2.out).mono ?_
  rintro e w2 ⟨rfl, o2⟩
  replace B_x := Bx.old B_x o2
  replace B_y := Bx.old B_y o2
  replace B_r := Bx.old B_r o2
  replace O := Old.trans O o2
  have zw2 := o2.size
  obtain ⟨q_x_0, q_x_1, q_x_2, f_x_0, f_x_1, f_x_2, q_x⟩ := B_x.all3
  obtain ⟨q_y_0, q_y_1, q_y_2, f_y_0, f_y_1, f_y_2, q_y⟩ := B_y.all3
  obtain ⟨q_r_0, q_r_1, q_r_2, f_r_0, f_r_1, f_r_2, q_r⟩ := B_r.all3
  go_wp2
  refine bodyPost_ret (v := .agg #[.bool false, .slice none 0 0, .slice none 0 0]) (by simp [results, Tryz.results48, go_sem, q_r_0, q_r_1, q_r_2]) rfl ⟨RetR.zero rfl, Below.trans (b := w2) O oldA⟩
theorem ratDiv_any (z1 : Int) (d1 : Nat) (A1 D1 : Option Addr) (c1 e1 l1 m1 : Nat) (z2 : Int) (d2 : Nat) (A2 D2 : Option Addr) (c2 e2 l2 m2 : Nat) (w : World) (h1 : NatS w l1 A1 c1 (magZ z1)) (k1 : NatS w m1 D1 e1 d1) (n1 : normF (z1, d1)) (h2 : NatS w l2 A2 c2 (magZ z2)) (k2 : NatS w m2 D2 e2 d2) (n2 : normF (z2, d2)) :
    Calls Tryz.prog 48 #[.agg #[.bool (sgnZ z1), .slice A1 (len (magZ z1)) c1, .slice D1 (len d1) e1], .agg #[.bool (sgnZ z2), .slice A2 (len (magZ z2)) c2, .slice D2 (len d2) e2]] w fun e w' => RetR e w' w.heap.size (divF (z1, d1) (z2, d2)) ∧ Old w w' := by
  by_cases p1 : 0 < d1
  · by_cases p2 : 0 < d2
    · exact ratDiv_yes z1 d1 A1 D1 c1 e1 l1 m1 z2 d2 A2 D2 c2 e2 l2 m2 w h1 k1 n1 h2 k2 n2 p1 p2
    · rw [divF_no2 (norm_den n2 (by show d2 = 0; omega))]; exact ratDiv_no2 z1 d1 A1 D1 c1 e1 l1 m1 z2 d2 A2 D2 c2 e2 l2 m2 w h1 k1 n1 h2 k2 n2 p1 p2
  · rw [divF_no1 (by show d1 = 0; omega)]; exact ratDiv_no1 z1 d1 A1 D1 c1 e1 l1 m1 z2 d2 A2 D2 c2 e2 l2 m2 w h1 k1 n1 h2 k2 n2 p1
end Go.Proofs.YtgchbbjhdeobpaaGreatDoor

namespace Go.Proofs.YtgchbbjhdeobpaaGreatDoor
set_option linter.unusedVariables false
open Go.RowKit Num
attribute [local go_sem ↓] Go.wp_at_zero Go.wp_at_succ
noncomputable def vRatDiv (b1 : Bool) (n1 : Nat) (f1 : Nat → Int) (m1 : Nat) (g1 : Nat → Int) (b2 : Bool) (n2 : Nat) (f2 : Nat → Int) (m2 : Nat) (g2 : Nat → Int) : Fr := divF (vR b1 n1 f1 m1 g1) (vR b2 n2 f2 m2 g2)
set_option maxRecDepth 100000 in
set_option maxHeartbeats 1000000 in
theorem impl_RatDiv_yes (z1 : Int) (d1 : Nat) (A1 D1 : Option Addr) (c1 e1 l1 m1 : Nat) (z2 : Int) (d2 : Nat) (A2 D2 : Option Addr) (c2 e2 l2 m2 : Nat) (w : World) (h1 : NatS w l1 A1 c1 (magZ z1)) (k1 : NatS w m1 D1 e1 d1) (n1 : normF (z1, d1)) (h2 : NatS w l2 A2 c2 (magZ z2)) (k2 : NatS w m2 D2 e2 d2) (n2 : normF (z2, d2)) (p1 : 0 < d1) (p2 : 0 < d2)  :
    Calls Tryz.prog 20 #[.agg #[.bool (sgnZ z1), .slice A1 (len (magZ z1)) c1, .slice D1 (len d1) e1], .agg #[.bool (sgnZ z2), .slice A2 (len (magZ z2)) c2, .slice D2 (len d2) e2]] w fun e w' => RetR e w' w.heap.size (divF (z1, d1) (z2, d2)) ∧ Old w w' := by
  have N1 := Lib.hid n1
  have LN1 := norm_len n1
  have La1 : len (magZ z1) ≤ 24 := LN1.1
  have Lb1 : len d1 ≤ 24 := LN1.2
  clear n1 LN1
  have N2 := Lib.hid n2
  have LN2 := norm_len n2
  have La2 : len (magZ z2) ≤ 24 := LN2.1
  have Lb2 : len d2 ≤ 24 := LN2.2
  clear n2 LN2
  skip
  have P1 := Lib.hid p1
  have P2 := Lib.hid p2
  clear p1 p2
  have O : Old w (((w.alloc (.cells #[.bool (sgnZ z1), .slice A1 (len (magZ z1)) c1, .slice D1 (len d1) e1] 26)).alloc (.cells #[.bool (sgnZ z2), .slice A2 (len (magZ z2)) c2, .slice D2 (len d2) e2] 26)).alloc (.cells #[.bool false, .slice none 0 0, .slice none 0 0] 26)) := oldA
  have B_x : Bx (((w.alloc (.cells #[.bool (sgnZ z1), .slice A1 (len (magZ z1)) c1, .slice D1 (len d1) e1] 26)).alloc (.cells #[.bool (sgnZ z2), .slice A2 (len (magZ z2)) c2, .slice D2 (len d2) e2] 26)).alloc (.cells #[.bool false, .slice none 0 0, .slice none 0 0] 26)) (w.heap.size) #[.bool (sgnZ z1), .slice A1 (len (magZ z1)) c1, .slice D1 (len d1) e1] := by have h := (Bx.alloc (Bx.alloc (Bx.new w #[.bool (sgnZ z1), .slice A1 (len (magZ z1)) c1, .slice D1 (len d1) e1] 26) (.cells #[.bool (sgnZ z2), .slice A2 (len (magZ z2)) c2, .slice D2 (len d2) e2] 26)) (.cells #[.bool false, .slice none 0 0, .slice none 0 0] 26)); simpa using h
  have B_y : Bx (((w.alloc (.cells #[.bool (sgnZ z1), .slice A1 (len (magZ z1)) c1, .slice D1 (len d1) e1] 26)).alloc (.cells #[.bool (sgnZ z2), .slice A2 (len (magZ z2)) c2, .slice D2 (len d2) e2] 26)).alloc (.cells #[.bool false, .slice none 0 0, .slice none 0 0] 26)) (w.heap.size + 1) #[.bool (sgnZ z2), .slice A2 (len (magZ z2)) c2, .slice D2 (len d2) e2] := by have h := (Bx.alloc (Bx.new (w.alloc (.cells #[.bool (sgnZ z1), .slice A1 (len (magZ z1)) c1, .slice D1 (len d1) e1] 26)) #[.bool (sgnZ z2), .slice A2 (len (magZ z2)) c2, .slice D2 (len d2) e2] 26) (.cells #[.bool false, .slice none 0 0, .slice none 0 0] 26)); simpa using h
  have B_r : Bx (((w.alloc (.cells #[.bool (sgnZ z1), .slice A1 (len (magZ z1)) c1, .slice D1 (len d1) e1] 26)).alloc (.cells #[.bool (sgnZ z2), .slice A2 (len (magZ z2)) c2, .slice D2 (len d2) e2] 26)).alloc (.cells #[.bool false, .slice none 0 0, .slice none 0 0] 26)) (w.heap.size + 1 + 1) #[.bool false, .slice none 0 0, .slice none 0 0] := by have h := (Bx.new ((w.alloc (.cells #[.bool (sgnZ z1), .slice A1 (len (magZ z1)) c1, .slice D1 (len d1) e1] 26)).alloc (.cells #[.bool (sgnZ z2), .slice A2 (len (magZ z2)) c2, .slice D2 (len d2) e2] 26)) #[.bool false, .slice none 0 0, .slice none 0 0] 26); simpa using h
  have ne_0_1 : ¬ (w.heap.size = w.heap.size + 1) := by omega
  have ne_0_2 : ¬ (w.heap.size = w.heap.size + 1 + 1) := by omega
  have ne_1_0 : ¬ (w.heap.size + 1 = w.heap.size) := by omega
  have ne_1_2 : ¬ (w.heap.size + 1 = w.heap.size + 1 + 1) := by omega
  have ne_2_0 : ¬ (w.heap.size + 1 + 1 = w.heap.size) := by omega
  have ne_2_1 : ¬ (w.heap.size + 1 + 1 = w.heap.size + 1) := by omega
  have ze : w.heap.size + 3 ≤ (((w.alloc (.cells #[.bool (sgnZ z1), .slice A1 (len (magZ z1)) c1, .slice D1 (len d1) e1] 26)).alloc (.cells #[.bool (sgnZ z2), .slice A2 (len (magZ z2)) c2, .slice D2 (len d2) e2] 26)).alloc (.cells #[.bool false, .slice none 0 0, .slice none 0 0] 26)).heap.size := (by simp)
  go_enter Tryz.func20, Tryz.ntmps20
  go_wp2_with fail
  refine callsNamed ?_
  intro p1 hp
  have O' : Old w p1 := (by rw [hp]; exact Below.trans (b := (((w.alloc (.cells #[.bool (sgnZ z1), .slice A1 (len (magZ z1)) c1, .slice D1 (len d1) e1] 26)).alloc (.cells #[.bool (sgnZ z2), .slice A2 (len (magZ z2)) c2, .slice D2 (len d2) e2] 26)).alloc (.cells #[.bool false, .slice none 0 0, .slice none 0 0] 26))) O oldA)
  replace B_x : Bx p1 (w.heap.size) #[.bool (sgnZ z1), .slice A1 (len (magZ z1)) c1, .slice D1 (len d1) e1] := (bxK B_x hp)
  replace B_y : Bx p1 (w.heap.size + 1) #[.bool (sgnZ z2), .slice A2 (len (magZ z2)) c2, .slice D2 (len d2) e2] := (bxK B_y hp)
  replace B_r : Bx p1 (w.heap.size + 1 + 1) #[.bool false, .slice none 0 0, .slice none 0 0] := (bxK B_r hp)
  have zp1 : (((w.alloc (.cells #[.bool (sgnZ z1), .slice A1 (len (magZ z1)) c1, .slice D1 (len d1) e1] 26)).alloc (.cells #[.bool (sgnZ z2), .slice A2 (len (magZ z2)) c2, .slice D2 (len d2) e2] 26)).alloc (.cells #[.bool false, .slice none 0 0, .slice none 0 0] 26)).heap.size ≤ p1.heap.size := (by rw [hp]; exact leA)
  clear hp O
  have O := O'
  clear O'
  refine (areRats_yes z1 d1 A1 D1 c1 e1 l1 m1 z2 d2 A2 D2 c2 e2 l2 m2 _ (Row.below (B := w.heap.size) h1 O (Nat.le_refl _)) (Row.below (B := w.heap.size) k1 O (Nat.le_refl _)) N1.out (Row.below (B := w.heap.size) h2 O (Nat.le_refl _)) (Row.below (B := w.heap.size) k2 O (Nat.le_refl _)) N2.out P1.out P2.out).mono ?_
  rintro e w1 ⟨rfl, o1⟩
  replace B_x := Bx.old B_x o1
  replace B_y := Bx.old B_y o1
  replace B_r := Bx.old B_r o1
  replace O := Old.trans O o1
  have zw1 := o1.size
  obtain ⟨q_x_0, q_x_1, q_x_2, f_x_0, f_x_1, f_x_2, q_x⟩ := B_x.all3
  obtain ⟨q_y_0, q_y_1, q_y_2, f_y_0, f_y_1, f_y_2, q_y⟩ := B_y.all3
  obtain ⟨q_r_0, q_r_1, q_r_2, f_r_0, f_r_1, f_r_2, q_r⟩ := B_r.all3
  go_wp2_with fail
  refine callsNamed ?_
  intro p2 hp
  clear q_x_0 q_x_1 q_x_2 f_x_0 f_x_1 f_x_2 q_x q_y_0 q_y_1 q_y_2 f_y_0 f_y_1 f_y_2 q_y q_r_0 q_r_1 q_r_2 f_r_0 f_r_1 f_r_2 q_r
  have O' : Old w p2 := (by rw [hp]; exact Below.trans (b := w1) O oldA)
  replace B_x : Bx p2 (w.heap.size) #[.bool (sgnZ z1), .slice A1 (len (magZ z1)) c1, .slice D1 (len d1) e1] := (bxK B_x hp)
  replace B_y : Bx p2 (w.heap.size + 1) #[.bool (sgnZ z2), .slice A2 (len (magZ z2)) c2, .slice D2 (len d2) e2] := (bxK B_y hp)
  replace B_r : Bx p2 (w.heap.size + 1 + 1) #[.bool false, .slice none 0 0, .slice none 0 0] := (bxK B_r hp)
  have zp2 : w1.heap.size ≤ p2.heap.size := (by rw [hp]; exact leA)
  clear hp O
  have O := O'
  clear O'
  refine (ratDiv_any z1 d1 A1 D1 c1 e1 l1 m1 z2 d2 A2 D2 c2 e2 l2 m2 _ (Row.below (B := w.heap.size) h1 O (Nat.le_refl _)) (Row.below (B := w.heap.size) k1 O (Nat.le_refl _)) N1.out (Row.below (B := w.heap.size) h2 O (Nat.le_refl _)) (Row.below (B := w.heap.size) k2 O (Nat.le_refl _)) N2.out).mono ?_
  rintro e w2 ⟨⟨z9, d9, A9, c9, D9, e9, hv, rfl, r9, s9, ap⟩, o2⟩
  replace B_x := Bx.old B_x o2
  replace B_y := Bx.old B_y o2
  replace B_r := Bx.old B_r o2
  replace O := Old.trans O o2
  have zw2 := o2.size
  replace r9 := Row.more (lo' := p2.heap.size) r9 leA
  replace s9 := Row.more (lo' := p2.heap.size) s9 leA
  have lim_r9 := Row.lim r9
  have lim_s9 := Row.lim s9
  have HV := Lib.hid hv
  have AP := Lib.hid ap
  clear hv ap
  obtain ⟨q_x_0, q_x_1, q_x_2, f_x_0, f_x_1, f_x_2, q_x⟩ := B_x.all3
  obtain ⟨q_y_0, q_y_1, q_y_2, f_y_0, f_y_1, f_y_2, q_y⟩ := B_y.all3
  obtain ⟨q_r_0, q_r_1, q_r_2, f_r_0, f_r_1, f_r_2, q_r⟩ := B_r.all3
  go_wp2
  refine bodyPost_ret (v := .agg #[.bool (sgnZ z9), .slice A9 (len (magZ z9)) c9, .slice D9 (len d9) e9]) (by simp [results, Tryz.results20, go_sem, q_r_0, q_r_1, q_r_2]) rfl ⟨⟨z9, d9, A9, c9, D9, e9, HV.out, rfl, ?_, ?_, AP.out⟩, ?_⟩
  · refine Row.more (lo := p2.heap.size) ?_ leA
    repeat' (first | exact r9 | refine Row.far_set ?_ (by first | (simp <;> done) | (simp; omega) | omega) _)
  · refine Row.more (lo := p2.heap.size) ?_ leA
    repeat' (first | exact s9 | refine Row.far_set ?_ (by first | (simp <;> done) | (simp; omega) | omega) _)
  · exact Below.trans (b := w2) O oldA
set_option maxRecDepth 100000 in
set_option maxHeartbeats 1000000 in
theorem impl_RatDiv_no1 (b1 : Bool) (A1 : Option Addr) (n1 c1 l1 : Nat) (f1 : Nat → Int) (D1 : Option Addr) (m1 e1 u1 : Nat) (g1 : Nat → Int) (b2 : Bool) (A2 : Option Addr) (n2 c2 l2 : Nat) (f2 : Nat → Int) (D2 : Option Addr) (m2 e2 u2 : Nat) (g2 : Nat → Int) (w : World) (h1 : Row w l1 A1 n1 c1 f1) (k1 : Row w u1 D1 m1 e1 g1) (hn1 : n1 ≤ 1048576) (hm1 : m1 ≤ 1048576) (q1 : ¬ okR b1 n1 f1 m1 g1) :
    Calls Tryz.prog 20 #[.agg #[.bool b1, .slice A1 n1 c1, .slice D1 m1 e1], .agg #[.bool b2, .slice A2 n2 c2, .slice D2 m2 e2]] w fun e w' => RetR e w' w.heap.size ((0, 0)) ∧ Old w w' := by
  have Q1 := Lib.hid q1
  clear q1
  have O : Old w (((w.alloc (.cells #[.bool b1, .slice A1 n1 c1, .slice D1 m1 e1] 26)).alloc (.cells #[.bool b2, .slice A2 n2 c2, .slice D2 m2 e2] 26)).alloc (.cells #[.bool false, .slice none 0 0, .slice none 0 0] 26)) := oldA
  have B_x : Bx (((w.alloc (.cells #[.bool b1, .slice A1 n1 c1, .slice D1 m1 e1] 26)).alloc (.cells #[.bool b2, .slice A2 n2 c2, .slice D2 m2 e2] 26)).alloc (.cells #[.bool false, .slice none 0 0, .slice none 0 0] 26)) (w.heap.size) #[.bool b1, .slice A1 n1 c1, .slice D1 m1 e1] := by have h := (Bx.alloc (Bx.alloc (Bx.new w #[.bool b1, .slice A1 n1 c1, .slice D1 m1 e1] 26) (.cells #[.bool b2, .slice A2 n2 c2, .slice D2 m2 e2] 26)) (.cells #[.bool false, .slice none 0 0, .slice none 0 0] 26)); simpa using h
  have B_y : Bx (((w.alloc (.cells #[.bool b1, .slice A1 n1 c1, .slice D1 m1 e1] 26)).alloc (.cells #[.bool b2, .slice A2 n2 c2, .slice D2 m2 e2] 26)).alloc (.cells #[.bool false, .slice none 0 0, .slice none 0 0] 26)) (w.heap.size + 1) #[.bool b2, .slice A2 n2 c2, .slice D2 m2 e2] := by have h := (Bx.alloc (Bx.new (w.alloc (.cells #[.bool b1, .slice A1 n1 c1, .slice D1 m1 e1] 26)) #[.bool b2, .slice A2 n2 c2, .slice D2 m2 e2] 26) (.cells #[.bool false, .slice none 0 0, .slice none 0 0] 26)); simpa using h
  have B_r : Bx (((w.alloc (.cells #[.bool b1, .slice A1 n1 c1, .slice D1 m1 e1] 26)).alloc (.cells #[.bool b2, .slice A2 n2 c2, .slice D2 m2 e2] 26)).alloc (.cells #[.bool false, .slice none 0 0, .slice none 0 0] 26)) (w.heap.size + 1 + 1) #[.bool false, .slice none 0 0, .slice none 0 0] := by have h := (Bx.new ((w.alloc (.cells #[.bool b1, .slice A1 n1 c1, .slice D1 m1 e1] 26)).alloc (.cells #[.bool b2, .slice A2 n2 c2, .slice D2 m2 e2] 26)) #[.bool false, .slice none 0 0, .slice none 0 0] 26); simpa using h
  have ne_0_1 : ¬ (w.heap.size = w.heap.size + 1) := by omega
  have ne_0_2 : ¬ (w.heap.size = w.heap.size + 1 + 1) := by omega
  have ne_1_0 : ¬ (w.heap.size + 1 = w.heap.size) := by omega
  have ne_1_2 : ¬ (w.heap.size + 1 = w.heap.size + 1 + 1) := by omega
  have ne_2_0 : ¬ (w.heap.size + 1 + 1 = w.heap.size) := by omega
  have ne_2_1 : ¬ (w.heap.size + 1 + 1 = w.heap.size + 1) := by omega
  have ze : w.heap.size + 3 ≤ (((w.alloc (.cells #[.bool b1, .slice A1 n1 c1, .slice D1 m1 e1] 26)).alloc (.cells #[.bool b2, .slice A2 n2 c2, .slice D2 m2 e2] 26)).alloc (.cells #[.bool false, .slice none 0 0, .slice none 0 0] 26)).heap.size := (by simp)
  go_enter Tryz.func20, Tryz.ntmps20
  go_wp2_with fail
  refine callsNamed ?_
  intro p1 hp
  have O' : Old w p1 := (by rw [hp]; exact Below.trans (b := (((w.alloc (.cells #[.bool b1, .slice A1 n1 c1, .slice D1 m1 e1] 26)).alloc (.cells #[.bool b2, .slice A2 n2 c2, .slice D2 m2 e2] 26)).alloc (.cells #[.bool false, .slice none 0 0, .slice none 0 0] 26))) O oldA)
  replace B_x : Bx p1 (w.heap.size) #[.bool b1, .slice A1 n1 c1, .slice D1 m1 e1] := (bxK B_x hp)
  replace B_y : Bx p1 (w.heap.size + 1) #[.bool b2, .slice A2 n2 c2, .slice D2 m2 e2] := (bxK B_y hp)
  replace B_r : Bx p1 (w.heap.size + 1 + 1) #[.bool false, .slice none 0 0, .slice none 0 0] := (bxK B_r hp)
  have zp1 : (((w.alloc (.cells #[.bool b1, .slice A1 n1 c1, .slice D1 m1 e1] 26)).alloc (.cells #[.bool b2, .slice A2 n2 c2, .slice D2 m2 e2] 26)).alloc (.cells #[.bool false, .slice none 0 0, .slice none 0 0] 26)).heap.size ≤ p1.heap.size := (by rw [hp]; exact leA)
  clear hp O
  have O := O'
  clear O'
  refine (areRats_no1 b1 A1 n1 c1 l1 f1 D1 m1 e1 u1 g1 b2 A2 n2 c2 l2 f2 D2 m2 e2 u2 g2 _ (Row.below (B := w.heap.size) h1 O (Nat.le_refl _)) (Row.below (B := w.heap.size) k1 O (Nat.le_refl _)) hn1 hm1 Q1.out).mono ?_
  rintro e w1 ⟨rfl, o1⟩
  replace B_x := Bx.old B_x o1
  replace B_y := Bx.old B_y o1
  replace B_r := Bx.old B_r o1
  replace O := Old.trans O o1
  have zw1 := o1.size
  obtain ⟨q_x_0, q_x_1, q_x_2, f_x_0, f_x_1, f_x_2, q_x⟩ := B_x.all3
  obtain ⟨q_y_0, q_y_1, q_y_2, f_y_0, f_y_1, f_y_2, q_y⟩ := B_y.all3
  obtain ⟨q_r_0, q_r_1, q_r_2, f_r_0, f_r_1, f_r_2, q_r⟩ := B_r.all3
  go_wp2
  refine bodyPost_ret (v := .agg #[.bool false, .slice none 0 0, .slice none 0 0]) (by simp [results, Tryz.results20, go_sem, q_r_0, q_r_1, q_r_2]) rfl ⟨RetR.zero rfl, Below.trans (b := w1) O oldA⟩
set_option maxRecDepth 100000 in
set_option maxHeartbeats 1000000 in
theorem impl_RatDiv_no2 (z1 : Int) (d1 : Nat) (A1 D1 : Option Addr) (c1 e1 l1 m1 : Nat) (b2 : Bool) (A2 : Option Addr) (n2 c2 l2 : Nat) (f2 : Nat → Int) (D2 : Option Addr) (m2 e2 u2 : Nat) (g2 : Nat → Int) (w : World) (h1 : NatS w l1 A1 c1 (magZ z1)) (k1 : NatS w m1 D1 e1 d1) (n1 : normF (z1, d1)) (p1 : 0 < d1) (h2 : Row w l2 A2 n2 c2 f2) (k2 : Row w u2 D2 m2 e2 g2) (hn2 : n2 ≤ 1048576) (hm2 : m2 ≤ 1048576) (q2 : ¬ okR b2 n2 f2 m2 g2) :
    Calls Tryz.prog 20 #[.agg #[.bool (sgnZ z1), .slice A1 (len (magZ z1)) c1, .slice D1 (len d1) e1], .agg #[.bool b2, .slice A2 n2 c2, .slice D2 m2 e2]] w fun e w' => RetR e w' w.heap.size ((0, 0)) ∧ Old w w' := by
  have N1 := Lib.hid n1
  have LN1 := norm_len n1
  have La1 : len (magZ z1) ≤ 24 := LN1.1
  have Lb1 : len d1 ≤ 24 := LN1.2
  clear n1 LN1
  have Q2 := Lib.hid q2
  have P1 := Lib.hid p1
  clear q2 p1
  have O : Old w (((w.alloc (.cells #[.bool (sgnZ z1), .slice A1 (len (magZ z1)) c1, .slice D1 (len d1) e1] 26)).alloc (.cells #[.bool b2, .slice A2 n2 c2, .slice D2 m2 e2] 26)).alloc (.cells #[.bool false, .slice none 0 0, .slice none 0 0] 26)) := oldA
  have B_x : Bx (((w.alloc (.cells #[.bool (sgnZ z1), .slice A1 (len (magZ z1)) c1, .slice D1 (len d1) e1] 26)).alloc (.cells #[.bool b2, .slice A2 n2 c2, .slice D2 m2 e2] 26)).alloc (.cells #[.bool false, .slice none 0 0, .slice none 0 0] 26)) (w.heap.size) #[.bool (sgnZ z1), .slice A1 (len (magZ z1)) c1, .slice D1 (len d1) e1] := by have h := (Bx.alloc (Bx.alloc (Bx.new w #[.bool (sgnZ z1), .slice A1 (len (magZ z1)) c1, .slice D1 (len d1) e1] 26) (.cells #[.bool b2, .slice A2 n2 c2, .slice D2 m2 e2] 26)) (.cells #[.bool false, .slice none 0 0, .slice none 0 0] 26)); simpa using h
  have B_y : Bx (((w.alloc (.cells #[.bool (sgnZ z1), .slice A1 (len (magZ z1)) c1, .slice D1 (len d1) e1] 26)).alloc (.cells #[.bool b2, .slice A2 n2 c2, .slice D2 m2 e2] 26)).alloc (.cells #[.bool false, .slice none 0 0, .slice none 0 0] 26)) (w.heap.size + 1) #[.bool b2, .slice A2 n2 c2, .slice D2 m2 e2] := by have h := (Bx.alloc (Bx.new (w.alloc (.cells #[.bool (sgnZ z1), .slice A1 (len (magZ z1)) c1, .slice D1 (len d1) e1] 26)) #[.bool b2, .slice A2 n2 c2, .slice D2 m2 e2] 26) (.cells #[.bool false, .slice none 0 0, .slice none 0 0] 26)); simpa using h
  have B_r : Bx (((w.alloc (.cells #[.bool (sgnZ z1), .slice A1 (len (magZ z1)) c1, .slice D1 (len d1) e1] 26)).alloc (.cells #[.bool b2, .slice A2 n2 c2, .slice D2 m2 e2] 26)).alloc (.cells #[.bool false, .slice none 0 0, .slice none 0 0] 26)) (w.heap.size + 1 + 1) #[.bool false, .slice none 0 0, .slice none 0 0] := by have h := (Bx.new ((w.alloc (.cells #[.bool (sgnZ z1), .slice A1 (len (magZ z1)) c1, .slice D1 (len d1) e1] 26)).alloc (.cells #[.bool b2, .slice A2 n2 c2, .slice D2 m2 e2] 26)) #[.bool false, .slice none 0 0, .slice none 0 0] 26); simpa using h
  have ne_0_1 : ¬ (w.heap.size = w.heap.size + 1) := by omega
  have ne_0_2 : ¬ (w.heap.size = w.heap.size + 1 + 1) := by omega
  have ne_1_0 : ¬ (w.heap.size + 1 = w.heap.size) := by omega
  have ne_1_2 : ¬ (w.heap.size + 1 = w.heap.size + 1 + 1) := by omega
  have ne_2_0 : ¬ (w.heap.size + 1 + 1 = w.heap.size) := by omega
  have ne_2_1 : ¬ (w.heap.size + 1 + 1 = w.heap.size + 1) := by omega
  have ze : w.heap.size + 3 ≤ (((w.alloc (.cells #[.bool (sgnZ z1), .slice A1 (len (magZ z1)) c1, .slice D1 (len d1) e1] 26)).alloc (.cells #[.bool b2, .slice A2 n2 c2, .slice D2 m2 e2] 26)).alloc (.cells #[.bool false, .slice none 0 0, .slice none 0 0] 26)).heap.size := (by simp)
  go_enter Tryz.func20, Tryz.ntmps20
  go_wp2_with fail
  refine callsNamed ?_
  intro p1 hp
  have O' : Old w p1 := (by rw [hp]; exact Below.trans (b := (((w.alloc (.cells #[.bool (sgnZ z1), .slice A1 (len (magZ z1)) c1, .slice D1 (len d1) e1] 26)).alloc (.cells #[.bool b2, .slice A2 n2 c2, .slice D2 m2 e2] 26)).alloc (.cells #[.bool false, .slice none 0 0, .slice none 0 0] 26))) O oldA)
  replace B_x : Bx p1 (w.heap.size) #[.bool (sgnZ z1), .slice A1 (len (magZ z1)) c1, .slice D1 (len d1) e1] := (bxK B_x hp)
  replace B_y : Bx p1 (w.heap.size + 1) #[.bool b2, .slice A2 n2 c2, .slice D2 m2 e2] := (bxK B_y hp)
  replace B_r : Bx p1 (w.heap.size + 1 + 1) #[.bool false, .slice none 0 0, .slice none 0 0] := (bxK B_r hp)
  have zp1 : (((w.alloc (.cells #[.bool (sgnZ z1), .slice A1 (len (magZ z1)) c1, .slice D1 (len d1) e1] 26)).alloc (.cells #[.bool b2, .slice A2 n2 c2, .slice D2 m2 e2] 26)).alloc (.cells #[.bool false, .slice none 0 0, .slice none 0 0] 26)).heap.size ≤ p1.heap.size := (by rw [hp]; exact leA)
  clear hp O
  have O := O'
  clear O'
  refine (areRats_no2 z1 d1 A1 D1 c1 e1 l1 m1 b2 A2 n2 c2 l2 f2 D2 m2 e2 u2 g2 _ (Row.below (B := w.heap.size) h1 O (Nat.le_refl _)) (Row.below (B := w.heap.size) k1 O (Nat.le_refl _)) N1.out P1.out (Row.below (B := w.heap.size) h2 O (Nat.le_refl _)) (Row.below (B := w.heap.size) k2 O (Nat.le_refl _)) hn2 hm2 Q2.out).mono ?_
  rintro e w1 ⟨rfl, o1⟩
  replace B_x := Bx.old B_x o1
  replace B_y := Bx.old B_y o1
  replace B_r := Bx.old B_r o1
  replace O := Old.trans O o1
  have zw1 := o1.size
  obtain ⟨q_x_0, q_x_1, q_x_2, f_x_0, f_x_1, f_x_2, q_x⟩ := B_x.all3
  obtain ⟨q_y_0, q_y_1, q_y_2, f_y_0, f_y_1, f_y_2, q_y⟩ := B_y.all3
  obtain ⟨q_r_0, q_r_1, q_r_2, f_r_0, f_r_1, f_r_2, q_r⟩ := B_r.all3
  go_wp2
  refine bodyPost_ret (v := .agg #[.bool false, .slice none 0 0, .slice none 0 0]) (by simp [results, Tryz.results20, go_sem, q_r_0, q_r_1, q_r_2]) rfl ⟨RetR.zero rfl, Below.trans (b := w1) O oldA⟩
theorem impl_RatDiv (b1 : Bool) (A1 : Option Addr) (n1 c1 l1 : Nat) (f1 : Nat → Int) (D1 : Option Addr) (m1 e1 u1 : Nat) (g1 : Nat → Int) (b2 : Bool) (A2 : Option Addr) (n2 c2 l2 : Nat) (f2 : Nat → Int) (D2 : Option Addr) (m2 e2 u2 : Nat) (g2 : Nat → Int) (w : World) (h1 : Row w l1 A1 n1 c1 f1) (k1 : Row w u1 D1 m1 e1 g1) (h2 : Row w l2 A2 n2 c2 f2) (k2 : Row w u2 D2 m2 e2 g2) (hn1 : n1 ≤ 1048576) (hm1 : m1 ≤ 1048576) (hn2 : n2 ≤ 1048576) (hm2 : m2 ≤ 1048576) :
    Calls Tryz.prog 20 #[.agg #[.bool b1, .slice A1 n1 c1, .slice D1 m1 e1], .agg #[.bool b2, .slice A2 n2 c2, .slice D2 m2 e2]] w fun e w' => RetR e w' w.heap.size (vRatDiv b1 n1 f1 m1 g1 b2 n2 f2 m2 g2) ∧ Old w w' := by
  unfold vRatDiv
  by_cases q1 : okR b1 n1 f1 m1 g1
  · obtain ⟨z1, d1, e1', e2', e3', p1, nn1, v1, s1, s1'⟩ := okR_z q1 h1 k1
    by_cases q2 : okR b2 n2 f2 m2 g2
    · obtain ⟨z2, d2, e4', e5', e6', p2, nn2, v2, s2, s2'⟩ := okR_z q2 h2 k2
      rw [v1, v2, e1', e2', e3', e4', e5', e6']
      exact impl_RatDiv_yes z1 d1 A1 D1 c1 e1 l1 u1 z2 d2 A2 D2 c2 e2 l2 u2 w s1 s1' nn1 s2 s2' nn2 p1 p2
    · rw [vR_no q2, divF_no2 rfl, e1', e2', e3']
      exact impl_RatDiv_no2 z1 d1 A1 D1 c1 e1 l1 u1 b2 A2 n2 c2 l2 f2 D2 m2 e2 u2 g2 w s1 s1' nn1 p1 h2 k2 hn2 hm2 q2
  · rw [vR_no q1, divF_no1 rfl]
    exact impl_RatDiv_no1 b1 A1 n1 c1 l1 f1 D1 m1 e1 u1 g1 b2 A2 n2 c2 l2 f2 D2 m2 e2 u2 g2 w h1 k1 hn1 hm1 q1
theorem impl_RatDiv_v (z1 : Int) (d1 : Nat) (A1 D1 : Option Addr) (c1 e1 l1 m1 : Nat) (z2 : Int) (d2 : Nat) (A2 D2 : Option Addr) (c2 e2 l2 m2 : Nat) (w : World) (h1 : NatS w l1 A1 c1 (magZ z1)) (k1 : NatS w m1 D1 e1 d1) (n1 : normF (z1, d1)) (h2 : NatS w l2 A2 c2 (magZ z2)) (k2 : NatS w m2 D2 e2 d2) (n2 : normF (z2, d2)) :
    Calls Tryz.prog 20 #[.agg #[.bool (sgnZ z1), .slice A1 (len (magZ z1)) c1, .slice D1 (len d1) e1], .agg #[.bool (sgnZ z2), .slice A2 (len (magZ z2)) c2, .slice D2 (len d2) e2]] w fun e w' => RetR e w' w.heap.size (divF (z1, d1) (z2, d2)) ∧ Old w w' := by
  have hl1 := norm_len n1
  have hl2 := norm_len n2
  simp only at hl1 hl2
  have h := impl_RatDiv (sgnZ z1) A1 _ c1 l1 _ D1 _ e1 m1 _ (sgnZ z2) A2 _ c2 l2 _ D2 _ e2 m2 _ w h1 k1 h2 k2 (by omega) (by omega) (by omega) (by omega)
  unfold vRatDiv at h
  rw [vR_val n1, vR_val n2] at h
  exact h
end Go.Proofs.YtgchbbjhdeobpaaGreatDoor

namespace Go.Proofs.YtgchbbjhdeobpaaGreatDoor
set_option linter.unusedVariables false
open Go.RowKit Num
attribute [local go_sem ↓] Go.wp_at_zero Go.wp_at_succ
end Go.Proofs.YtgchbbjhdeobpaaGreatDoor

namespace Go.Proofs.YtgchbbjhdeobpaaGreatDoor
set_option linter.unusedVariables false
open Go.RowKit Num
attribute [local go_sem ↓] Go.wp_at_zero Go.wp_at_succ
noncomputable def rRatCmp (b1 : Bool) (n1 : Nat) (f1 : Nat → Int) (m1 : Nat) (g1 : Nat → Int) (b2 : Bool) (n2 : Nat) (f2 : Nat → Int) (m2 : Nat) (g2 : Nat → Int) : Int := cmpF (vR b1 n1 f1 m1 g1) (vR b2 n2 f2 m2 g2)
set_option maxRecDepth 100000 in
set_option maxHeartbeats 1000000 in
theorem impl_RatCmp_yes (z1 : Int) (d1 : Nat) (A1 D1 : Option Addr) (c1 e1 l1 m1 : Nat) (z2 : Int) (d2 : Nat) (A2 D2 : Option Addr) (c2 e2 l2 m2 : Nat) (w : World) (h1 : NatS w l1 A1 c1 (magZ z1)) (k1 : NatS w m1 D1 e1 d1) (n1 : normF (z1, d1)) (h2 : NatS w l2 A2 c2 (magZ z2)) (k2 : NatS w m2 D2 e2 d2) (n2 : normF (z2, d2)) (p1 : 0 < d1) (p2 : 0 < d2)  :
    Calls Tryz.prog 15 #[.agg #[.bool (sgnZ z1), .slice A1 (len (magZ z1)) c1, .slice D1 (len d1) e1], .agg #[.bool (sgnZ z2), .slice A2 (len (magZ z2)) c2, .slice D2 (len d2) e2]] w fun e w' => e = .returned (.int .i64 (cmpF (z1, d1) (z2, d2))) ∧ Old w w' := by
  have N1 := Lib.hid n1
  have LN1 := norm_len n1
  have La1 : len (magZ z1) ≤ 24 := LN1.1
  have Lb1 : len d1 ≤ 24 := LN1.2
  clear n1 LN1
  have N2 := Lib.hid n2
  have LN2 := norm_len n2
  have La2 : len (magZ z2) ≤ 24 := LN2.1
  have Lb2 : len d2 ≤ 24 := LN2.2
  clear n2 LN2
  skip
  have P1 := Lib.hid p1
  have P2 := Lib.hid p2
  clear p1 p2
  have O : Old w ((w.alloc (.cells #[.bool (sgnZ z1), .slice A1 (len (magZ z1)) c1, .slice D1 (len d1) e1] 26)).alloc (.cells #[.bool (sgnZ z2), .slice A2 (len (magZ z2)) c2, .slice D2 (len d2) e2] 26)) := oldA
  have B_x : Bx ((w.alloc (.cells #[.bool (sgnZ z1), .slice A1 (len (magZ z1)) c1, .slice D1 (len d1) e1] 26)).alloc (.cells #[.bool (sgnZ z2), .slice A2 (len (magZ z2)) c2, .slice D2 (len d2) e2] 26)) (w.heap.size) #[.bool (sgnZ z1), .slice A1 (len (magZ z1)) c1, .slice D1 (len d1) e1] := by have h := (Bx.alloc (Bx.new w #[.bool (sgnZ z1), .slice A1 (len (magZ z1)) c1, .slice D1 (len d1) e1] 26) (.cells #[.bool (sgnZ z2), .slice A2 (len (magZ z2)) c2, .slice D2 (len d2) e2] 26)); simpa using h
  have B_y : Bx ((w.alloc (.cells #[.bool (sgnZ z1), .slice A1 (len (magZ z1)) c1, .slice D1 (len d1) e1] 26)).alloc (.cells #[.bool (sgnZ z2), .slice A2 (len (magZ z2)) c2, .slice D2 (len d2) e2] 26)) (w.heap.size + 1) #[.bool (sgnZ z2), .slice A2 (len (magZ z2)) c2, .slice D2 (len d2) e2] := by have h := (Bx.new (w.alloc (.cells #[.bool (sgnZ z1), .slice A1 (len (magZ z1)) c1, .slice D1 (len d1) e1] 26)) #[.bool (sgnZ z2), .slice A2 (len (magZ z2)) c2, .slice D2 (len d2) e2] 26); simpa using h
  have ne_0_1 : ¬ (w.heap.size = w.heap.size + 1) := by omega
  have ne_1_0 : ¬ (w.heap.size + 1 = w.heap.size) := by omega
  have ze : w.heap.size + 2 ≤ ((w.alloc (.cells #[.bool (sgnZ z1), .slice A1 (len (magZ z1)) c1, .slice D1 (len d1) e1] 26)).alloc (.cells #[.bool (sgnZ z2), .slice A2 (len (magZ z2)) c2, .slice D2 (len d2) e2] 26)).heap.size := (by simp)
  go_enter Tryz.func15, Tryz.ntmps15
  go_wp2_with fail
  refine callsNamed ?_
  intro p1 hp
  have O' : Old w p1 := (by rw [hp]; exact Below.trans (b := ((w.alloc (.cells #[.bool (sgnZ z1), .slice A1 (len (magZ z1)) c1, .slice D1 (len d1) e1] 26)).alloc (.cells #[.bool (sgnZ z2), .slice A2 (len (magZ z2)) c2, .slice D2 (len d2) e2] 26))) O oldA)
  replace B_x : Bx p1 (w.heap.size) #[.bool (sgnZ z1), .slice A1 (len (magZ z1)) c1, .slice D1 (len d1) e1] := (bxK B_x hp)
  replace B_y : Bx p1 (w.heap.size + 1) #[.bool (sgnZ z2), .slice A2 (len (magZ z2)) c2, .slice D2 (len d2) e2] := (bxK B_y hp)
  have zp1 : ((w.alloc (.cells #[.bool (sgnZ z1), .slice A1 (len (magZ z1)) c1, .slice D1 (len d1) e1] 26)).alloc (.cells #[.bool (sgnZ z2), .slice A2 (len (magZ z2)) c2, .slice D2 (len d2) e2] 26)).heap.size ≤ p1.heap.size := (by rw [hp]; exact leA)
  clear hp O
  have O := O'
  clear O'
  refine (areRats_yes z1 d1 A1 D1 c1 e1 l1 m1 z2 d2 A2 D2 c2 e2 l2 m2 _ (Row.below (B := w.heap.size) h1 O (Nat.le_refl _)) (Row.below (B := w.heap.size) k1 O (Nat.le_refl _)) N1.out (Row.below (B := w.heap.size) h2 O (Nat.le_refl _)) (Row.below (B := w.heap.size) k2 O (Nat.le_refl _)) N2.out P1.out P2.out).mono ?_
  rintro e w1 ⟨rfl, o1⟩
  replace B_x := Bx.old B_x o1
  replace B_y := Bx.old B_y o1
  replace O := Old.trans O o1
  have zw1 := o1.size
  obtain ⟨q_x_0, q_x_1, q_x_2, f_x_0, f_x_1, f_x_2, q_x⟩ := B_x.all3
  obtain ⟨q_y_0, q_y_1, q_y_2, f_y_0, f_y_1, f_y_2, q_y⟩ := B_y.all3
  go_wp2_with fail
  refine callsNamed ?_
  intro p2 hp
  clear q_x_0 q_x_1 q_x_2 f_x_0 f_x_1 f_x_2 q_x q_y_0 q_y_1 q_y_2 f_y_0 f_y_1 f_y_2 q_y
  have O' : Old w p2 := (by rw [hp]; exact Below.trans (b := w1) O oldA)
  replace B_x : Bx p2 (w.heap.size) #[.bool (sgnZ z1), .slice A1 (len (magZ z1)) c1, .slice D1 (len d1) e1] := (bxK B_x hp)
  replace B_y : Bx p2 (w.heap.size + 1) #[.bool (sgnZ z2), .slice A2 (len (magZ z2)) c2, .slice D2 (len d2) e2] := (bxK B_y hp)
  have zp2 : w1.heap.size ≤ p2.heap.size := (by rw [hp]; exact leA)
  clear hp O
  have O := O'
  clear O'
  refine (ratCmp_any z1 d1 A1 D1 c1 e1 l1 m1 z2 d2 A2 D2 c2 e2 l2 m2 _ (Row.below (B := w.heap.size) h1 O (Nat.le_refl _)) (Row.below (B := w.heap.size) k1 O (Nat.le_refl _)) N1.out (Row.below (B := w.heap.size) h2 O (Nat.le_refl _)) (Row.below (B := w.heap.size) k2 O (Nat.le_refl _)) N2.out).mono ?_
  rintro e w2 ⟨rfl, o2⟩
  replace B_x := Bx.old B_x o2
  replace B_y := Bx.old B_y o2
  replace O := Old.trans O o2
  have zw2 := o2.size
  obtain ⟨q_x_0, q_x_1, q_x_2, f_x_0, f_x_1, f_x_2, q_x⟩ := B_x.all3
  obtain ⟨q_y_0, q_y_1, q_y_2, f_y_0, f_y_1, f_y_2, q_y⟩ := B_y.all3
  go_wp2
  go_ret
  exact ⟨rfl, Below.trans (b := w2) O oldA⟩
set_option maxRecDepth 100000 in
set_option maxHeartbeats 1000000 in
theorem impl_RatCmp_no1 (b1 : Bool) (A1 : Option Addr) (n1 c1 l1 : Nat) (f1 : Nat → Int) (D1 : Option Addr) (m1 e1 u1 : Nat) (g1 : Nat → Int) (b2 : Bool) (A2 : Option Addr) (n2 c2 l2 : Nat) (f2 : Nat → Int) (D2 : Option Addr) (m2 e2 u2 : Nat) (g2 : Nat → Int) (w : World) (h1 : Row w l1 A1 n1 c1 f1) (k1 : Row w u1 D1 m1 e1 g1) (hn1 : n1 ≤ 1048576) (hm1 : m1 ≤ 1048576) (q1 : ¬ okR b1 n1 f1 m1 g1) :
    Calls Tryz.prog 15 #[.agg #[.bool b1, .slice A1 n1 c1, .slice D1 m1 e1], .agg #[.bool b2, .slice A2 n2 c2, .slice D2 m2 e2]] w fun e w' => e = .returned (.int .i64 (0)) ∧ Old w w' := by
  have Q1 := Lib.hid q1
  clear q1
  have O : Old w ((w.alloc (.cells #[.bool b1, .slice A1 n1 c1, .slice D1 m1 e1] 26)).alloc (.cells #[.bool b2, .slice A2 n2 c2, .slice D2 m2 e2] 26)) := oldA
  have B_x : Bx ((w.alloc (.cells #[.bool b1, .slice A1 n1 c1, .slice D1 m1 e1] 26)).alloc (.cells #[.bool b2, .slice A2 n2 c2, .slice D2 m2 e2] 26)) (w.heap.size) #[.bool b1, .slice A1 n1 c1, .slice D1 m1 e1] := by have h := (Bx.alloc (Bx.new w #[.bool b1, .slice A1 n1 c1, .slice D1 m1 e1] 26) (.cells #[.bool b2, .slice A2 n2 c2, .slice D2 m2 e2] 26)); simpa using h
  have B_y : Bx ((w.alloc (.cells #[.bool b1, .slice A1 n1 c1, .slice D1 m1 e1] 26)).alloc (.cells #[.bool b2, .slice A2 n2 c2, .slice D2 m2 e2] 26)) (w.heap.size + 1) #[.bool b2, .slice A2 n2 c2, .slice D2 m2 e2] := by have h := (Bx.new (w.alloc (.cells #[.bool b1, .slice A1 n1 c1, .slice D1 m1 e1] 26)) #[.bool b2, .slice A2 n2 c2, .slice D2 m2 e2] 26); simpa using h
  have ne_0_1 : ¬ (w.heap.size = w.heap.size + 1) := by omega
  have ne_1_0 : ¬ (w.heap.size + 1 = w.heap.size) := by omega
  have ze : w.heap.size + 2 ≤ ((w.alloc (.cells #[.bool b1, .slice A1 n1 c1, .slice D1 m1 e1] 26)).alloc (.cells #[.bool b2, .slice A2 n2 c2, .slice D2 m2 e2] 26)).heap.size := (by simp)
  go_enter Tryz.func15, Tryz.ntmps15
  go_wp2_with fail
  refine callsNamed ?_
  intro p1 hp
  have O' : Old w p1 := (by rw [hp]; exact Below.trans (b := ((w.alloc (.cells #[.bool b1, .slice A1 n1 c1, .slice D1 m1 e1] 26)).alloc (.cells #[.bool b2, .slice A2 n2 c2, .slice D2 m2 e2] 26))) O oldA)
  replace B_x : Bx p1 (w.heap.size) #[.bool b1, .slice A1 n1 c1, .slice D1 m1 e1] := (bxK B_x hp)
  replace B_y : Bx p1 (w.heap.size + 1) #[.bool b2, .slice A2 n2 c2, .slice D2 m2 e2] := (bxK B_y hp)
  have zp1 : ((w.alloc (.cells #[.bool b1, .slice A1 n1 c1, .slice D1 m1 e1] 26)).alloc (.cells #[.bool b2, .slice A2 n2 c2, .slice D2 m2 e2] 26)).heap.size ≤ p1.heap.size := (by rw [hp]; exact leA)
  clear hp O
  have O := O'
  clear O'
  refine (areRats_no1 b1 A1 n1 c1 l1 f1 D1 m1 e1 u1 g1 b2 A2 n2 c2 l2 f2 D2 m2 e2 u2 g2 _ (Row.below (B := w.heap.size) h1 O (Nat.le_refl _)) (Row.below (B := w.heap.size) k1 O (Nat.le_refl _)) hn1 hm1 Q1.out).mono ?_
  rintro e w1 ⟨rfl, o1⟩
  replace B_x := Bx.old B_x o1
  replace B_y := Bx.old B_y o1
  replace O := Old.trans O o1
  have zw1 := o1.size
  obtain ⟨q_x_0, q_x_1, q_x_2, f_x_0, f_x_1, f_x_2, q_x⟩ := B_x.all3
  obtain ⟨q_y_0, q_y_1, q_y_2, f_y_0, f_y_1, f_y_2, q_y⟩ := B_y.all3
  go_wp2
  go_ret
  exact ⟨rfl, Below.trans (b := w1) O oldA⟩
set_option maxRecDepth 100000 in
set_option maxHeartbeats 1000000 in
theorem impl_RatCmp_no2 (z1 : Int) (d1 : Nat) (A1 D1 : Option Addr) (c1 e1 l1 m1 : Nat) (b2 : Bool) (A2 : Option Addr) (n2 c2 l2 : Nat) (f2 : Nat → Int) (D2 : Option Addr) (m2 e2 u2 : Nat) (g2 : Nat → Int) (w : World) (h1 : NatS w l1 A1 c1 (magZ z1)) (k1 : NatS w m1 D1 e1 d1) (n1 : normF (z1, d1)) (p1 : 0 < d1) (h2 : Row w l2 A2 n2 c2 f2) (k2 : Row w u2 D2 m2 e2 g2) (hn2 : n2 ≤ 1048576) (hm2 : m2 ≤ 1048576) (q2 : ¬ okR b2 n2 f2 m2 g2) :
    Calls Tryz.prog 15 #[.agg #[.bool (sgnZ z1), .slice A1 (len (magZ z1)) c1, .slice D1 (len d1) e1], .agg #[.bool b2, .slice A2 n2 c2, .slice D2 m2 e2]] w fun e w' => e = .returned (.int .i64 (0)) ∧ Old w w' := by
  have N1 := Lib.hid n1
  have LN1 := norm_len n1
  have La1 : len (magZ z1) ≤ 24 := LN1.1
  have Lb1 : len d1 ≤ 24 := LN1.2
  clear n1 LN1
  have Q2 := Lib.hid q2
  have P1 := Lib.hid p1
  clear q2 p1
  have O : Old w ((w.alloc (.cells #[.bool (sgnZ z1), .slice A1 (len (magZ z1)) c1, .slice D1 (len d1) e1] 26)).alloc (.cells #[.bool b2, .slice A2 n2 c2, .slice D2 m2 e2] 26)) := oldA
  have B_x : Bx ((w.alloc (.cells #[.bool (sgnZ z1), .slice A1 (len (magZ z1)) c1, .slice D1 (len d1) e1] 26)).alloc (.cells #[.bool b2, .slice A2 n2 c2, .slice D2 m2 e2] 26)) (w.heap.size) #[.bool (sgnZ z1), .slice A1 (len (magZ z1)) c1, .slice D1 (len d1) e1] := by have h := (Bx.alloc (Bx.new w #[.bool (sgnZ z1), .slice A1 (len (magZ z1)) c1, .slice D1 (len d1) e1] 26) (.cells #[.bool b2, .slice A2 n2 c2, .slice D2 m2 e2] 26)); simpa using h
  have B_y : Bx ((w.alloc (.cells #[.bool (sgnZ z1), .slice A1 (len (magZ z1)) c1, .slice D1 (len d1) e1] 26)).alloc (.cells #[.bool b2, .slice A2 n2 c2, .slice D2 m2 e2] 26)) (w.heap.size + 1) #[.bool b2, .slice A2 n2 c2, .slice D2 m2 e2] := by have h := (Bx.new (w.alloc (.cells #[.bool (sgnZ z1), .slice A1 (len (magZ z1)) c1, .slice D1 (len d1) e1] 26)) #[.bool b2, .slice A2 n2 c2, .slice D2 m2 e2] 26); simpa using h
  have ne_0_1 : ¬ (w.heap.size = w.heap.size + 1) := by omega
  have ne_1_0 : ¬ (w.heap.size + 1 = w.heap.size) := by omega
  have ze : w.heap.size + 2 ≤ ((w.alloc (.cells #[.bool (sgnZ z1), .slice A1 (len (magZ z1)) c1, .slice D1 (len d1) e1] 26)).alloc (.cells #[.bool b2, .slice A2 n2 c2, .slice D2 m2 e2] 26)).heap.size := (by simp)
  go_enter Tryz.func15, Tryz.ntmps15
  go_wp2_with fail
  refine callsNamed ?_
  intro p1 hp
  have O' : Old w p1 := (by rw [hp]; exact Below.trans (b := ((w.alloc (.cells #[.bool (sgnZ z1), .slice A1 (len (magZ z1)) c1, .slice D1 (len d1) e1] 26)).alloc (.cells #[.bool b2, .slice A2 n2 c2, .slice D2 m2 e2] 26))) O oldA)
  replace B_x : Bx p1 (w.heap.size) #[.bool (sgnZ z1), .slice A1 (len (magZ z1)) c1, .slice D1 (len d1) e1] := (bxK B_x hp)
  replace B_y : Bx p1 (w.heap.size + 1) #[.bool b2, .slice A2 n2 c2, .slice D2 m2 e2] := (bxK B_y hp)
  have zp1 : ((w.alloc (.cells #[.bool (sgnZ z1), .slice A1 (len (magZ z1)) c1, .slice D1 (len d1) e1] 26)).alloc (.cells #[.bool b2, .slice A2 n2 c2, .slice D2 m2 e2] 26)).heap.size ≤ p1.heap.size := (by rw [hp]; exact leA)
  clear hp O
  have O := O'
  clear O'
  refine (areRats_no2 z1 d1 A1 D1 c1 e1 l1 m1 b2 A2 n2 c2 l2 f2 D2 m2 e2 u2 g2 _ (Row.below (B := w.heap.size) h1 O (Nat.le_refl _)) (Row.below (B := w.heap.size) k1 O (Nat.le_refl _)) N1.out P1.out (Row.below (B := w.heap.size) h2 O (Nat.le_refl _)) (Row.below (B := w.heap.size) k2 O (Nat.le_refl _)) hn2 hm2 Q2.out).mono ?_
  rintro e w1 ⟨rfl, o1⟩
  replace B_x := Bx.old B_x o1
  replace B_y := Bx.old B_y o1
  replace O := Old.trans O o1
  have zw1 := o1.size
  obtain ⟨q_x_0, q_x_1, q_x_2, f_x_0, f_x_1, f_x_2, q_x⟩ := B_x.all3
  obtain ⟨q_y_0, q_y_1, q_y_2, f_y_0, f_y_1, f_y_2, q_y⟩ := B_y.all3
  go_wp2
  go_ret
  exact ⟨rfl, Below.trans (b := w1) O oldA⟩
theorem impl_RatCmp (b1 : Bool) (A1 : Option Addr) (n1 c1 l1 : Nat) (f1 : Nat → Int) (D1 : Option Addr) (m1 e1 u1 : Nat) (g1 : Nat → Int) (b2 : Bool) (A2 : Option Addr) (n2 c2 l2 : Nat) (f2 : Nat → Int) (D2 : Option Addr) (m2 e2 u2 : Nat) (g2 : Nat → Int) (w : World) (h1 : Row w l1 A1 n1 c1 f1) (k1 : Row w u1 D1 m1 e1 g1) (h2 : Row w l2 A2 n2 c2 f2) (k2 : Row w u2 D2 m2 e2 g2) (hn1 : n1 ≤ 1048576) (hm1 : m1 ≤ 1048576) (hn2 : n2 ≤ 1048576) (hm2 : m2 ≤ 1048576) :
    Calls Tryz.prog 15 #[.agg #[.bool b1, .slice A1 n1 c1, .slice D1 m1 e1], .agg #[.bool b2, .slice A2 n2 c2, .slice D2 m2 e2]] w fun e w' => e = .returned (.int .i64 (rRatCmp b1 n1 f1 m1 g1 b2 n2 f2 m2 g2)) ∧ Old w w' := by
  unfold rRatCmp
  by_cases q1 : okR b1 n1 f1 m1 g1
  · obtain ⟨z1, d1, e1', e2', e3', p1, nn1, v1, s1, s1'⟩ := okR_z q1 h1 k1
    by_cases q2 : okR b2 n2 f2 m2 g2
    · obtain ⟨z2, d2, e4', e5', e6', p2, nn2, v2, s2, s2'⟩ := okR_z q2 h2 k2
      rw [v1, v2, e1', e2', e3', e4', e5', e6']
      exact impl_RatCmp_yes z1 d1 A1 D1 c1 e1 l1 u1 z2 d2 A2 D2 c2 e2 l2 u2 w s1 s1' nn1 s2 s2' nn2 p1 p2
    · rw [vR_no q2, cmpF_no2 rfl, e1', e2', e3']
      exact impl_RatCmp_no2 z1 d1 A1 D1 c1 e1 l1 u1 b2 A2 n2 c2 l2 f2 D2 m2 e2 u2 g2 w s1 s1' nn1 p1 h2 k2 hn2 hm2 q2
  · rw [vR_no q1, cmpF_no1 rfl]
    exact impl_RatCmp_no1 b1 A1 n1 c1 l1 f1 D1 m1 e1 u1 g1 b2 A2 n2 c2 l2 f2 D2 m2 e2 u2 g2 w h1 k1 hn1 hm1 q1
theorem impl_RatCmp_v (z1 : Int) (d1 : Nat) (A1 D1 : Option Addr) (c1 e1 l1 m1 : Nat) (z2 : Int) (d2 : Nat) (A2 D2 : Option Addr) (c2 e2 l2 m2 : Nat) (w : World) (h1 : NatS w l1 A1 c1 (magZ z1)) (k1 : NatS w m1 D1 e1 d1) (n1 : normF (z1, d1)) (h2 : NatS w l2 A2 c2 (magZ z2)) (k2 : NatS w m2 D2 e2 d2) (n2 : normF (z2, d2)) :
    Calls Tryz.prog 15 #[.agg #[.bool (sgnZ z1), .slice A1 (len (magZ z1)) c1, .slice D1 (len d1) e1], .agg #[.bool (sgnZ z2), .slice A2 (len (magZ z2)) c2, .slice D2 (len d2) e2]] w fun e w' => e = .returned (.int .i64 (cmpF (z1, d1) (z2, d2))) ∧ Old w w' := by
  have hl1 := norm_len n1
  have hl2 := norm_len n2
  simp only at hl1 hl2
  have h := impl_RatCmp (sgnZ z1) A1 _ c1 l1 _ D1 _ e1 m1 _ (sgnZ z2) A2 _ c2 l2 _ D2 _ e2 m2 _ w h1 k1 h2 k2 (by omega) (by omega) (by omega) (by omega)
  unfold rRatCmp at h
  rw [vR_val n1, vR_val n2] at h
  exact h
end Go.Proofs.YtgchbbjhdeobpaaGreatDoor

namespace Go.Proofs.YtgchbbjhdeobpaaGreatDoor
set_option linter.unusedVariables false
open Go.RowKit Num
attribute [local go_sem ↓] Go.wp_at_zero Go.wp_at_succ
noncomputable def rRatSign (b1 : Bool) (n1 : Nat) (f1 : Nat → Int) (m1 : Nat) (g1 : Nat → Int) : Int := sgnF (vR b1 n1 f1 m1 g1)
set_option maxRecDepth 100000 in
set_option maxHeartbeats 1000000 in
theorem impl_RatSign_yes (z1 : Int) (d1 : Nat) (A1 D1 : Option Addr) (c1 e1 l1 m1 : Nat) (w : World) (h1 : NatS w l1 A1 c1 (magZ z1)) (k1 : NatS w m1 D1 e1 d1) (n1 : normF (z1, d1)) (p1 : 0 < d1) :
    Calls Tryz.prog 16 #[.agg #[.bool (sgnZ z1), .slice A1 (len (magZ z1)) c1, .slice D1 (len d1) e1]] w fun e w' => e = .returned (.int .i64 (sgnF (z1, d1))) ∧ Old w w' := by
  have N1 := Lib.hid n1
  have LN1 := norm_len n1
  have La1 : len (magZ z1) ≤ 24 := LN1.1
  have Lb1 : len d1 ≤ 24 := LN1.2
  clear n1 LN1
  have P1 := Lib.hid p1
  clear p1
  have O : Old w (w.alloc (.cells #[.bool (sgnZ z1), .slice A1 (len (magZ z1)) c1, .slice D1 (len d1) e1] 26)) := oldA
  have B_x : Bx (w.alloc (.cells #[.bool (sgnZ z1), .slice A1 (len (magZ z1)) c1, .slice D1 (len d1) e1] 26)) (w.heap.size) #[.bool (sgnZ z1), .slice A1 (len (magZ z1)) c1, .slice D1 (len d1) e1] := by have h := (Bx.new w #[.bool (sgnZ z1), .slice A1 (len (magZ z1)) c1, .slice D1 (len d1) e1] 26); simpa using h
  have ze : w.heap.size + 1 ≤ (w.alloc (.cells #[.bool (sgnZ z1), .slice A1 (len (magZ z1)) c1, .slice D1 (len d1) e1] 26)).heap.size := (by simp)
  go_enter Tryz.func16, Tryz.ntmps16
  go_wp2_with fail
  refine callsNamed ?_
  intro p1 hp
  have O' : Old w p1 := (by rw [hp]; exact Below.trans (b := (w.alloc (.cells #[.bool (sgnZ z1), .slice A1 (len (magZ z1)) c1, .slice D1 (len d1) e1] 26))) O oldA)
  replace B_x : Bx p1 (w.heap.size) #[.bool (sgnZ z1), .slice A1 (len (magZ z1)) c1, .slice D1 (len d1) e1] := (bxK B_x hp)
  have zp1 : (w.alloc (.cells #[.bool (sgnZ z1), .slice A1 (len (magZ z1)) c1, .slice D1 (len d1) e1] 26)).heap.size ≤ p1.heap.size := (by rw [hp]; exact leA)
  clear hp O
  have O := O'
  clear O'
  refine (impl_RatOk_yes z1 d1 A1 D1 c1 e1 l1 m1 _ (Row.below (B := w.heap.size) h1 O (Nat.le_refl _)) (Row.below (B := w.heap.size) k1 O (Nat.le_refl _)) N1.out P1.out).mono ?_
  rintro e w1 ⟨rfl, o1⟩
  replace B_x := Bx.old B_x o1
  replace O := Old.trans O o1
  have zw1 := o1.size
  obtain ⟨q_x_0, q_x_1, q_x_2, f_x_0, f_x_1, f_x_2, q_x⟩ := B_x.all3
  go_wp2_with fail
  refine callsNamed ?_
  intro p2 hp
  clear q_x_0 q_x_1 q_x_2 f_x_0 f_x_1 f_x_2 q_x
  have O' : Old w p2 := (by rw [hp]; exact Below.trans (b := w1) O oldA)
  replace B_x : Bx p2 (w.heap.size) #[.bool (sgnZ z1), .slice A1 (len (magZ z1)) c1, .slice D1 (len d1) e1] := (bxK B_x hp)
  have zp2 : w1.heap.size ≤ p2.heap.size := (by rw [hp]; exact leA)
  clear hp O
  have O := O'
  clear O'
  refine (ratSign_any z1 d1 A1 D1 c1 e1 l1 m1 _ (Row.below (B := w.heap.size) h1 O (Nat.le_refl _)) (Row.below (B := w.heap.size) k1 O (Nat.le_refl _)) N1.out).mono ?_
  rintro e w2 ⟨rfl, o2⟩
  replace B_x := Bx.old B_x o2
  replace O := Old.trans O o2
  have zw2 := o2.size
  obtain ⟨q_x_0, q_x_1, q_x_2, f_x_0, f_x_1, f_x_2, q_x⟩ := B_x.all3
  go_wp2
  go_ret
  exact ⟨rfl, Below.trans (b := w2) O oldA⟩
set_option maxRecDepth 100000 in
set_option maxHeartbeats 1000000 in
theorem impl_RatSign_no (b1 : Bool) (A1 : Option Addr) (n1 c1 l1 : Nat) (f1 : Nat → Int) (D1 : Option Addr) (m1 e1 u1 : Nat) (g1 : Nat → Int) (w : World) (h1 : Row w l1 A1 n1 c1 f1) (k1 : Row w u1 D1 m1 e1 g1) (hn1 : n1 ≤ 1048576) (hm1 : m1 ≤ 1048576) (q1 : ¬ okR b1 n1 f1 m1 g1) :
    Calls Tryz.prog 16 #[.agg #[.bool b1, .slice A1 n1 c1, .slice D1 m1 e1]] w fun e w' => e = .returned (.int .i64 (0)) ∧ Old w w' := by
  have Q1 := Lib.hid q1
  clear q1
  have O : Old w (w.alloc (.cells #[.bool b1, .slice A1 n1 c1, .slice D1 m1 e1] 26)) := oldA
  have B_x : Bx (w.alloc (.cells #[.bool b1, .slice A1 n1 c1, .slice D1 m1 e1] 26)) (w.heap.size) #[.bool b1, .slice A1 n1 c1, .slice D1 m1 e1] := by have h := (Bx.new w #[.bool b1, .slice A1 n1 c1, .slice D1 m1 e1] 26); simpa using h
  have ze : w.heap.size + 1 ≤ (w.alloc (.cells #[.bool b1, .slice A1 n1 c1, .slice D1 m1 e1] 26)).heap.size := (by simp)
  go_enter Tryz.func16, Tryz.ntmps16
  go_wp2_with fail
  refine callsNamed ?_
  intro p1 hp
  have O' : Old w p1 := (by rw [hp]; exact Below.trans (b := (w.alloc (.cells #[.bool b1, .slice A1 n1 c1, .slice D1 m1 e1] 26))) O oldA)
  replace B_x : Bx p1 (w.heap.size) #[.bool b1, .slice A1 n1 c1, .slice D1 m1 e1] := (bxK B_x hp)
  have zp1 : (w.alloc (.cells #[.bool b1, .slice A1 n1 c1, .slice D1 m1 e1] 26)).heap.size ≤ p1.heap.size := (by rw [hp]; exact leA)
  clear hp O
  have O := O'
  clear O'
  refine (impl_RatOk_no b1 A1 n1 c1 l1 f1 D1 m1 e1 u1 g1 _ (Row.below (B := w.heap.size) h1 O (Nat.le_refl _)) (Row.below (B := w.heap.size) k1 O (Nat.le_refl _)) hn1 hm1 Q1.out).mono ?_
  rintro e w1 ⟨rfl, o1⟩
  replace B_x := Bx.old B_x o1
  replace O := Old.trans O o1
  have zw1 := o1.size
  obtain ⟨q_x_0, q_x_1, q_x_2, f_x_0, f_x_1, f_x_2, q_x⟩ := B_x.all3
  go_wp2
  go_ret
  exact ⟨rfl, Below.trans (b := w1) O oldA⟩
theorem impl_RatSign (b1 : Bool) (A1 : Option Addr) (n1 c1 l1 : Nat) (f1 : Nat → Int) (D1 : Option Addr) (m1 e1 u1 : Nat) (g1 : Nat → Int) (w : World) (h1 : Row w l1 A1 n1 c1 f1) (k1 : Row w u1 D1 m1 e1 g1) (hn1 : n1 ≤ 1048576) (hm1 : m1 ≤ 1048576) :
    Calls Tryz.prog 16 #[.agg #[.bool b1, .slice A1 n1 c1, .slice D1 m1 e1]] w fun e w' => e = .returned (.int .i64 (rRatSign b1 n1 f1 m1 g1)) ∧ Old w w' := by
  unfold rRatSign
  by_cases q1 : okR b1 n1 f1 m1 g1
  · obtain ⟨z1, d1, e1', e2', e3', p1, nn1, v1, s1, s1'⟩ := okR_z q1 h1 k1
    rw [v1, e1', e2', e3']
    exact impl_RatSign_yes z1 d1 A1 D1 c1 e1 l1 u1 w s1 s1' nn1 p1
  · rw [vR_no q1, show sgnF (0, 0) = 0 from rfl]
    exact impl_RatSign_no b1 A1 n1 c1 l1 f1 D1 m1 e1 u1 g1 w h1 k1 hn1 hm1 q1
theorem impl_RatSign_v (z1 : Int) (d1 : Nat) (A1 D1 : Option Addr) (c1 e1 l1 m1 : Nat) (w : World) (h1 : NatS w l1 A1 c1 (magZ z1)) (k1 : NatS w m1 D1 e1 d1) (n1 : normF (z1, d1)) :
    Calls Tryz.prog 16 #[.agg #[.bool (sgnZ z1), .slice A1 (len (magZ z1)) c1, .slice D1 (len d1) e1]] w fun e w' => e = .returned (.int .i64 (sgnF (z1, d1))) ∧ Old w w' := by
  have hl1 := norm_len n1
  simp only at hl1
  have h := impl_RatSign (sgnZ z1) A1 _ c1 l1 _ D1 _ e1 m1 _ w h1 k1 (by omega) (by omega)
  unfold rRatSign at h
  rw [vR_val n1] at h
  exact h
end Go.Proofs.YtgchbbjhdeobpaaGreatDoor

namespace Go.Proofs.YtgchbbjhdeobpaaGreatDoor
set_option linter.unusedVariables false
open Go.RowKit Num
def negS (s : ByteArray) : Bool := Lib.hasPrefix s.data.toList [45]
def tS (s : ByteArray) : ByteArray := ⟨(Lib.trimPrefix s.data.toList [45]).toArray⟩
theorem neg_at {s : ByteArray} (h : 0 < s.size) : negS s = decide ((s[0]).toNat = 45) := by
  obtain ⟨⟨l⟩⟩ := s
  cases l with
  | nil => exact absurd h (by show ¬ 0 < 0; omega)
  | cons a l =>
    show List.isPrefixOf [45] (a :: l) = decide (a.toNat = 45)
    simp only [List.isPrefixOf, Bool.and_true]
    rw [Bool.eq_iff_iff]
    simp only [beq_iff_eq, decide_eq_true_eq]
    constructor
    · intro e; rw [← e]; rfl
    · intro e; exact (UInt8.toNat_inj.1 (by rw [e]; rfl))
theorem tS_neg {s : ByteArray} (h : negS s = true) : tS s = s.extract 1 s.size := by
  have h' : Lib.hasPrefix s.data.toList [45] = true := h
  unfold tS Lib.trimPrefix
  rw [if_pos h', Lib.extract_eq]
  have e : (List.drop 1 s.data.toList).take (s.size - 1) = List.drop 1 s.data.toList := by
    apply List.take_of_length_le
    rw [List.length_drop, ← Lib.size_eq]
    exact Nat.le_refl _
  rw [e]
  rfl
theorem tS_pos {s : ByteArray} (h : negS s = false) : tS s = s := by
  unfold tS Lib.trimPrefix
  rw [if_neg (by rw [show Lib.hasPrefix s.data.toList [45] = negS s from rfl, h]; decide)]
theorem tS_size (s : ByteArray) : (tS s).size ≤ s.size := by
  cases h : negS s with
  | false => rw [tS_pos h]; exact Nat.le_refl _
  | true => rw [tS_neg h, ByteArray.size_extract]; omega
def okZ (s : ByteArray) : Prop := okN (tS s) ∧ (negS s = true → 0 < rParseNat (tS s))
open Classical in
noncomputable def zParseBigInt (s : ByteArray) : Int := if okZ s then signed (negS s) (rParseNat (tS s)) else 0
open Classical in
noncomputable def rParseBigInt1 (s : ByteArray) : Bool := decide (okZ s)
open Classical in
theorem zParse_yes {s : ByteArray} (k : okZ s) : zParseBigInt s = signed (negS s) (rParseNat (tS s)) ∧ rParseBigInt1 s = true := ⟨if_pos k, decide_eq_true k⟩
open Classical in
theorem zParse_no {s : ByteArray} (k : ¬ okZ s) : zParseBigInt s = 0 ∧ rParseBigInt1 s = false := ⟨if_neg k, decide_eq_false k⟩
theorem zParseBigInt_len (s : ByteArray) : len (magZ (zParseBigInt s)) ≤ 60 := by
  by_cases k : okZ s
  · rw [(zParse_yes k).1, mag_signed]; exact rParseNat_len _
  · rw [(zParse_no k).1]
    have : len (magZ 0) = 0 := len_zero
    omega
def RetBB (e : Ending) (w : World) (lo : Nat) (z : Int) (b : Bool) : Prop := ∃ A c, e = .returned (.tuple #[.agg #[.bool (sgnZ z), .slice A (len (magZ z)) c], .bool b]) ∧ NatS w lo A c (magZ z)
theorem RetBB.of {e : Ending} {w : World} {lo : Nat} {n : Bool} {V : Nat} {A : Option Addr} {c : Nat} (hn : n = true → 0 < V) (h : e = .returned (.tuple #[.agg #[.bool n, .slice A (len V) c], .bool true])) (r : NatS w lo A c V) : RetBB e w lo (signed n V) true := by
  have hs : sgnZ (signed n V) = n := by rw [sgn_signed]; cases n with
    | false => rfl
    | true => rw [decide_eq_true (hn rfl)]; rfl
  exact ⟨A, c, by rw [hs, mag_signed]; exact h, by rw [mag_signed]; exact r⟩
theorem cutPrefix_t (s t : ByteArray) (b : Bool) (w : World) (ht : tS s = t) (hb : negS s = b) :
    Calls Tryz.prog 56 #[.string s, .string ⟨#[45]⟩] w fun e w' => e = .returned (.tuple #[.string t, .bool b]) ∧ w = w' := by
  subst ht hb
  exact (Tryz.strings_CutPrefix s ⟨#[45]⟩ w).mono fun e w' h => ⟨h.1, h.2.symm⟩

set_option maxRecDepth 100000 in
set_option maxHeartbeats 1000000 in
theorem impl_ParseBigInt_pos_no (s : ByteArray) (t : ByteArray) (V : Nat) (w : World) (b : s.size ≤ maxLen) (bt : (t).size ≤ maxLen) (hv : rParseNat (t) = V) (hb : rParseNat1 (t) = false) (hl : len V ≤ 60) (ht : tS s = t) (hn : negS s = false) :
    Calls Tryz.prog 26 #[.string s] w fun e w' => e = .returned (.tuple #[.agg #[.bool false, .slice none 0 0], .bool false]) ∧ Old w w' := by
  have HV := Lib.hid hv
  have HB := Lib.hid hb
  clear hv hb
  have HT := Lib.hid ht
  have HN := Lib.hid hn
  clear ht hn
  have O : Old w (w.alloc (.cells #[.bool false, .slice none 0 0] 24)) := oldA
  have B_r : Bx (w.alloc (.cells #[.bool false, .slice none 0 0] 24)) (w.heap.size) #[.bool false, .slice none 0 0] := by have h := (Bx.new w #[.bool false, .slice none 0 0] 24); simpa using h
  go_enter Tryz.func26, Tryz.ntmps26
  go_wp2_with fail
  refine (cutPrefix_t s t false _ HT.out HN.out).mono ?_
  rintro e w1 ⟨rfl, rfl⟩
  go_wp2_with fail
  refine (impl_ParseNat t _ bt).mono ?_
  rintro e w1 ⟨⟨A, c, he, r1⟩, o1⟩
  replace o1 : Old (w.alloc (.cells #[.bool false, .slice none 0 0] 24)) w1 := Below.trans (b := _) oldA (Below.mono o1 leA)
  replace B_r := Bx.old B_r o1
  replace O := Old.trans O o1
  have z1 : w.heap.size + 1 ≤ w1.heap.size := (by have h := o1.size; simp at h; omega)
  replace r1 := Row.more (lo' := w.heap.size + 1) r1 leA
  rw [HV.out, HB.out] at he
  rw [HV.out] at r1
  subst he
  have q_r_0 := B_r.cell 0 rfl
  have q_r_1 := B_r.cell 1 rfl
  have f_r_0 := B_r.frozen 0
  have f_r_1 := B_r.frozen 1
  have q_r := B_r.lt
  go_wp2
  have E := Bx.alloc (Bx.put2 B_r (.bool false) (.slice none 0 0)) (.cells #[.bool false, .slice A (len V) c] 24)
  have hne1 := E.cell 0 rfl
  have hne2 := E.cell 1 rfl
  refine bodyPost_ret (v := .tuple #[.agg #[.bool false, .slice none 0 0], .bool false]) (by simp [results, Tryz.results26, go_sem, hne1, hne2]) rfl ⟨rfl, oldA⟩
set_option maxRecDepth 100000 in
set_option maxHeartbeats 1000000 in
theorem impl_ParseBigInt_pos_ok (s : ByteArray) (t : ByteArray) (V : Nat) (w : World) (b : s.size ≤ maxLen) (bt : (t).size ≤ maxLen) (hv : rParseNat (t) = V) (hb : rParseNat1 (t) = true) (hl : len V ≤ 60) (ht : tS s = t) (hn : negS s = false) :
    Calls Tryz.prog 26 #[.string s] w fun e w' => RetBB e w' w.heap.size (signed false V) true ∧ Old w w' := by
  have HV := Lib.hid hv
  have HB := Lib.hid hb
  clear hv hb
  have HT := Lib.hid ht
  have HN := Lib.hid hn
  clear ht hn
  have O : Old w (w.alloc (.cells #[.bool false, .slice none 0 0] 24)) := oldA
  have B_r : Bx (w.alloc (.cells #[.bool false, .slice none 0 0] 24)) (w.heap.size) #[.bool false, .slice none 0 0] := by have h := (Bx.new w #[.bool false, .slice none 0 0] 24); simpa using h
  go_enter Tryz.func26, Tryz.ntmps26
  go_wp2_with fail
  refine (cutPrefix_t s t false _ HT.out HN.out).mono ?_
  rintro e w1 ⟨rfl, rfl⟩
  go_wp2_with fail
  refine (impl_ParseNat t _ bt).mono ?_
  rintro e w1 ⟨⟨A, c, he, r1⟩, o1⟩
  replace o1 : Old (w.alloc (.cells #[.bool false, .slice none 0 0] 24)) w1 := Below.trans (b := _) oldA (Below.mono o1 leA)
  replace B_r := Bx.old B_r o1
  replace O := Old.trans O o1
  have z1 : w.heap.size + 1 ≤ w1.heap.size := (by have h := o1.size; simp at h; omega)
  replace r1 := Row.more (lo' := w.heap.size + 1) r1 leA
  rw [HV.out, HB.out] at he
  rw [HV.out] at r1
  subst he
  have q_r_0 := B_r.cell 0 rfl
  have q_r_1 := B_r.cell 1 rfl
  have f_r_0 := B_r.frozen 0
  have f_r_1 := B_r.frozen 1
  have q_r := B_r.lt
  go_wp2_with fail
  refine (impl_BigIntOk_yes false A c V _ _ (Row.below (B := w1.heap.size) r1 oldA (Nat.le_refl _)) hl (fun h => absurd h Bool.false_ne_true)).mono ?_
  rintro e w2 ⟨rfl, o2⟩
  clear q_r_0 q_r_1 f_r_0 f_r_1 q_r
  have B_x : Bx w2 (w1.heap.size) #[.bool false, .slice A (len V) c] := Bx.old (Bx.new _ _ _) o2
  replace o2 : Old w1 w2 := Below.trans (b := _) oldA (Below.mono o2 leA)
  replace B_r := Bx.old B_r o2
  replace r1 := Row.below r1 o2 (Nat.le_refl _)
  replace O := Old.trans O o2
  have z2 := o2.size
  have q_r_0 := B_r.cell 0 rfl
  have q_r_1 := B_r.cell 1 rfl
  have f_r_0 := B_r.frozen 0
  have f_r_1 := B_r.frozen 1
  have q_r := B_r.lt
  have q_x_0 := B_x.cell 0 rfl
  have q_x_1 := B_x.cell 1 rfl
  have f_x_0 := B_x.frozen 0
  have f_x_1 := B_x.frozen 1
  have q_x := B_x.lt
  go_wp2
  refine bodyPost_ret (v := .tuple #[.agg #[.bool false, .slice A (len V) c], .bool true]) (by simp [results, Tryz.results26, go_sem, q_r_0, q_r_1]) rfl ⟨RetBB.of (fun h => absurd h Bool.false_ne_true) rfl ?_, ?_⟩
  · refine Row.more (lo := w.heap.size + 1) ?_ leA
    repeat' (first | exact r1 | refine Row.far_set ?_ (by first | (simp <;> done) | (simp; omega) | omega) _)
  · exact oldA
set_option maxRecDepth 100000 in
set_option maxHeartbeats 1000000 in
theorem impl_ParseBigInt_neg_no (s : ByteArray) (t : ByteArray) (V : Nat) (w : World) (b : s.size ≤ maxLen) (bt : (t).size ≤ maxLen) (hv : rParseNat (t) = V) (hb : rParseNat1 (t) = false) (hl : len V ≤ 60) (ht : tS s = t) (hn : negS s = true) :
    Calls Tryz.prog 26 #[.string s] w fun e w' => e = .returned (.tuple #[.agg #[.bool false, .slice none 0 0], .bool false]) ∧ Old w w' := by
  have HV := Lib.hid hv
  have HB := Lib.hid hb
  clear hv hb
  have HT := Lib.hid ht
  have HN := Lib.hid hn
  clear ht hn
  have O : Old w (w.alloc (.cells #[.bool false, .slice none 0 0] 24)) := oldA
  have B_r : Bx (w.alloc (.cells #[.bool false, .slice none 0 0] 24)) (w.heap.size) #[.bool false, .slice none 0 0] := by have h := (Bx.new w #[.bool false, .slice none 0 0] 24); simpa using h
  go_enter Tryz.func26, Tryz.ntmps26
  go_wp2_with fail
  refine (cutPrefix_t s t true _ HT.out HN.out).mono ?_
  rintro e w1 ⟨rfl, rfl⟩
  go_wp2_with fail
  refine (impl_ParseNat t _ bt).mono ?_
  rintro e w1 ⟨⟨A, c, he, r1⟩, o1⟩
  replace o1 : Old (w.alloc (.cells #[.bool false, .slice none 0 0] 24)) w1 := Below.trans (b := _) oldA (Below.mono o1 leA)
  replace B_r := Bx.old B_r o1
  replace O := Old.trans O o1
  have z1 : w.heap.size + 1 ≤ w1.heap.size := (by have h := o1.size; simp at h; omega)
  replace r1 := Row.more (lo' := w.heap.size + 1) r1 leA
  rw [HV.out, HB.out] at he
  rw [HV.out] at r1
  subst he
  have q_r_0 := B_r.cell 0 rfl
  have q_r_1 := B_r.cell 1 rfl
  have f_r_0 := B_r.frozen 0
  have f_r_1 := B_r.frozen 1
  have q_r := B_r.lt
  go_wp2
  have E := Bx.alloc (Bx.put2 B_r (.bool false) (.slice none 0 0)) (.cells #[.bool true, .slice A (len V) c] 24)
  have hne1 := E.cell 0 rfl
  have hne2 := E.cell 1 rfl
  refine bodyPost_ret (v := .tuple #[.agg #[.bool false, .slice none 0 0], .bool false]) (by simp [results, Tryz.results26, go_sem, hne1, hne2]) rfl ⟨rfl, oldA⟩
set_option maxRecDepth 100000 in
set_option maxHeartbeats 1000000 in
theorem impl_ParseBigInt_neg_ok0 (s : ByteArray) (t : ByteArray) (V : Nat) (w : World) (b : s.size ≤ maxLen) (bt : (t).size ≤ maxLen) (hv : rParseNat (t) = V) (hb : rParseNat1 (t) = true) (hl : len V ≤ 60) (ht : tS s = t) (hn : negS s = true) (h0 : V = 0) :
    Calls Tryz.prog 26 #[.string s] w fun e w' => e = .returned (.tuple #[.agg #[.bool false, .slice none 0 0], .bool false]) ∧ Old w w' := by
  have HV := Lib.hid hv
  have HB := Lib.hid hb
  clear hv hb
  have HT := Lib.hid ht
  have HN := Lib.hid hn
  clear ht hn
  have H0 := Lib.hid h0
  clear h0
  have O : Old w (w.alloc (.cells #[.bool false, .slice none 0 0] 24)) := oldA
  have B_r : Bx (w.alloc (.cells #[.bool false, .slice none 0 0] 24)) (w.heap.size) #[.bool false, .slice none 0 0] := by have h := (Bx.new w #[.bool false, .slice none 0 0] 24); simpa using h
  go_enter Tryz.func26, Tryz.ntmps26
  go_wp2_with fail
  refine (cutPrefix_t s t true _ HT.out HN.out).mono ?_
  rintro e w1 ⟨rfl, rfl⟩
  go_wp2_with fail
  refine (impl_ParseNat t _ bt).mono ?_
  rintro e w1 ⟨⟨A, c, he, r1⟩, o1⟩
  replace o1 : Old (w.alloc (.cells #[.bool false, .slice none 0 0] 24)) w1 := Below.trans (b := _) oldA (Below.mono o1 leA)
  replace B_r := Bx.old B_r o1
  replace O := Old.trans O o1
  have z1 : w.heap.size + 1 ≤ w1.heap.size := (by have h := o1.size; simp at h; omega)
  replace r1 := Row.more (lo' := w.heap.size + 1) r1 leA
  rw [HV.out, HB.out] at he
  rw [HV.out] at r1
  subst he
  have q_r_0 := B_r.cell 0 rfl
  have q_r_1 := B_r.cell 1 rfl
  have f_r_0 := B_r.frozen 0
  have f_r_1 := B_r.frozen 1
  have q_r := B_r.lt
  go_wp2_with fail
  refine (impl_BigIntOk_no true A (len V) c _ (digI V) _ (Row.below (B := w1.heap.size) r1 oldA (Nat.le_refl _)) (by omega) (fun h => by have h2 := h.2 rfl; rw [H0.out, len_zero] at h2; omega)).mono ?_
  rintro e w2 ⟨rfl, o2⟩
  clear q_r_0 q_r_1 f_r_0 f_r_1 q_r
  have B_x : Bx w2 (w1.heap.size) #[.bool true, .slice A (len V) c] := Bx.old (Bx.new _ _ _) o2
  replace o2 : Old w1 w2 := Below.trans (b := _) oldA (Below.mono o2 leA)
  replace B_r := Bx.old B_r o2
  replace r1 := Row.below r1 o2 (Nat.le_refl _)
  replace O := Old.trans O o2
  have z2 := o2.size
  have q_r_0 := B_r.cell 0 rfl
  have q_r_1 := B_r.cell 1 rfl
  have f_r_0 := B_r.frozen 0
  have f_r_1 := B_r.frozen 1
  have q_r := B_r.lt
  have q_x_0 := B_x.cell 0 rfl
  have q_x_1 := B_x.cell 1 rfl
  have f_x_0 := B_x.frozen 0
  have f_x_1 := B_x.frozen 1
  have q_x := B_x.lt
  go_wp2
  refine bodyPost_ret (v := .tuple #[.agg #[.bool false, .slice none 0 0], .bool false]) (by simp [results, Tryz.results26, go_sem, q_r_0, q_r_1]) rfl ⟨rfl, oldA⟩
set_option maxRecDepth 100000 in
set_option maxHeartbeats 1000000 in
theorem impl_ParseBigInt_neg_ok (s : ByteArray) (t : ByteArray) (V : Nat) (w : World) (b : s.size ≤ maxLen) (bt : (t).size ≤ maxLen) (hv : rParseNat (t) = V) (hb : rParseNat1 (t) = true) (hl : len V ≤ 60) (ht : tS s = t) (hn : negS s = true) (h0 : 0 < V) :
    Calls Tryz.prog 26 #[.string s] w fun e w' => RetBB e w' w.heap.size (signed true V) true ∧ Old w w' := by
  have HV := Lib.hid hv
  have HB := Lib.hid hb
  clear hv hb
  have HT := Lib.hid ht
  have HN := Lib.hid hn
  clear ht hn
  have H0 := Lib.hid h0
  clear h0
  have O : Old w (w.alloc (.cells #[.bool false, .slice none 0 0] 24)) := oldA
  have B_r : Bx (w.alloc (.cells #[.bool false, .slice none 0 0] 24)) (w.heap.size) #[.bool false, .slice none 0 0] := by have h := (Bx.new w #[.bool false, .slice none 0 0] 24); simpa using h
  go_enter Tryz.func26, Tryz.ntmps26
  go_wp2_with fail
  refine (cutPrefix_t s t true _ HT.out HN.out).mono ?_
  rintro e w1 ⟨rfl, rfl⟩
  go_wp2_with fail
  refine (impl_ParseNat t _ bt).mono ?_
  rintro e w1 ⟨⟨A, c, he, r1⟩, o1⟩
  replace o1 : Old (w.alloc (.cells #[.bool false, .slice none 0 0] 24)) w1 := Below.trans (b := _) oldA (Below.mono o1 leA)
  replace B_r := Bx.old B_r o1
  replace O := Old.trans O o1
  have z1 : w.heap.size + 1 ≤ w1.heap.size := (by have h := o1.size; simp at h; omega)
  replace r1 := Row.more (lo' := w.heap.size + 1) r1 leA
  rw [HV.out, HB.out] at he
  rw [HV.out] at r1
  subst he
  have q_r_0 := B_r.cell 0 rfl
  have q_r_1 := B_r.cell 1 rfl
  have f_r_0 := B_r.frozen 0
  have f_r_1 := B_r.frozen 1
  have q_r := B_r.lt
  go_wp2_with fail
  refine (impl_BigIntOk_yes true A c V _ _ (Row.below (B := w1.heap.size) r1 oldA (Nat.le_refl _)) hl (fun _ => H0.out)).mono ?_
  rintro e w2 ⟨rfl, o2⟩
  clear q_r_0 q_r_1 f_r_0 f_r_1 q_r
  have B_x : Bx w2 (w1.heap.size) #[.bool true, .slice A (len V) c] := Bx.old (Bx.new _ _ _) o2
  replace o2 : Old w1 w2 := Below.trans (b := _) oldA (Below.mono o2 leA)
  replace B_r := Bx.old B_r o2
  replace r1 := Row.below r1 o2 (Nat.le_refl _)
  replace O := Old.trans O o2
  have z2 := o2.size
  have q_r_0 := B_r.cell 0 rfl
  have q_r_1 := B_r.cell 1 rfl
  have f_r_0 := B_r.frozen 0
  have f_r_1 := B_r.frozen 1
  have q_r := B_r.lt
  have q_x_0 := B_x.cell 0 rfl
  have q_x_1 := B_x.cell 1 rfl
  have f_x_0 := B_x.frozen 0
  have f_x_1 := B_x.frozen 1
  have q_x := B_x.lt
  go_wp2
  refine bodyPost_ret (v := .tuple #[.agg #[.bool true, .slice A (len V) c], .bool true]) (by simp [results, Tryz.results26, go_sem, q_r_0, q_r_1]) rfl ⟨RetBB.of (fun _ => H0.out) rfl ?_, ?_⟩
  · refine Row.more (lo := w.heap.size + 1) ?_ leA
    repeat' (first | exact r1 | refine Row.far_set ?_ (by first | (simp <;> done) | (simp; omega) | omega) _)
  · exact oldA
theorem impl_ParseBigInt (s : ByteArray) (w : World) (b : s.size ≤ maxLen) :
    Calls Tryz.prog 26 #[.string s] w fun e w' => RetBB e w' w.heap.size (zParseBigInt s) (rParseBigInt1 s) ∧ Old w w' := by
  have nil : (¬ okZ s) → ∀ e w', (e = .returned (.tuple #[.agg #[.bool false, .slice none 0 0], .bool false]) ∧ Old w w') → RetBB e w' w.heap.size (zParseBigInt s) (rParseBigInt1 s) ∧ Old w w' := by
    rintro k e w' ⟨rfl, o⟩
    rw [(zParse_no k).1, (zParse_no k).2]
    exact ⟨⟨none, 0, by rw [show len (magZ 0) = 0 from len_zero]; rfl, NatS.zero _ _ _ _⟩, o⟩
  have bt : (tS s).size ≤ maxLen := Nat.le_trans (tS_size s) b
  cases hN : negS s with
  | true =>
    by_cases k1 : okN (tS s)
    · have hv1 := (rParse_yes k1).2
      have hl := rParseNat_len (tS s)
      by_cases h0 : rParseNat (tS s) = 0
      · have k : ¬ okZ s := fun k => by have := k.2 hN; omega
        exact (impl_ParseBigInt_neg_ok0 s (tS s) _ w b bt rfl hv1 hl rfl hN h0).mono (nil k)
      · have h1 : 0 < rParseNat (tS s) := by omega
        have k : okZ s := ⟨k1, fun _ => h1⟩
        rw [(zParse_yes k).1, (zParse_yes k).2, hN]
        exact impl_ParseBigInt_neg_ok s (tS s) _ w b bt rfl hv1 hl rfl hN h1
    · have hv1 := (rParse_no k1).2
      have hl := rParseNat_len (tS s)
      exact (impl_ParseBigInt_neg_no s (tS s) _ w b bt rfl hv1 hl rfl hN).mono (nil fun k => k1 k.1)
  | false =>
    by_cases k1 : okN (tS s)
    · have hv1 := (rParse_yes k1).2
      have hl := rParseNat_len (tS s)
      have k : okZ s := ⟨k1, fun h => by rw [hN] at h; cases h⟩
      rw [(zParse_yes k).1, (zParse_yes k).2, hN]
      exact impl_ParseBigInt_pos_ok s (tS s) _ w b bt rfl hv1 hl rfl hN
    · have hv1 := (rParse_no k1).2
      have hl := rParseNat_len (tS s)
      exact (impl_ParseBigInt_pos_no s (tS s) _ w b bt rfl hv1 hl rfl hN).mono (nil fun k => k1 k.1)
end Go.Proofs.YtgchbbjhdeobpaaGreatDoor
