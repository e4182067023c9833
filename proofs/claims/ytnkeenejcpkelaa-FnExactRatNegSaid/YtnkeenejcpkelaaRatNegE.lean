/-
  The exported RatNeg's: the program's and the reference's.
-/
import Derived.Test.YtnkeenejcpkelaaRatCopyS
import Derived.Test.YtnkeenejcpkelaaRatMakeI
import Derived.Test.YtnkeenejcpkelaaRatCmpI
namespace Go.Proofs.Ytnkeenejcpkelaa
set_option linter.unusedVariables false
open Go.RowKit Num
attribute [local go_sem ↓] Go.wp_at_zero Go.wp_at_succ
noncomputable def vRatNeg (b1 : Bool) (n1 : Nat) (f1 : Nat → Int) (m1 : Nat) (g1 : Nat → Int) : Fr := negF (vR b1 n1 f1 m1 g1)
theorem vRatNeg_norm (b1 : Bool) (n1 : Nat) (f1 : Nat → Int) (m1 : Nat) (g1 : Nat → Int) : normF (vRatNeg b1 n1 f1 m1 g1) := negF_norm (vR_norm _ _ _ _ _)
set_option maxRecDepth 100000 in
set_option maxHeartbeats 1000000 in
theorem spec_RatNeg_yes (z1 : Int) (d1 : Nat) (A1 D1 : Option Addr) (c1 e1 l1 m1 : Nat) (w : World) (h1 : NatS w l1 A1 c1 (magZ z1)) (k1 : NatS w m1 D1 e1 d1) (n1 : normF (z1, d1)) (p1 : 0 < d1) :
    Calls Try.prog 57 #[.agg #[.bool (sgnZ z1), .slice A1 (len (magZ z1)) c1, .slice D1 (len d1) e1]] w fun e w' => RetR e w' w.heap.size (negF (z1, d1)) ∧ Old w w' := by
  have N1 := Lib.hid n1
  have LN1 := norm_len n1
  have La1 : len (magZ z1) ≤ 24 := LN1.1
  have Lb1 : len d1 ≤ 24 := LN1.2
  clear n1 LN1
  have P1 := Lib.hid p1
  clear p1
  have O : Old w ((w.alloc (.cells #[.bool (sgnZ z1), .slice A1 (len (magZ z1)) c1, .slice D1 (len d1) e1] 31)).alloc (.cells #[.bool false, .slice none 0 0, .slice none 0 0] 31)) := oldA
  have B_x : Bx ((w.alloc (.cells #[.bool (sgnZ z1), .slice A1 (len (magZ z1)) c1, .slice D1 (len d1) e1] 31)).alloc (.cells #[.bool false, .slice none 0 0, .slice none 0 0] 31)) (w.heap.size) #[.bool (sgnZ z1), .slice A1 (len (magZ z1)) c1, .slice D1 (len d1) e1] := by have h := (Bx.alloc (Bx.new w #[.bool (sgnZ z1), .slice A1 (len (magZ z1)) c1, .slice D1 (len d1) e1] 31) (.cells #[.bool false, .slice none 0 0, .slice none 0 0] 31)); simpa using h
  have B_r : Bx ((w.alloc (.cells #[.bool (sgnZ z1), .slice A1 (len (magZ z1)) c1, .slice D1 (len d1) e1] 31)).alloc (.cells #[.bool false, .slice none 0 0, .slice none 0 0] 31)) (w.heap.size + 1) #[.bool false, .slice none 0 0, .slice none 0 0] := by have h := (Bx.new (w.alloc (.cells #[.bool (sgnZ z1), .slice A1 (len (magZ z1)) c1, .slice D1 (len d1) e1] 31)) #[.bool false, .slice none 0 0, .slice none 0 0] 31); simpa using h
  have ne_0_1 : ¬ (w.heap.size = w.heap.size + 1) := by omega
  have ne_1_0 : ¬ (w.heap.size + 1 = w.heap.size) := by omega
  have ze : w.heap.size + 2 ≤ ((w.alloc (.cells #[.bool (sgnZ z1), .slice A1 (len (magZ z1)) c1, .slice D1 (len d1) e1] 31)).alloc (.cells #[.bool false, .slice none 0 0, .slice none 0 0] 31)).heap.size := (by simp)
  go_enter Try.func57, Try.ntmps57
  go_wp2_with fail
  refine callsNamed ?_
  intro p1 hp
  have O' : Old w p1 := (by rw [hp]; exact Below.trans (b := ((w.alloc (.cells #[.bool (sgnZ z1), .slice A1 (len (magZ z1)) c1, .slice D1 (len d1) e1] 31)).alloc (.cells #[.bool false, .slice none 0 0, .slice none 0 0] 31))) O oldA)
  replace B_x : Bx p1 (w.heap.size) #[.bool (sgnZ z1), .slice A1 (len (magZ z1)) c1, .slice D1 (len d1) e1] := (by rw [hp]; repeat' (first | (with_reducible exact B_x) | (with_reducible refine Bx.alloc ?_ _) | (with_reducible refine Bx.drewN ?_ _) | (with_reducible refine Bx.drew ?_) | refine Bx.far ?_ (by first | assumption | (simp <;> done) | (simp; omega) | omega) _))
  replace B_r : Bx p1 (w.heap.size + 1) #[.bool false, .slice none 0 0, .slice none 0 0] := (by rw [hp]; repeat' (first | (with_reducible exact B_r) | (with_reducible refine Bx.alloc ?_ _) | (with_reducible refine Bx.drewN ?_ _) | (with_reducible refine Bx.drew ?_) | refine Bx.far ?_ (by first | assumption | (simp <;> done) | (simp; omega) | omega) _))
  have zp1 : ((w.alloc (.cells #[.bool (sgnZ z1), .slice A1 (len (magZ z1)) c1, .slice D1 (len d1) e1] 31)).alloc (.cells #[.bool false, .slice none 0 0, .slice none 0 0] 31)).heap.size ≤ p1.heap.size := (by rw [hp]; exact leA)
  clear hp O
  have O := O'
  clear O'
  refine (spec_RatOk_yes z1 d1 A1 D1 c1 e1 l1 m1 _ (Row.below (B := w.heap.size) h1 O (Nat.le_refl _)) (Row.below (B := w.heap.size) k1 O (Nat.le_refl _)) N1.out P1.out).mono ?_
  rintro e w1 ⟨rfl, o1⟩
  replace B_x := Bx.old B_x o1
  replace B_r := Bx.old B_r o1
  replace O := Old.trans O o1
  have zw1 := o1.size
  have q_x_0 := B_x.cell 0 rfl
  have q_x_1 := B_x.cell 1 rfl
  have q_x_2 := B_x.cell 2 rfl
  have f_x_0 := B_x.frozen 0
  have f_x_1 := B_x.frozen 1
  have f_x_2 := B_x.frozen 2
  have q_x := B_x.lt
  have q_r_0 := B_r.cell 0 rfl
  have q_r_1 := B_r.cell 1 rfl
  have q_r_2 := B_r.cell 2 rfl
  have f_r_0 := B_r.frozen 0
  have f_r_1 := B_r.frozen 1
  have f_r_2 := B_r.frozen 2
  have q_r := B_r.lt
  go_wp2_with fail
  refine callsNamed ?_
  intro p2 hp
  clear q_x_0 q_x_1 q_x_2 f_x_0 f_x_1 f_x_2 q_x q_r_0 q_r_1 q_r_2 f_r_0 f_r_1 f_r_2 q_r
  have O' : Old w p2 := (by rw [hp]; exact Below.trans (b := w1) O oldA)
  replace B_x : Bx p2 (w.heap.size) #[.bool (sgnZ z1), .slice A1 (len (magZ z1)) c1, .slice D1 (len d1) e1] := (by rw [hp]; repeat' (first | (with_reducible exact B_x) | (with_reducible refine Bx.alloc ?_ _) | (with_reducible refine Bx.drewN ?_ _) | (with_reducible refine Bx.drew ?_) | refine Bx.far ?_ (by first | assumption | (simp <;> done) | (simp; omega) | omega) _))
  replace B_r : Bx p2 (w.heap.size + 1) #[.bool false, .slice none 0 0, .slice none 0 0] := (by rw [hp]; repeat' (first | (with_reducible exact B_r) | (with_reducible refine Bx.alloc ?_ _) | (with_reducible refine Bx.drewN ?_ _) | (with_reducible refine Bx.drew ?_) | refine Bx.far ?_ (by first | assumption | (simp <;> done) | (simp; omega) | omega) _))
  have zp2 : w1.heap.size ≤ p2.heap.size := (by rw [hp]; exact leA)
  clear hp O
  have O := O'
  clear O'
  refine (l04Neg_any z1 d1 A1 D1 c1 e1 l1 m1 _ (Row.below (B := w.heap.size) h1 O (Nat.le_refl _)) (Row.below (B := w.heap.size) k1 O (Nat.le_refl _)) N1.out).mono ?_
  rintro e w2 ⟨⟨z9, d9, A9, c9, D9, e9, hv, rfl, r9, s9, ap⟩, o2⟩
  replace B_x := Bx.old B_x o2
  replace B_r := Bx.old B_r o2
  replace O := Old.trans O o2
  have zw2 := o2.size
  replace r9 := Row.more (lo' := p2.heap.size) r9 leA
  replace s9 := Row.more (lo' := p2.heap.size) s9 leA
  have lim_r9 := Row.lim r9
  have lim_s9 := Row.lim s9
  have HV := Lib.hid hv
  have AP := Lib.hid ap
  clear hv ap
  have q_x_0 := B_x.cell 0 rfl
  have q_x_1 := B_x.cell 1 rfl
  have q_x_2 := B_x.cell 2 rfl
  have f_x_0 := B_x.frozen 0
  have f_x_1 := B_x.frozen 1
  have f_x_2 := B_x.frozen 2
  have q_x := B_x.lt
  have q_r_0 := B_r.cell 0 rfl
  have q_r_1 := B_r.cell 1 rfl
  have q_r_2 := B_r.cell 2 rfl
  have f_r_0 := B_r.frozen 0
  have f_r_1 := B_r.frozen 1
  have f_r_2 := B_r.frozen 2
  have q_r := B_r.lt
  go_wp2
  refine bodyPost_ret (v := .agg #[.bool (sgnZ z9), .slice A9 (len (magZ z9)) c9, .slice D9 (len d9) e9]) (by simp [results, Try.results57, go_sem, q_r_0, q_r_1, q_r_2]) rfl ⟨⟨z9, d9, A9, c9, D9, e9, HV.out, rfl, ?_, ?_, AP.out⟩, ?_⟩
  · refine Row.more (lo := p2.heap.size) ?_ leA
    repeat' (first | (with_reducible exact r9) | (with_reducible refine Row.far_set ?_ (by first | (simp <;> done) | (simp; omega) | omega) _))
  · refine Row.more (lo := p2.heap.size) ?_ leA
    repeat' (first | (with_reducible exact s9) | (with_reducible refine Row.far_set ?_ (by first | (simp <;> done) | (simp; omega) | omega) _))
  · exact Below.trans (b := w2) O oldA
set_option maxRecDepth 100000 in
set_option maxHeartbeats 1000000 in
theorem spec_RatNeg_no (b1 : Bool) (A1 : Option Addr) (n1 c1 l1 : Nat) (f1 : Nat → Int) (D1 : Option Addr) (m1 e1 u1 : Nat) (g1 : Nat → Int) (w : World) (h1 : Row w l1 A1 n1 c1 f1) (k1 : Row w u1 D1 m1 e1 g1) (hn1 : n1 ≤ 1048576) (hm1 : m1 ≤ 1048576) (q1 : ¬ okR b1 n1 f1 m1 g1) :
    Calls Try.prog 57 #[.agg #[.bool b1, .slice A1 n1 c1, .slice D1 m1 e1]] w fun e w' => RetR e w' w.heap.size ((0, 0)) ∧ Old w w' := by
  have Q1 := Lib.hid q1
  clear q1
  have O : Old w ((w.alloc (.cells #[.bool b1, .slice A1 n1 c1, .slice D1 m1 e1] 31)).alloc (.cells #[.bool false, .slice none 0 0, .slice none 0 0] 31)) := oldA
  have B_x : Bx ((w.alloc (.cells #[.bool b1, .slice A1 n1 c1, .slice D1 m1 e1] 31)).alloc (.cells #[.bool false, .slice none 0 0, .slice none 0 0] 31)) (w.heap.size) #[.bool b1, .slice A1 n1 c1, .slice D1 m1 e1] := by have h := (Bx.alloc (Bx.new w #[.bool b1, .slice A1 n1 c1, .slice D1 m1 e1] 31) (.cells #[.bool false, .slice none 0 0, .slice none 0 0] 31)); simpa using h
  have B_r : Bx ((w.alloc (.cells #[.bool b1, .slice A1 n1 c1, .slice D1 m1 e1] 31)).alloc (.cells #[.bool false, .slice none 0 0, .slice none 0 0] 31)) (w.heap.size + 1) #[.bool false, .slice none 0 0, .slice none 0 0] := by have h := (Bx.new (w.alloc (.cells #[.bool b1, .slice A1 n1 c1, .slice D1 m1 e1] 31)) #[.bool false, .slice none 0 0, .slice none 0 0] 31); simpa using h
  have ne_0_1 : ¬ (w.heap.size = w.heap.size + 1) := by omega
  have ne_1_0 : ¬ (w.heap.size + 1 = w.heap.size) := by omega
  have ze : w.heap.size + 2 ≤ ((w.alloc (.cells #[.bool b1, .slice A1 n1 c1, .slice D1 m1 e1] 31)).alloc (.cells #[.bool false, .slice none 0 0, .slice none 0 0] 31)).heap.size := (by simp)
  go_enter Try.func57, Try.ntmps57
  go_wp2_with fail
  refine callsNamed ?_
  intro p1 hp
  have O' : Old w p1 := (by rw [hp]; exact Below.trans (b := ((w.alloc (.cells #[.bool b1, .slice A1 n1 c1, .slice D1 m1 e1] 31)).alloc (.cells #[.bool false, .slice none 0 0, .slice none 0 0] 31))) O oldA)
  replace B_x : Bx p1 (w.heap.size) #[.bool b1, .slice A1 n1 c1, .slice D1 m1 e1] := (by rw [hp]; repeat' (first | (with_reducible exact B_x) | (with_reducible refine Bx.alloc ?_ _) | (with_reducible refine Bx.drewN ?_ _) | (with_reducible refine Bx.drew ?_) | refine Bx.far ?_ (by first | assumption | (simp <;> done) | (simp; omega) | omega) _))
  replace B_r : Bx p1 (w.heap.size + 1) #[.bool false, .slice none 0 0, .slice none 0 0] := (by rw [hp]; repeat' (first | (with_reducible exact B_r) | (with_reducible refine Bx.alloc ?_ _) | (with_reducible refine Bx.drewN ?_ _) | (with_reducible refine Bx.drew ?_) | refine Bx.far ?_ (by first | assumption | (simp <;> done) | (simp; omega) | omega) _))
  have zp1 : ((w.alloc (.cells #[.bool b1, .slice A1 n1 c1, .slice D1 m1 e1] 31)).alloc (.cells #[.bool false, .slice none 0 0, .slice none 0 0] 31)).heap.size ≤ p1.heap.size := (by rw [hp]; exact leA)
  clear hp O
  have O := O'
  clear O'
  refine (spec_RatOk_no b1 A1 n1 c1 l1 f1 D1 m1 e1 u1 g1 _ (Row.below (B := w.heap.size) h1 O (Nat.le_refl _)) (Row.below (B := w.heap.size) k1 O (Nat.le_refl _)) hn1 hm1 Q1.out).mono ?_
  rintro e w1 ⟨rfl, o1⟩
  replace B_x := Bx.old B_x o1
  replace B_r := Bx.old B_r o1
  replace O := Old.trans O o1
  have zw1 := o1.size
  have q_x_0 := B_x.cell 0 rfl
  have q_x_1 := B_x.cell 1 rfl
  have q_x_2 := B_x.cell 2 rfl
  have f_x_0 := B_x.frozen 0
  have f_x_1 := B_x.frozen 1
  have f_x_2 := B_x.frozen 2
  have q_x := B_x.lt
  have q_r_0 := B_r.cell 0 rfl
  have q_r_1 := B_r.cell 1 rfl
  have q_r_2 := B_r.cell 2 rfl
  have f_r_0 := B_r.frozen 0
  have f_r_1 := B_r.frozen 1
  have f_r_2 := B_r.frozen 2
  have q_r := B_r.lt
  go_wp2
  refine bodyPost_ret (v := .agg #[.bool false, .slice none 0 0, .slice none 0 0]) (by simp [results, Try.results57, go_sem, q_r_0, q_r_1, q_r_2]) rfl ⟨RetR.zero rfl, Below.trans (b := w1) O oldA⟩
theorem spec_RatNeg (b1 : Bool) (A1 : Option Addr) (n1 c1 l1 : Nat) (f1 : Nat → Int) (D1 : Option Addr) (m1 e1 u1 : Nat) (g1 : Nat → Int) (w : World) (h1 : Row w l1 A1 n1 c1 f1) (k1 : Row w u1 D1 m1 e1 g1) (hn1 : n1 ≤ 1048576) (hm1 : m1 ≤ 1048576) :
    Calls Try.prog 57 #[.agg #[.bool b1, .slice A1 n1 c1, .slice D1 m1 e1]] w fun e w' => RetR e w' w.heap.size (vRatNeg b1 n1 f1 m1 g1) ∧ Old w w' := by
  unfold vRatNeg
  by_cases q1 : okR b1 n1 f1 m1 g1
  · obtain ⟨z1, d1, e1', e2', e3', p1, nn1, v1, s1, s1'⟩ := okR_z q1 h1 k1
    rw [v1, e1', e2', e3']
    exact spec_RatNeg_yes z1 d1 A1 D1 c1 e1 l1 u1 w s1 s1' nn1 p1
  · rw [vR_no q1, show negF (0, 0) = (0, 0) from rfl]
    exact spec_RatNeg_no b1 A1 n1 c1 l1 f1 D1 m1 e1 u1 g1 w h1 k1 hn1 hm1 q1
theorem spec_RatNeg_v (z1 : Int) (d1 : Nat) (A1 D1 : Option Addr) (c1 e1 l1 m1 : Nat) (w : World) (h1 : NatS w l1 A1 c1 (magZ z1)) (k1 : NatS w m1 D1 e1 d1) (n1 : normF (z1, d1)) :
    Calls Try.prog 57 #[.agg #[.bool (sgnZ z1), .slice A1 (len (magZ z1)) c1, .slice D1 (len d1) e1]] w fun e w' => RetR e w' w.heap.size (negF (z1, d1)) ∧ Old w w' := by
  have hl1 := norm_len n1
  simp only at hl1
  have h := spec_RatNeg (sgnZ z1) A1 _ c1 l1 _ D1 _ e1 m1 _ w h1 k1 (by omega) (by omega)
  unfold vRatNeg at h
  rw [vR_val n1] at h
  exact h
set_option maxRecDepth 100000 in
set_option maxHeartbeats 1000000 in
theorem impl_RatNeg_yes (z1 : Int) (d1 : Nat) (A1 D1 : Option Addr) (c1 e1 l1 m1 : Nat) (w : World) (h1 : NatS w l1 A1 c1 (magZ z1)) (k1 : NatS w m1 D1 e1 d1) (n1 : normF (z1, d1)) (p1 : 0 < d1) :
    Calls Try.prog 58 #[.agg #[.bool (sgnZ z1), .slice A1 (len (magZ z1)) c1, .slice D1 (len d1) e1]] w fun e w' => RetR e w' w.heap.size (negF (z1, d1)) ∧ Old w w' := by
  have h1' : NatS w l1 A1 c1 (magZ (-z1)) := by rw [mag_neg]; exact h1
  have n1' := negF_norm n1
  have N3 : Hid (normF (-z1, d1)) := Lib.hid n1'
  have HMN := Lib.hid (mag_neg z1)
  clear n1'
  have N1 := Lib.hid n1
  have LN1 := norm_len n1
  have La1 : len (magZ z1) ≤ 24 := LN1.1
  have Lb1 : len d1 ≤ 24 := LN1.2
  clear n1 LN1
  have P1 := Lib.hid p1
  clear p1
  have O : Old w ((w.alloc (.cells #[.bool (sgnZ z1), .slice A1 (len (magZ z1)) c1, .slice D1 (len d1) e1] 31)).alloc (.cells #[.bool false, .slice none 0 0, .slice none 0 0] 31)) := oldA
  have B_x : Bx ((w.alloc (.cells #[.bool (sgnZ z1), .slice A1 (len (magZ z1)) c1, .slice D1 (len d1) e1] 31)).alloc (.cells #[.bool false, .slice none 0 0, .slice none 0 0] 31)) (w.heap.size) #[.bool (sgnZ z1), .slice A1 (len (magZ z1)) c1, .slice D1 (len d1) e1] := by have h := (Bx.alloc (Bx.new w #[.bool (sgnZ z1), .slice A1 (len (magZ z1)) c1, .slice D1 (len d1) e1] 31) (.cells #[.bool false, .slice none 0 0, .slice none 0 0] 31)); simpa using h
  have B_r : Bx ((w.alloc (.cells #[.bool (sgnZ z1), .slice A1 (len (magZ z1)) c1, .slice D1 (len d1) e1] 31)).alloc (.cells #[.bool false, .slice none 0 0, .slice none 0 0] 31)) (w.heap.size + 1) #[.bool false, .slice none 0 0, .slice none 0 0] := by have h := (Bx.new (w.alloc (.cells #[.bool (sgnZ z1), .slice A1 (len (magZ z1)) c1, .slice D1 (len d1) e1] 31)) #[.bool false, .slice none 0 0, .slice none 0 0] 31); simpa using h
  have ne_0_1 : ¬ (w.heap.size = w.heap.size + 1) := by omega
  have ne_1_0 : ¬ (w.heap.size + 1 = w.heap.size) := by omega
  have ze : w.heap.size + 2 ≤ ((w.alloc (.cells #[.bool (sgnZ z1), .slice A1 (len (magZ z1)) c1, .slice D1 (len d1) e1] 31)).alloc (.cells #[.bool false, .slice none 0 0, .slice none 0 0] 31)).heap.size := (by simp)
  go_enter Try.func58, Try.ntmps58
  go_wp2_with fail
  refine callsNamed ?_
  intro p1 hp
  have O' : Old w p1 := (by rw [hp]; exact Below.trans (b := ((w.alloc (.cells #[.bool (sgnZ z1), .slice A1 (len (magZ z1)) c1, .slice D1 (len d1) e1] 31)).alloc (.cells #[.bool false, .slice none 0 0, .slice none 0 0] 31))) O oldA)
  replace B_x : Bx p1 (w.heap.size) #[.bool (sgnZ z1), .slice A1 (len (magZ z1)) c1, .slice D1 (len d1) e1] := (by rw [hp]; repeat' (first | (with_reducible exact B_x) | (with_reducible refine Bx.alloc ?_ _) | (with_reducible refine Bx.drewN ?_ _) | (with_reducible refine Bx.drew ?_) | refine Bx.far ?_ (by first | assumption | (simp <;> done) | (simp; omega) | omega) _))
  replace B_r : Bx p1 (w.heap.size + 1) #[.bool false, .slice none 0 0, .slice none 0 0] := (by rw [hp]; repeat' (first | (with_reducible exact B_r) | (with_reducible refine Bx.alloc ?_ _) | (with_reducible refine Bx.drewN ?_ _) | (with_reducible refine Bx.drew ?_) | refine Bx.far ?_ (by first | assumption | (simp <;> done) | (simp; omega) | omega) _))
  have zp1 : ((w.alloc (.cells #[.bool (sgnZ z1), .slice A1 (len (magZ z1)) c1, .slice D1 (len d1) e1] 31)).alloc (.cells #[.bool false, .slice none 0 0, .slice none 0 0] 31)).heap.size ≤ p1.heap.size := (by rw [hp]; exact leA)
  clear hp O
  have O := O'
  clear O'
  refine (impl_RatOk_yes z1 d1 A1 D1 c1 e1 l1 m1 _ (Row.below (B := w.heap.size) h1 O (Nat.le_refl _)) (Row.below (B := w.heap.size) k1 O (Nat.le_refl _)) N1.out P1.out).mono ?_
  rintro e w1 ⟨rfl, o1⟩
  replace B_x := Bx.old B_x o1
  replace B_r := Bx.old B_r o1
  replace O := Old.trans O o1
  have zw1 := o1.size
  have q_x_0 := B_x.cell 0 rfl
  have q_x_1 := B_x.cell 1 rfl
  have q_x_2 := B_x.cell 2 rfl
  have f_x_0 := B_x.frozen 0
  have f_x_1 := B_x.frozen 1
  have f_x_2 := B_x.frozen 2
  have q_x := B_x.lt
  have q_r_0 := B_r.cell 0 rfl
  have q_r_1 := B_r.cell 1 rfl
  have q_r_2 := B_r.cell 2 rfl
  have f_r_0 := B_r.frozen 0
  have f_r_1 := B_r.frozen 1
  have f_r_2 := B_r.frozen 2
  have q_r := B_r.lt
  go_wp2_with fail
  refine callsNamed ?_
  intro p2 hp
  clear q_x_0 q_x_1 q_x_2 f_x_0 f_x_1 f_x_2 q_x q_r_0 q_r_1 q_r_2 f_r_0 f_r_1 f_r_2 q_r
  have O' : Old w p2 := (by rw [hp]; exact Below.trans (b := w1) O oldA)
  replace B_x : Bx p2 (w.heap.size) #[.bool (sgnZ z1), .slice A1 (len (magZ z1)) c1, .slice D1 (len d1) e1] := (by rw [hp]; repeat' (first | (with_reducible exact B_x) | (with_reducible refine Bx.alloc ?_ _) | (with_reducible refine Bx.drewN ?_ _) | (with_reducible refine Bx.drew ?_) | refine Bx.far ?_ (by first | assumption | (simp <;> done) | (simp; omega) | omega) _))
  replace B_r : Bx p2 (w.heap.size + 1) #[.bool false, .slice none 0 0, .slice none 0 0] := (by rw [hp]; repeat' (first | (with_reducible exact B_r) | (with_reducible refine Bx.alloc ?_ _) | (with_reducible refine Bx.drewN ?_ _) | (with_reducible refine Bx.drew ?_) | refine Bx.far ?_ (by first | assumption | (simp <;> done) | (simp; omega) | omega) _))
  have zp2 : w1.heap.size ≤ p2.heap.size := (by rw [hp]; exact leA)
  clear hp O
  have O := O'
  clear O'
  refine (plain_to (v' := .agg #[.bool (sgnZ (-z1)), .slice A1 (len (magZ (-z1))) c1, .slice D1 (len d1) e1]) (by rw [HMN.out]) (ratNeg_any z1 d1 A1 D1 c1 e1 l1 m1 _ (Row.below (B := w.heap.size) h1 O (Nat.le_refl _)))).mono ?_
  rintro e w2 ⟨rfl, o2⟩
  replace B_x := Bx.old B_x o2
  replace B_r := Bx.old B_r o2
  replace O := Old.trans O o2
  have zw2 := o2.size
  have q_x_0 := B_x.cell 0 rfl
  have q_x_1 := B_x.cell 1 rfl
  have q_x_2 := B_x.cell 2 rfl
  have f_x_0 := B_x.frozen 0
  have f_x_1 := B_x.frozen 1
  have f_x_2 := B_x.frozen 2
  have q_x := B_x.lt
  have q_r_0 := B_r.cell 0 rfl
  have q_r_1 := B_r.cell 1 rfl
  have q_r_2 := B_r.cell 2 rfl
  have f_r_0 := B_r.frozen 0
  have f_r_1 := B_r.frozen 1
  have f_r_2 := B_r.frozen 2
  have q_r := B_r.lt
  go_wp2_with fail
  refine callsNamed ?_
  intro p3 hp
  clear q_x_0 q_x_1 q_x_2 f_x_0 f_x_1 f_x_2 q_x q_r_0 q_r_1 q_r_2 f_r_0 f_r_1 f_r_2 q_r
  have O' : Old w p3 := (by rw [hp]; exact Below.trans (b := w2) O oldA)
  replace B_x : Bx p3 (w.heap.size) #[.bool (sgnZ z1), .slice A1 (len (magZ z1)) c1, .slice D1 (len d1) e1] := (by rw [hp]; repeat' (first | (with_reducible exact B_x) | (with_reducible refine Bx.alloc ?_ _) | (with_reducible refine Bx.drewN ?_ _) | (with_reducible refine Bx.drew ?_) | refine Bx.far ?_ (by first | assumption | (simp <;> done) | (simp; omega) | omega) _))
  replace B_r : Bx p3 (w.heap.size + 1) #[.bool false, .slice none 0 0, .slice none 0 0] := (by rw [hp]; repeat' (first | (with_reducible exact B_r) | (with_reducible refine Bx.alloc ?_ _) | (with_reducible refine Bx.drewN ?_ _) | (with_reducible refine Bx.drew ?_) | refine Bx.far ?_ (by first | assumption | (simp <;> done) | (simp; omega) | omega) _))
  have zp3 : w2.heap.size ≤ p3.heap.size := (by rw [hp]; exact leA)
  clear hp O
  have O := O'
  clear O'
  refine (ownRat_any (-z1) d1 A1 D1 c1 e1 l1 m1 _ (Row.below (B := w.heap.size) h1' O (Nat.le_refl _)) (Row.below (B := w.heap.size) k1 O (Nat.le_refl _)) N3.out).mono ?_
  rintro e w3 ⟨⟨z9, d9, A9, c9, D9, e9, hv, rfl, r9, s9, ap⟩, o3⟩
  replace B_x := Bx.old B_x o3
  replace B_r := Bx.old B_r o3
  replace O := Old.trans O o3
  have zw3 := o3.size
  replace r9 := Row.more (lo' := p3.heap.size) r9 leA
  replace s9 := Row.more (lo' := p3.heap.size) s9 leA
  have lim_r9 := Row.lim r9
  have lim_s9 := Row.lim s9
  have HV := Lib.hid hv
  have AP := Lib.hid ap
  clear hv ap
  have q_x_0 := B_x.cell 0 rfl
  have q_x_1 := B_x.cell 1 rfl
  have q_x_2 := B_x.cell 2 rfl
  have f_x_0 := B_x.frozen 0
  have f_x_1 := B_x.frozen 1
  have f_x_2 := B_x.frozen 2
  have q_x := B_x.lt
  have q_r_0 := B_r.cell 0 rfl
  have q_r_1 := B_r.cell 1 rfl
  have q_r_2 := B_r.cell 2 rfl
  have f_r_0 := B_r.frozen 0
  have f_r_1 := B_r.frozen 1
  have f_r_2 := B_r.frozen 2
  have q_r := B_r.lt
  go_wp2
  refine bodyPost_ret (v := .agg #[.bool (sgnZ z9), .slice A9 (len (magZ z9)) c9, .slice D9 (len d9) e9]) (by simp [results, Try.results58, go_sem, q_r_0, q_r_1, q_r_2]) rfl ⟨⟨z9, d9, A9, c9, D9, e9, HV.out, rfl, ?_, ?_, AP.out⟩, ?_⟩
  · refine Row.more (lo := p3.heap.size) ?_ leA
    repeat' (first | (with_reducible exact r9) | (with_reducible refine Row.far_set ?_ (by first | (simp <;> done) | (simp; omega) | omega) _))
  · refine Row.more (lo := p3.heap.size) ?_ leA
    repeat' (first | (with_reducible exact s9) | (with_reducible refine Row.far_set ?_ (by first | (simp <;> done) | (simp; omega) | omega) _))
  · exact Below.trans (b := w3) O oldA
set_option maxRecDepth 100000 in
set_option maxHeartbeats 1000000 in
theorem impl_RatNeg_no (b1 : Bool) (A1 : Option Addr) (n1 c1 l1 : Nat) (f1 : Nat → Int) (D1 : Option Addr) (m1 e1 u1 : Nat) (g1 : Nat → Int) (w : World) (h1 : Row w l1 A1 n1 c1 f1) (k1 : Row w u1 D1 m1 e1 g1) (hn1 : n1 ≤ 1048576) (hm1 : m1 ≤ 1048576) (q1 : ¬ okR b1 n1 f1 m1 g1) :
    Calls Try.prog 58 #[.agg #[.bool b1, .slice A1 n1 c1, .slice D1 m1 e1]] w fun e w' => RetR e w' w.heap.size ((0, 0)) ∧ Old w w' := by
  have Q1 := Lib.hid q1
  clear q1
  have O : Old w ((w.alloc (.cells #[.bool b1, .slice A1 n1 c1, .slice D1 m1 e1] 31)).alloc (.cells #[.bool false, .slice none 0 0, .slice none 0 0] 31)) := oldA
  have B_x : Bx ((w.alloc (.cells #[.bool b1, .slice A1 n1 c1, .slice D1 m1 e1] 31)).alloc (.cells #[.bool false, .slice none 0 0, .slice none 0 0] 31)) (w.heap.size) #[.bool b1, .slice A1 n1 c1, .slice D1 m1 e1] := by have h := (Bx.alloc (Bx.new w #[.bool b1, .slice A1 n1 c1, .slice D1 m1 e1] 31) (.cells #[.bool false, .slice none 0 0, .slice none 0 0] 31)); simpa using h
  have B_r : Bx ((w.alloc (.cells #[.bool b1, .slice A1 n1 c1, .slice D1 m1 e1] 31)).alloc (.cells #[.bool false, .slice none 0 0, .slice none 0 0] 31)) (w.heap.size + 1) #[.bool false, .slice none 0 0, .slice none 0 0] := by have h := (Bx.new (w.alloc (.cells #[.bool b1, .slice A1 n1 c1, .slice D1 m1 e1] 31)) #[.bool false, .slice none 0 0, .slice none 0 0] 31); simpa using h
  have ne_0_1 : ¬ (w.heap.size = w.heap.size + 1) := by omega
  have ne_1_0 : ¬ (w.heap.size + 1 = w.heap.size) := by omega
  have ze : w.heap.size + 2 ≤ ((w.alloc (.cells #[.bool b1, .slice A1 n1 c1, .slice D1 m1 e1] 31)).alloc (.cells #[.bool false, .slice none 0 0, .slice none 0 0] 31)).heap.size := (by simp)
  go_enter Try.func58, Try.ntmps58
  go_wp2_with fail
  refine callsNamed ?_
  intro p1 hp
  have O' : Old w p1 := (by rw [hp]; exact Below.trans (b := ((w.alloc (.cells #[.bool b1, .slice A1 n1 c1, .slice D1 m1 e1] 31)).alloc (.cells #[.bool false, .slice none 0 0, .slice none 0 0] 31))) O oldA)
  replace B_x : Bx p1 (w.heap.size) #[.bool b1, .slice A1 n1 c1, .slice D1 m1 e1] := (by rw [hp]; repeat' (first | (with_reducible exact B_x) | (with_reducible refine Bx.alloc ?_ _) | (with_reducible refine Bx.drewN ?_ _) | (with_reducible refine Bx.drew ?_) | refine Bx.far ?_ (by first | assumption | (simp <;> done) | (simp; omega) | omega) _))
  replace B_r : Bx p1 (w.heap.size + 1) #[.bool false, .slice none 0 0, .slice none 0 0] := (by rw [hp]; repeat' (first | (with_reducible exact B_r) | (with_reducible refine Bx.alloc ?_ _) | (with_reducible refine Bx.drewN ?_ _) | (with_reducible refine Bx.drew ?_) | refine Bx.far ?_ (by first | assumption | (simp <;> done) | (simp; omega) | omega) _))
  have zp1 : ((w.alloc (.cells #[.bool b1, .slice A1 n1 c1, .slice D1 m1 e1] 31)).alloc (.cells #[.bool false, .slice none 0 0, .slice none 0 0] 31)).heap.size ≤ p1.heap.size := (by rw [hp]; exact leA)
  clear hp O
  have O := O'
  clear O'
  refine (impl_RatOk_no b1 A1 n1 c1 l1 f1 D1 m1 e1 u1 g1 _ (Row.below (B := w.heap.size) h1 O (Nat.le_refl _)) (Row.below (B := w.heap.size) k1 O (Nat.le_refl _)) hn1 hm1 Q1.out).mono ?_
  rintro e w1 ⟨rfl, o1⟩
  replace B_x := Bx.old B_x o1
  replace B_r := Bx.old B_r o1
  replace O := Old.trans O o1
  have zw1 := o1.size
  have q_x_0 := B_x.cell 0 rfl
  have q_x_1 := B_x.cell 1 rfl
  have q_x_2 := B_x.cell 2 rfl
  have f_x_0 := B_x.frozen 0
  have f_x_1 := B_x.frozen 1
  have f_x_2 := B_x.frozen 2
  have q_x := B_x.lt
  have q_r_0 := B_r.cell 0 rfl
  have q_r_1 := B_r.cell 1 rfl
  have q_r_2 := B_r.cell 2 rfl
  have f_r_0 := B_r.frozen 0
  have f_r_1 := B_r.frozen 1
  have f_r_2 := B_r.frozen 2
  have q_r := B_r.lt
  go_wp2
  refine bodyPost_ret (v := .agg #[.bool false, .slice none 0 0, .slice none 0 0]) (by simp [results, Try.results58, go_sem, q_r_0, q_r_1, q_r_2]) rfl ⟨RetR.zero rfl, Below.trans (b := w1) O oldA⟩
theorem impl_RatNeg (b1 : Bool) (A1 : Option Addr) (n1 c1 l1 : Nat) (f1 : Nat → Int) (D1 : Option Addr) (m1 e1 u1 : Nat) (g1 : Nat → Int) (w : World) (h1 : Row w l1 A1 n1 c1 f1) (k1 : Row w u1 D1 m1 e1 g1) (hn1 : n1 ≤ 1048576) (hm1 : m1 ≤ 1048576) :
    Calls Try.prog 58 #[.agg #[.bool b1, .slice A1 n1 c1, .slice D1 m1 e1]] w fun e w' => RetR e w' w.heap.size (vRatNeg b1 n1 f1 m1 g1) ∧ Old w w' := by
  unfold vRatNeg
  by_cases q1 : okR b1 n1 f1 m1 g1
  · obtain ⟨z1, d1, e1', e2', e3', p1, nn1, v1, s1, s1'⟩ := okR_z q1 h1 k1
    rw [v1, e1', e2', e3']
    exact impl_RatNeg_yes z1 d1 A1 D1 c1 e1 l1 u1 w s1 s1' nn1 p1
  · rw [vR_no q1, show negF (0, 0) = (0, 0) from rfl]
    exact impl_RatNeg_no b1 A1 n1 c1 l1 f1 D1 m1 e1 u1 g1 w h1 k1 hn1 hm1 q1
theorem impl_RatNeg_v (z1 : Int) (d1 : Nat) (A1 D1 : Option Addr) (c1 e1 l1 m1 : Nat) (w : World) (h1 : NatS w l1 A1 c1 (magZ z1)) (k1 : NatS w m1 D1 e1 d1) (n1 : normF (z1, d1)) :
    Calls Try.prog 58 #[.agg #[.bool (sgnZ z1), .slice A1 (len (magZ z1)) c1, .slice D1 (len d1) e1]] w fun e w' => RetR e w' w.heap.size (negF (z1, d1)) ∧ Old w w' := by
  have hl1 := norm_len n1
  simp only at hl1
  have h := impl_RatNeg (sgnZ z1) A1 _ c1 l1 _ D1 _ e1 m1 _ w h1 k1 (by omega) (by omega)
  unfold vRatNeg at h
  rw [vR_val n1] at h
  exact h
end Go.Proofs.Ytnkeenejcpkelaa
