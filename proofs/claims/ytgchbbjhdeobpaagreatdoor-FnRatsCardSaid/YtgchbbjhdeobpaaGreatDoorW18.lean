import Derived.BigQuiet
import Derived.ChangeOld
import Derived.Deep.DeepCutAuto
import Derived.Deep.DrawnRows
import Derived.Deep.OwnRows
import Derived.Deep.QuietTactic
import Derived.Deep.RegionHeld3
import Derived.Deep.RegionWith
import Derived.Deep.Upon
import Derived.IntWalk
import Derived.JoinedOf
import Derived.KernelRfl
import Derived.Laws.FloatArith
import Derived.Lib.Hide
import Derived.Lib.SmallJoins
import Derived.Maps.AppendAt
import Derived.OpenShut
import Derived.ProofKit
import Derived.ShutString
import Derived.Test.YtgchbbjhdeobpaaGreatDoorRows
import Derived.WalkKit
import Derived.WalkLawsBesides
import Derived.WalkSpells
import Ieee.Arith
import Derived.Test.YtgchbbjhdeobpaaGreatDoorW1
import Derived.Test.YtgchbbjhdeobpaaGreatDoorW2
import Derived.Test.YtgchbbjhdeobpaaGreatDoorW3
import Derived.Test.YtgchbbjhdeobpaaGreatDoorW4
import Derived.Test.YtgchbbjhdeobpaaGreatDoorW5
import Derived.Test.YtgchbbjhdeobpaaGreatDoorW9
import Derived.Test.YtgchbbjhdeobpaaGreatDoorW11
import Derived.Test.YtgchbbjhdeobpaaGreatDoorW12
import Derived.Test.YtgchbbjhdeobpaaGreatDoorW14
import Derived.Test.YtgchbbjhdeobpaaGreatDoorW15
import Derived.Test.YtgchbbjhdeobpaaGreatDoorW16
import Derived.Test.YtgchbbjhdeobpaaGreatDoorW17
/- What the claim's proof reaches of: Step, RatCopyS, RatSubE, RatMinE, RatMaxE. -/
namespace Go.Proofs.YtgchbbjhdeobpaaGreatDoor
set_option linter.unusedVariables false
open Go.RowKit Num
/-- Block g is an empty row of ints. -/
def Own0 (w : World) (g : Nat) : Prop := w.heap[g]? = some (.cells #[] 3 (0, 0))
section
variable {w w' : World} {g : Nat}
theorem Own0.lt (h : Own0 w g) : g < w.heap.size := (Array.getElem?_eq_some_iff.1 h).1
theorem Own0.below {B : Nat} (h : Own0 w g) (hb : Below B w w') (hg : g < B) : Own0 w' g := (hb.block g hg).trans h
theorem Own0.old (h : Own0 w g) (hb : Old w w') : Own0 w' g := h.below hb h.lt
theorem Own0.new (w : World) : Own0 (w.alloc (.cells #[] 3)) w.heap.size := heap_alloc_new w _
theorem Own0.alloc (h : Own0 w g) (o : Obj) : Own0 (w.alloc o) g := (Below.heap_alloc w o g h.lt).trans h
theorem Own0.far (h : Own0 w g) {p : Addr} (hp : ¬ p.block = g) (u : Value) : Own0 (w.setCell p u) g := (Below.heap_setCell w p u g (fun e => hp e.symm)).trans h
theorem Own0.drewN (h : Own0 w g) (k : Nat) : Own0 (w.drewN k) g := h
theorem Own0.drew (h : Own0 w g) : Own0 w.drew g := h
theorem Own0.kept {row : Option Nat} (h : Own0 w g) (hg : w.grownBy w' row) (hne : some g ≠ row) : Own0 w' g := (hg.block g h.lt hne).trans h
end
end Go.Proofs.YtgchbbjhdeobpaaGreatDoor

namespace Go.Proofs.YtgchbbjhdeobpaaGreatDoor
set_option linter.unusedVariables false
open Go.RowKit Num
attribute [local go_sem ↓] Go.wp_at_zero Go.wp_at_succ
end Go.Proofs.YtgchbbjhdeobpaaGreatDoor

namespace Go.Proofs.YtgchbbjhdeobpaaGreatDoor
set_option linter.unusedVariables false
open Go.RowKit Num
attribute [local go_sem ↓] Go.wp_at_zero Go.wp_at_succ
noncomputable def vRatSub (b1 : Bool) (n1 : Nat) (f1 : Nat → Int) (m1 : Nat) (g1 : Nat → Int) (b2 : Bool) (n2 : Nat) (f2 : Nat → Int) (m2 : Nat) (g2 : Nat → Int) : Fr := subF (vR b1 n1 f1 m1 g1) (vR b2 n2 f2 m2 g2)
set_option maxRecDepth 100000 in
set_option maxHeartbeats 1000000 in
theorem impl_RatSub_yes (z1 : Int) (d1 : Nat) (A1 D1 : Option Addr) (c1 e1 l1 m1 : Nat) (z2 : Int) (d2 : Nat) (A2 D2 : Option Addr) (c2 e2 l2 m2 : Nat) (w : World) (h1 : NatS w l1 A1 c1 (magZ z1)) (k1 : NatS w m1 D1 e1 d1) (n1 : normF (z1, d1)) (h2 : NatS w l2 A2 c2 (magZ z2)) (k2 : NatS w m2 D2 e2 d2) (n2 : normF (z2, d2)) (p1 : 0 < d1) (p2 : 0 < d2)  :
    Calls Tryz.prog 13 #[.agg #[.bool (sgnZ z1), .slice A1 (len (magZ z1)) c1, .slice D1 (len d1) e1], .agg #[.bool (sgnZ z2), .slice A2 (len (magZ z2)) c2, .slice D2 (len d2) e2]] w fun e w' => RetR e w' w.heap.size (subF (z1, d1) (z2, d2)) ∧ Old w w' := by
  have N1 := Lib.hid n1
  have LN1 := norm_len n1
  have La1 : len (magZ z1) ≤ 24 := LN1.1
  have Lb1 : len d1 ≤ 24 := LN1.2
  clear n1 LN1
  have N2 := Lib.hid n2
  have LN2 := norm_len n2
  have La2 : len (magZ z2) ≤ 24 := LN2.1
  have Lb2 : len d2 ≤ 24 := LN2.2
  clear n2 LN2
  skip
  have P1 := Lib.hid p1
  have P2 := Lib.hid p2
  clear p1 p2
  have O : Old w (((w.alloc (.cells #[.bool (sgnZ z1), .slice A1 (len (magZ z1)) c1, .slice D1 (len d1) e1] 26)).alloc (.cells #[.bool (sgnZ z2), .slice A2 (len (magZ z2)) c2, .slice D2 (len d2) e2] 26)).alloc (.cells #[.bool false, .slice none 0 0, .slice none 0 0] 26)) := oldA
  have B_x : Bx (((w.alloc (.cells #[.bool (sgnZ z1), .slice A1 (len (magZ z1)) c1, .slice D1 (len d1) e1] 26)).alloc (.cells #[.bool (sgnZ z2), .slice A2 (len (magZ z2)) c2, .slice D2 (len d2) e2] 26)).alloc (.cells #[.bool false, .slice none 0 0, .slice none 0 0] 26)) (w.heap.size) #[.bool (sgnZ z1), .slice A1 (len (magZ z1)) c1, .slice D1 (len d1) e1] := by have h := (Bx.alloc (Bx.alloc (Bx.new w #[.bool (sgnZ z1), .slice A1 (len (magZ z1)) c1, .slice D1 (len d1) e1] 26) (.cells #[.bool (sgnZ z2), .slice A2 (len (magZ z2)) c2, .slice D2 (len d2) e2] 26)) (.cells #[.bool false, .slice none 0 0, .slice none 0 0] 26)); simpa using h
  have B_y : Bx (((w.alloc (.cells #[.bool (sgnZ z1), .slice A1 (len (magZ z1)) c1, .slice D1 (len d1) e1] 26)).alloc (.cells #[.bool (sgnZ z2), .slice A2 (len (magZ z2)) c2, .slice D2 (len d2) e2] 26)).alloc (.cells #[.bool false, .slice none 0 0, .slice none 0 0] 26)) (w.heap.size + 1) #[.bool (sgnZ z2), .slice A2 (len (magZ z2)) c2, .slice D2 (len d2) e2] := by have h := (Bx.alloc (Bx.new (w.alloc (.cells #[.bool (sgnZ z1), .slice A1 (len (magZ z1)) c1, .slice D1 (len d1) e1] 26)) #[.bool (sgnZ z2), .slice A2 (len (magZ z2)) c2, .slice D2 (len d2) e2] 26) (.cells #[.bool false, .slice none 0 0, .slice none 0 0] 26)); simpa using h
  have B_r : Bx (((w.alloc (.cells #[.bool (sgnZ z1), .slice A1 (len (magZ z1)) c1, .slice D1 (len d1) e1] 26)).alloc (.cells #[.bool (sgnZ z2), .slice A2 (len (magZ z2)) c2, .slice D2 (len d2) e2] 26)).alloc (.cells #[.bool false, .slice none 0 0, .slice none 0 0] 26)) (w.heap.size + 1 + 1) #[.bool false, .slice none 0 0, .slice none 0 0] := by have h := (Bx.new ((w.alloc (.cells #[.bool (sgnZ z1), .slice A1 (len (magZ z1)) c1, .slice D1 (len d1) e1] 26)).alloc (.cells #[.bool (sgnZ z2), .slice A2 (len (magZ z2)) c2, .slice D2 (len d2) e2] 26)) #[.bool false, .slice none 0 0, .slice none 0 0] 26); simpa using h
  have ne_0_1 : ¬ (w.heap.size = w.heap.size + 1) := by omega
  have ne_0_2 : ¬ (w.heap.size = w.heap.size + 1 + 1) := by omega
  have ne_1_0 : ¬ (w.heap.size + 1 = w.heap.size) := by omega
  have ne_1_2 : ¬ (w.heap.size + 1 = w.heap.size + 1 + 1) := by omega
  have ne_2_0 : ¬ (w.heap.size + 1 + 1 = w.heap.size) := by omega
  have ne_2_1 : ¬ (w.heap.size + 1 + 1 = w.heap.size + 1) := by omega
  have ze : w.heap.size + 3 ≤ (((w.alloc (.cells #[.bool (sgnZ z1), .slice A1 (len (magZ z1)) c1, .slice D1 (len d1) e1] 26)).alloc (.cells #[.bool (sgnZ z2), .slice A2 (len (magZ z2)) c2, .slice D2 (len d2) e2] 26)).alloc (.cells #[.bool false, .slice none 0 0, .slice none 0 0] 26)).heap.size := (by simp)
  go_enter Tryz.func13, Tryz.ntmps13
  go_wp2_with fail
  refine callsNamed ?_
  intro p1 hp
  have O' : Old w p1 := (by rw [hp]; exact Below.trans (b := (((w.alloc (.cells #[.bool (sgnZ z1), .slice A1 (len (magZ z1)) c1, .slice D1 (len d1) e1] 26)).alloc (.cells #[.bool (sgnZ z2), .slice A2 (len (magZ z2)) c2, .slice D2 (len d2) e2] 26)).alloc (.cells #[.bool false, .slice none 0 0, .slice none 0 0] 26))) O oldA)
  replace B_x : Bx p1 (w.heap.size) #[.bool (sgnZ z1), .slice A1 (len (magZ z1)) c1, .slice D1 (len d1) e1] := (bxK B_x hp)
  replace B_y : Bx p1 (w.heap.size + 1) #[.bool (sgnZ z2), .slice A2 (len (magZ z2)) c2, .slice D2 (len d2) e2] := (bxK B_y hp)
  replace B_r : Bx p1 (w.heap.size + 1 + 1) #[.bool false, .slice none 0 0, .slice none 0 0] := (bxK B_r hp)
  have zp1 : (((w.alloc (.cells #[.bool (sgnZ z1), .slice A1 (len (magZ z1)) c1, .slice D1 (len d1) e1] 26)).alloc (.cells #[.bool (sgnZ z2), .slice A2 (len (magZ z2)) c2, .slice D2 (len d2) e2] 26)).alloc (.cells #[.bool false, .slice none 0 0, .slice none 0 0] 26)).heap.size ≤ p1.heap.size := (by rw [hp]; exact leA)
  clear hp O
  have O := O'
  clear O'
  refine (areRats_yes z1 d1 A1 D1 c1 e1 l1 m1 z2 d2 A2 D2 c2 e2 l2 m2 _ (Row.below (B := w.heap.size) h1 O (Nat.le_refl _)) (Row.below (B := w.heap.size) k1 O (Nat.le_refl _)) N1.out (Row.below (B := w.heap.size) h2 O (Nat.le_refl _)) (Row.below (B := w.heap.size) k2 O (Nat.le_refl _)) N2.out P1.out P2.out).mono ?_
  rintro e w1 ⟨rfl, o1⟩
  replace B_x := Bx.old B_x o1
  replace B_y := Bx.old B_y o1
  replace B_r := Bx.old B_r o1
  replace O := Old.trans O o1
  have zw1 := o1.size
  obtain ⟨q_x_0, q_x_1, q_x_2, f_x_0, f_x_1, f_x_2, q_x⟩ := B_x.all3
  obtain ⟨q_y_0, q_y_1, q_y_2, f_y_0, f_y_1, f_y_2, q_y⟩ := B_y.all3
  obtain ⟨q_r_0, q_r_1, q_r_2, f_r_0, f_r_1, f_r_2, q_r⟩ := B_r.all3
  go_wp2_with fail
  refine callsNamed ?_
  intro p2 hp
  clear q_x_0 q_x_1 q_x_2 f_x_0 f_x_1 f_x_2 q_x q_y_0 q_y_1 q_y_2 f_y_0 f_y_1 f_y_2 q_y q_r_0 q_r_1 q_r_2 f_r_0 f_r_1 f_r_2 q_r
  have O' : Old w p2 := (by rw [hp]; exact Below.trans (b := w1) O oldA)
  replace B_x : Bx p2 (w.heap.size) #[.bool (sgnZ z1), .slice A1 (len (magZ z1)) c1, .slice D1 (len d1) e1] := (bxK B_x hp)
  replace B_y : Bx p2 (w.heap.size + 1) #[.bool (sgnZ z2), .slice A2 (len (magZ z2)) c2, .slice D2 (len d2) e2] := (bxK B_y hp)
  replace B_r : Bx p2 (w.heap.size + 1 + 1) #[.bool false, .slice none 0 0, .slice none 0 0] := (bxK B_r hp)
  have zp2 : w1.heap.size ≤ p2.heap.size := (by rw [hp]; exact leA)
  clear hp O
  have O := O'
  clear O'
  refine (ratSub_any z1 d1 A1 D1 c1 e1 l1 m1 z2 d2 A2 D2 c2 e2 l2 m2 _ (Row.below (B := w.heap.size) h1 O (Nat.le_refl _)) (Row.below (B := w.heap.size) k1 O (Nat.le_refl _)) N1.out (Row.below (B := w.heap.size) h2 O (Nat.le_refl _)) (Row.below (B := w.heap.size) k2 O (Nat.le_refl _)) N2.out).mono ?_
  rintro e w2 ⟨⟨z9, d9, A9, c9, D9, e9, hv, rfl, r9, s9, ap⟩, o2⟩
  replace B_x := Bx.old B_x o2
  replace B_y := Bx.old B_y o2
  replace B_r := Bx.old B_r o2
  replace O := Old.trans O o2
  have zw2 := o2.size
  replace r9 := Row.more (lo' := p2.heap.size) r9 leA
  replace s9 := Row.more (lo' := p2.heap.size) s9 leA
  have lim_r9 := Row.lim r9
  have lim_s9 := Row.lim s9
  have HV := Lib.hid hv
  have AP := Lib.hid ap
  clear hv ap
  obtain ⟨q_x_0, q_x_1, q_x_2, f_x_0, f_x_1, f_x_2, q_x⟩ := B_x.all3
  obtain ⟨q_y_0, q_y_1, q_y_2, f_y_0, f_y_1, f_y_2, q_y⟩ := B_y.all3
  obtain ⟨q_r_0, q_r_1, q_r_2, f_r_0, f_r_1, f_r_2, q_r⟩ := B_r.all3
  go_wp2
  refine bodyPost_ret (v := .agg #[.bool (sgnZ z9), .slice A9 (len (magZ z9)) c9, .slice D9 (len d9) e9]) (by simp [results, Tryz.results13, go_sem, q_r_0, q_r_1, q_r_2]) rfl ⟨⟨z9, d9, A9, c9, D9, e9, HV.out, rfl, ?_, ?_, AP.out⟩, ?_⟩
  · refine Row.more (lo := p2.heap.size) ?_ leA
    repeat' (first | (with_reducible exact r9) | (with_reducible refine Row.far_set ?_ (by first | (simp <;> done) | (simp; omega) | omega) _))
  · refine Row.more (lo := p2.heap.size) ?_ leA
    repeat' (first | (with_reducible exact s9) | (with_reducible refine Row.far_set ?_ (by first | (simp <;> done) | (simp; omega) | omega) _))
  · exact Below.trans (b := w2) O oldA
set_option maxRecDepth 100000 in
set_option maxHeartbeats 1000000 in
theorem impl_RatSub_no1 (b1 : Bool) (A1 : Option Addr) (n1 c1 l1 : Nat) (f1 : Nat → Int) (D1 : Option Addr) (m1 e1 u1 : Nat) (g1 : Nat → Int) (b2 : Bool) (A2 : Option Addr) (n2 c2 l2 : Nat) (f2 : Nat → Int) (D2 : Option Addr) (m2 e2 u2 : Nat) (g2 : Nat → Int) (w : World) (h1 : Row w l1 A1 n1 c1 f1) (k1 : Row w u1 D1 m1 e1 g1) (hn1 : n1 ≤ 1048576) (hm1 : m1 ≤ 1048576) (q1 : ¬ okR b1 n1 f1 m1 g1) :
    Calls Tryz.prog 13 #[.agg #[.bool b1, .slice A1 n1 c1, .slice D1 m1 e1], .agg #[.bool b2, .slice A2 n2 c2, .slice D2 m2 e2]] w fun e w' => RetR e w' w.heap.size ((0, 0)) ∧ Old w w' := by
  have Q1 := Lib.hid q1
  clear q1
  have O : Old w (((w.alloc (.cells #[.bool b1, .slice A1 n1 c1, .slice D1 m1 e1] 26)).alloc (.cells #[.bool b2, .slice A2 n2 c2, .slice D2 m2 e2] 26)).alloc (.cells #[.bool false, .slice none 0 0, .slice none 0 0] 26)) := oldA
  have B_x : Bx (((w.alloc (.cells #[.bool b1, .slice A1 n1 c1, .slice D1 m1 e1] 26)).alloc (.cells #[.bool b2, .slice A2 n2 c2, .slice D2 m2 e2] 26)).alloc (.cells #[.bool false, .slice none 0 0, .slice none 0 0] 26)) (w.heap.size) #[.bool b1, .slice A1 n1 c1, .slice D1 m1 e1] := by have h := (Bx.alloc (Bx.alloc (Bx.new w #[.bool b1, .slice A1 n1 c1, .slice D1 m1 e1] 26) (.cells #[.bool b2, .slice A2 n2 c2, .slice D2 m2 e2] 26)) (.cells #[.bool false, .slice none 0 0, .slice none 0 0] 26)); simpa using h
  have B_y : Bx (((w.alloc (.cells #[.bool b1, .slice A1 n1 c1, .slice D1 m1 e1] 26)).alloc (.cells #[.bool b2, .slice A2 n2 c2, .slice D2 m2 e2] 26)).alloc (.cells #[.bool false, .slice none 0 0, .slice none 0 0] 26)) (w.heap.size + 1) #[.bool b2, .slice A2 n2 c2, .slice D2 m2 e2] := by have h := (Bx.alloc (Bx.new (w.alloc (.cells #[.bool b1, .slice A1 n1 c1, .slice D1 m1 e1] 26)) #[.bool b2, .slice A2 n2 c2, .slice D2 m2 e2] 26) (.cells #[.bool false, .slice none 0 0, .slice none 0 0] 26)); simpa using h
  have B_r : Bx (((w.alloc (.cells #[.bool b1, .slice A1 n1 c1, .slice D1 m1 e1] 26)).alloc (.cells #[.bool b2, .slice A2 n2 c2, .slice D2 m2 e2] 26)).alloc (.cells #[.bool false, .slice none 0 0, .slice none 0 0] 26)) (w.heap.size + 1 + 1) #[.bool false, .slice none 0 0, .slice none 0 0] := by have h := (Bx.new ((w.alloc (.cells #[.bool b1, .slice A1 n1 c1, .slice D1 m1 e1] 26)).alloc (.cells #[.bool b2, .slice A2 n2 c2, .slice D2 m2 e2] 26)) #[.bool false, .slice none 0 0, .slice none 0 0] 26); simpa using h
  have ne_0_1 : ¬ (w.heap.size = w.heap.size + 1) := by omega
  have ne_0_2 : ¬ (w.heap.size = w.heap.size + 1 + 1) := by omega
  have ne_1_0 : ¬ (w.heap.size + 1 = w.heap.size) := by omega
  have ne_1_2 : ¬ (w.heap.size + 1 = w.heap.size + 1 + 1) := by omega
  have ne_2_0 : ¬ (w.heap.size + 1 + 1 = w.heap.size) := by omega
  have ne_2_1 : ¬ (w.heap.size + 1 + 1 = w.heap.size + 1) := by omega
  have ze : w.heap.size + 3 ≤ (((w.alloc (.cells #[.bool b1, .slice A1 n1 c1, .slice D1 m1 e1] 26)).alloc (.cells #[.bool b2, .slice A2 n2 c2, .slice D2 m2 e2] 26)).alloc (.cells #[.bool false, .slice none 0 0, .slice none 0 0] 26)).heap.size := (by simp)
  go_enter Tryz.func13, Tryz.ntmps13
  go_wp2_with fail
  refine callsNamed ?_
  intro p1 hp
  have O' : Old w p1 := (by rw [hp]; exact Below.trans (b := (((w.alloc (.cells #[.bool b1, .slice A1 n1 c1, .slice D1 m1 e1] 26)).alloc (.cells #[.bool b2, .slice A2 n2 c2, .slice D2 m2 e2] 26)).alloc (.cells #[.bool false, .slice none 0 0, .slice none 0 0] 26))) O oldA)
  replace B_x : Bx p1 (w.heap.size) #[.bool b1, .slice A1 n1 c1, .slice D1 m1 e1] := (bxK B_x hp)
  replace B_y : Bx p1 (w.heap.size + 1) #[.bool b2, .slice A2 n2 c2, .slice D2 m2 e2] := (bxK B_y hp)
  replace B_r : Bx p1 (w.heap.size + 1 + 1) #[.bool false, .slice none 0 0, .slice none 0 0] := (bxK B_r hp)
  have zp1 : (((w.alloc (.cells #[.bool b1, .slice A1 n1 c1, .slice D1 m1 e1] 26)).alloc (.cells #[.bool b2, .slice A2 n2 c2, .slice D2 m2 e2] 26)).alloc (.cells #[.bool false, .slice none 0 0, .slice none 0 0] 26)).heap.size ≤ p1.heap.size := (by rw [hp]; exact leA)
  clear hp O
  have O := O'
  clear O'
  refine (areRats_no1 b1 A1 n1 c1 l1 f1 D1 m1 e1 u1 g1 b2 A2 n2 c2 l2 f2 D2 m2 e2 u2 g2 _ (Row.below (B := w.heap.size) h1 O (Nat.le_refl _)) (Row.below (B := w.heap.size) k1 O (Nat.le_refl _)) hn1 hm1 Q1.out).mono ?_
  rintro e w1 ⟨rfl, o1⟩
  replace B_x := Bx.old B_x o1
  replace B_y := Bx.old B_y o1
  replace B_r := Bx.old B_r o1
  replace O := Old.trans O o1
  have zw1 := o1.size
  obtain ⟨q_x_0, q_x_1, q_x_2, f_x_0, f_x_1, f_x_2, q_x⟩ := B_x.all3
  obtain ⟨q_y_0, q_y_1, q_y_2, f_y_0, f_y_1, f_y_2, q_y⟩ := B_y.all3
  obtain ⟨q_r_0, q_r_1, q_r_2, f_r_0, f_r_1, f_r_2, q_r⟩ := B_r.all3
  go_wp2
  refine bodyPost_ret (v := .agg #[.bool false, .slice none 0 0, .slice none 0 0]) (by simp [results, Tryz.results13, go_sem, q_r_0, q_r_1, q_r_2]) rfl ⟨RetR.zero rfl, Below.trans (b := w1) O oldA⟩
set_option maxRecDepth 100000 in
set_option maxHeartbeats 1000000 in
theorem impl_RatSub_no2 (z1 : Int) (d1 : Nat) (A1 D1 : Option Addr) (c1 e1 l1 m1 : Nat) (b2 : Bool) (A2 : Option Addr) (n2 c2 l2 : Nat) (f2 : Nat → Int) (D2 : Option Addr) (m2 e2 u2 : Nat) (g2 : Nat → Int) (w : World) (h1 : NatS w l1 A1 c1 (magZ z1)) (k1 : NatS w m1 D1 e1 d1) (n1 : normF (z1, d1)) (p1 : 0 < d1) (h2 : Row w l2 A2 n2 c2 f2) (k2 : Row w u2 D2 m2 e2 g2) (hn2 : n2 ≤ 1048576) (hm2 : m2 ≤ 1048576) (q2 : ¬ okR b2 n2 f2 m2 g2) :
    Calls Tryz.prog 13 #[.agg #[.bool (sgnZ z1), .slice A1 (len (magZ z1)) c1, .slice D1 (len d1) e1], .agg #[.bool b2, .slice A2 n2 c2, .slice D2 m2 e2]] w fun e w' => RetR e w' w.heap.size ((0, 0)) ∧ Old w w' := by
  have N1 := Lib.hid n1
  have LN1 := norm_len n1
  have La1 : len (magZ z1) ≤ 24 := LN1.1
  have Lb1 : len d1 ≤ 24 := LN1.2
  clear n1 LN1
  have Q2 := Lib.hid q2
  have P1 := Lib.hid p1
  clear q2 p1
  have O : Old w (((w.alloc (.cells #[.bool (sgnZ z1), .slice A1 (len (magZ z1)) c1, .slice D1 (len d1) e1] 26)).alloc (.cells #[.bool b2, .slice A2 n2 c2, .slice D2 m2 e2] 26)).alloc (.cells #[.bool false, .slice none 0 0, .slice none 0 0] 26)) := oldA
  have B_x : Bx (((w.alloc (.cells #[.bool (sgnZ z1), .slice A1 (len (magZ z1)) c1, .slice D1 (len d1) e1] 26)).alloc (.cells #[.bool b2, .slice A2 n2 c2, .slice D2 m2 e2] 26)).alloc (.cells #[.bool false, .slice none 0 0, .slice none 0 0] 26)) (w.heap.size) #[.bool (sgnZ z1), .slice A1 (len (magZ z1)) c1, .slice D1 (len d1) e1] := by have h := (Bx.alloc (Bx.alloc (Bx.new w #[.bool (sgnZ z1), .slice A1 (len (magZ z1)) c1, .slice D1 (len d1) e1] 26) (.cells #[.bool b2, .slice A2 n2 c2, .slice D2 m2 e2] 26)) (.cells #[.bool false, .slice none 0 0, .slice none 0 0] 26)); simpa using h
  have B_y : Bx (((w.alloc (.cells #[.bool (sgnZ z1), .slice A1 (len (magZ z1)) c1, .slice D1 (len d1) e1] 26)).alloc (.cells #[.bool b2, .slice A2 n2 c2, .slice D2 m2 e2] 26)).alloc (.cells #[.bool false, .slice none 0 0, .slice none 0 0] 26)) (w.heap.size + 1) #[.bool b2, .slice A2 n2 c2, .slice D2 m2 e2] := by have h := (Bx.alloc (Bx.new (w.alloc (.cells #[.bool (sgnZ z1), .slice A1 (len (magZ z1)) c1, .slice D1 (len d1) e1] 26)) #[.bool b2, .slice A2 n2 c2, .slice D2 m2 e2] 26) (.cells #[.bool false, .slice none 0 0, .slice none 0 0] 26)); simpa using h
  have B_r : Bx (((w.alloc (.cells #[.bool (sgnZ z1), .slice A1 (len (magZ z1)) c1, .slice D1 (len d1) e1] 26)).alloc (.cells #[.bool b2, .slice A2 n2 c2, .slice D2 m2 e2] 26)).alloc (.cells #[.bool false, .slice none 0 0, .slice none 0 0] 26)) (w.heap.size + 1 + 1) #[.bool false, .slice none 0 0, .slice none 0 0] := by have h := (Bx.new ((w.alloc (.cells #[.bool (sgnZ z1), .slice A1 (len (magZ z1)) c1, .slice D1 (len d1) e1] 26)).alloc (.cells #[.bool b2, .slice A2 n2 c2, .slice D2 m2 e2] 26)) #[.bool false, .slice none 0 0, .slice none 0 0] 26); simpa using h
  have ne_0_1 : ¬ (w.heap.size = w.heap.size + 1) := by omega
  have ne_0_2 : ¬ (w.heap.size = w.heap.size + 1 + 1) := by omega
  have ne_1_0 : ¬ (w.heap.size + 1 = w.heap.size) := by omega
  have ne_1_2 : ¬ (w.heap.size + 1 = w.heap.size + 1 + 1) := by omega
  have ne_2_0 : ¬ (w.heap.size + 1 + 1 = w.heap.size) := by omega
  have ne_2_1 : ¬ (w.heap.size + 1 + 1 = w.heap.size + 1) := by omega
  have ze : w.heap.size + 3 ≤ (((w.alloc (.cells #[.bool (sgnZ z1), .slice A1 (len (magZ z1)) c1, .slice D1 (len d1) e1] 26)).alloc (.cells #[.bool b2, .slice A2 n2 c2, .slice D2 m2 e2] 26)).alloc (.cells #[.bool false, .slice none 0 0, .slice none 0 0] 26)).heap.size := (by simp)
  go_enter Tryz.func13, Tryz.ntmps13
  go_wp2_with fail
  refine callsNamed ?_
  intro p1 hp
  have O' : Old w p1 := (by rw [hp]; exact Below.trans (b := (((w.alloc (.cells #[.bool (sgnZ z1), .slice A1 (len (magZ z1)) c1, .slice D1 (len d1) e1] 26)).alloc (.cells #[.bool b2, .slice A2 n2 c2, .slice D2 m2 e2] 26)).alloc (.cells #[.bool false, .slice none 0 0, .slice none 0 0] 26))) O oldA)
  replace B_x : Bx p1 (w.heap.size) #[.bool (sgnZ z1), .slice A1 (len (magZ z1)) c1, .slice D1 (len d1) e1] := (bxK B_x hp)
  replace B_y : Bx p1 (w.heap.size + 1) #[.bool b2, .slice A2 n2 c2, .slice D2 m2 e2] := (bxK B_y hp)
  replace B_r : Bx p1 (w.heap.size + 1 + 1) #[.bool false, .slice none 0 0, .slice none 0 0] := (bxK B_r hp)
  have zp1 : (((w.alloc (.cells #[.bool (sgnZ z1), .slice A1 (len (magZ z1)) c1, .slice D1 (len d1) e1] 26)).alloc (.cells #[.bool b2, .slice A2 n2 c2, .slice D2 m2 e2] 26)).alloc (.cells #[.bool false, .slice none 0 0, .slice none 0 0] 26)).heap.size ≤ p1.heap.size := (by rw [hp]; exact leA)
  clear hp O
  have O := O'
  clear O'
  refine (areRats_no2 z1 d1 A1 D1 c1 e1 l1 m1 b2 A2 n2 c2 l2 f2 D2 m2 e2 u2 g2 _ (Row.below (B := w.heap.size) h1 O (Nat.le_refl _)) (Row.below (B := w.heap.size) k1 O (Nat.le_refl _)) N1.out P1.out (Row.below (B := w.heap.size) h2 O (Nat.le_refl _)) (Row.below (B := w.heap.size) k2 O (Nat.le_refl _)) hn2 hm2 Q2.out).mono ?_
  rintro e w1 ⟨rfl, o1⟩
  replace B_x := Bx.old B_x o1
  replace B_y := Bx.old B_y o1
  replace B_r := Bx.old B_r o1
  replace O := Old.trans O o1
  have zw1 := o1.size
  obtain ⟨q_x_0, q_x_1, q_x_2, f_x_0, f_x_1, f_x_2, q_x⟩ := B_x.all3
  obtain ⟨q_y_0, q_y_1, q_y_2, f_y_0, f_y_1, f_y_2, q_y⟩ := B_y.all3
  obtain ⟨q_r_0, q_r_1, q_r_2, f_r_0, f_r_1, f_r_2, q_r⟩ := B_r.all3
  go_wp2
  refine bodyPost_ret (v := .agg #[.bool false, .slice none 0 0, .slice none 0 0]) (by simp [results, Tryz.results13, go_sem, q_r_0, q_r_1, q_r_2]) rfl ⟨RetR.zero rfl, Below.trans (b := w1) O oldA⟩
theorem impl_RatSub (b1 : Bool) (A1 : Option Addr) (n1 c1 l1 : Nat) (f1 : Nat → Int) (D1 : Option Addr) (m1 e1 u1 : Nat) (g1 : Nat → Int) (b2 : Bool) (A2 : Option Addr) (n2 c2 l2 : Nat) (f2 : Nat → Int) (D2 : Option Addr) (m2 e2 u2 : Nat) (g2 : Nat → Int) (w : World) (h1 : Row w l1 A1 n1 c1 f1) (k1 : Row w u1 D1 m1 e1 g1) (h2 : Row w l2 A2 n2 c2 f2) (k2 : Row w u2 D2 m2 e2 g2) (hn1 : n1 ≤ 1048576) (hm1 : m1 ≤ 1048576) (hn2 : n2 ≤ 1048576) (hm2 : m2 ≤ 1048576) :
    Calls Tryz.prog 13 #[.agg #[.bool b1, .slice A1 n1 c1, .slice D1 m1 e1], .agg #[.bool b2, .slice A2 n2 c2, .slice D2 m2 e2]] w fun e w' => RetR e w' w.heap.size (vRatSub b1 n1 f1 m1 g1 b2 n2 f2 m2 g2) ∧ Old w w' := by
  unfold vRatSub
  by_cases q1 : okR b1 n1 f1 m1 g1
  · obtain ⟨z1, d1, e1', e2', e3', p1, nn1, v1, s1, s1'⟩ := okR_z q1 h1 k1
    by_cases q2 : okR b2 n2 f2 m2 g2
    · obtain ⟨z2, d2, e4', e5', e6', p2, nn2, v2, s2, s2'⟩ := okR_z q2 h2 k2
      rw [v1, v2, e1', e2', e3', e4', e5', e6']
      exact impl_RatSub_yes z1 d1 A1 D1 c1 e1 l1 u1 z2 d2 A2 D2 c2 e2 l2 u2 w s1 s1' nn1 s2 s2' nn2 p1 p2
    · rw [vR_no q2, subF_no2 rfl, e1', e2', e3']
      exact impl_RatSub_no2 z1 d1 A1 D1 c1 e1 l1 u1 b2 A2 n2 c2 l2 f2 D2 m2 e2 u2 g2 w s1 s1' nn1 p1 h2 k2 hn2 hm2 q2
  · rw [vR_no q1, subF_no1 rfl]
    exact impl_RatSub_no1 b1 A1 n1 c1 l1 f1 D1 m1 e1 u1 g1 b2 A2 n2 c2 l2 f2 D2 m2 e2 u2 g2 w h1 k1 hn1 hm1 q1
theorem impl_RatSub_v (z1 : Int) (d1 : Nat) (A1 D1 : Option Addr) (c1 e1 l1 m1 : Nat) (z2 : Int) (d2 : Nat) (A2 D2 : Option Addr) (c2 e2 l2 m2 : Nat) (w : World) (h1 : NatS w l1 A1 c1 (magZ z1)) (k1 : NatS w m1 D1 e1 d1) (n1 : normF (z1, d1)) (h2 : NatS w l2 A2 c2 (magZ z2)) (k2 : NatS w m2 D2 e2 d2) (n2 : normF (z2, d2)) :
    Calls Tryz.prog 13 #[.agg #[.bool (sgnZ z1), .slice A1 (len (magZ z1)) c1, .slice D1 (len d1) e1], .agg #[.bool (sgnZ z2), .slice A2 (len (magZ z2)) c2, .slice D2 (len d2) e2]] w fun e w' => RetR e w' w.heap.size (subF (z1, d1) (z2, d2)) ∧ Old w w' := by
  have hl1 := norm_len n1
  have hl2 := norm_len n2
  simp only at hl1 hl2
  have h := impl_RatSub (sgnZ z1) A1 _ c1 l1 _ D1 _ e1 m1 _ (sgnZ z2) A2 _ c2 l2 _ D2 _ e2 m2 _ w h1 k1 h2 k2 (by omega) (by omega) (by omega) (by omega)
  unfold vRatSub at h
  rw [vR_val n1, vR_val n2] at h
  exact h
end Go.Proofs.YtgchbbjhdeobpaaGreatDoor

namespace Go.Proofs.YtgchbbjhdeobpaaGreatDoor
set_option linter.unusedVariables false
open Go.RowKit Num
attribute [local go_sem ↓] Go.wp_at_zero Go.wp_at_succ
noncomputable def vRatMin (b1 : Bool) (n1 : Nat) (f1 : Nat → Int) (m1 : Nat) (g1 : Nat → Int) (b2 : Bool) (n2 : Nat) (f2 : Nat → Int) (m2 : Nat) (g2 : Nat → Int) : Fr := minF (vR b1 n1 f1 m1 g1) (vR b2 n2 f2 m2 g2)
set_option maxRecDepth 100000 in
set_option maxHeartbeats 1000000 in
theorem impl_RatMin_one (z1 : Int) (d1 : Nat) (A1 D1 : Option Addr) (c1 e1 l1 m1 : Nat) (z2 : Int) (d2 : Nat) (A2 D2 : Option Addr) (c2 e2 l2 m2 : Nat) (w : World) (h1 : NatS w l1 A1 c1 (magZ z1)) (k1 : NatS w m1 D1 e1 d1) (n1 : normF (z1, d1)) (h2 : NatS w l2 A2 c2 (magZ z2)) (k2 : NatS w m2 D2 e2 d2) (n2 : normF (z2, d2)) (p1 : 0 < d1) (p2 : 0 < d2) (hc : cmpF (z1, d1) (z2, d2) ≤ 0) :
    Calls Tryz.prog 17 #[.agg #[.bool (sgnZ z1), .slice A1 (len (magZ z1)) c1, .slice D1 (len d1) e1], .agg #[.bool (sgnZ z2), .slice A2 (len (magZ z2)) c2, .slice D2 (len d2) e2]] w fun e w' => RetR e w' w.heap.size (minF (z1, d1) (z2, d2)) ∧ Old w w' := by
  have N1 := Lib.hid n1
  have LN1 := norm_len n1
  have La1 : len (magZ z1) ≤ 24 := LN1.1
  have Lb1 : len d1 ≤ 24 := LN1.2
  clear n1 LN1
  have N2 := Lib.hid n2
  have LN2 := norm_len n2
  have La2 : len (magZ z2) ≤ 24 := LN2.1
  have Lb2 : len d2 ≤ 24 := LN2.2
  clear n2 LN2
  have HM : Hid (minF (z1, d1) (z2, d2) = (z1, d1)) := Lib.hid (by unfold minF; rw [if_neg (show ¬ (d1 = 0 ∨ d2 = 0) by omega), if_pos hc])
  have HC := Lib.hid hc
  clear hc
  have P1 := Lib.hid p1
  have P2 := Lib.hid p2
  clear p1 p2
  have O : Old w (((w.alloc (.cells #[.bool (sgnZ z1), .slice A1 (len (magZ z1)) c1, .slice D1 (len d1) e1] 26)).alloc (.cells #[.bool (sgnZ z2), .slice A2 (len (magZ z2)) c2, .slice D2 (len d2) e2] 26)).alloc (.cells #[.bool false, .slice none 0 0, .slice none 0 0] 26)) := oldA
  have B_x : Bx (((w.alloc (.cells #[.bool (sgnZ z1), .slice A1 (len (magZ z1)) c1, .slice D1 (len d1) e1] 26)).alloc (.cells #[.bool (sgnZ z2), .slice A2 (len (magZ z2)) c2, .slice D2 (len d2) e2] 26)).alloc (.cells #[.bool false, .slice none 0 0, .slice none 0 0] 26)) (w.heap.size) #[.bool (sgnZ z1), .slice A1 (len (magZ z1)) c1, .slice D1 (len d1) e1] := by have h := (Bx.alloc (Bx.alloc (Bx.new w #[.bool (sgnZ z1), .slice A1 (len (magZ z1)) c1, .slice D1 (len d1) e1] 26) (.cells #[.bool (sgnZ z2), .slice A2 (len (magZ z2)) c2, .slice D2 (len d2) e2] 26)) (.cells #[.bool false, .slice none 0 0, .slice none 0 0] 26)); simpa using h
  have B_y : Bx (((w.alloc (.cells #[.bool (sgnZ z1), .slice A1 (len (magZ z1)) c1, .slice D1 (len d1) e1] 26)).alloc (.cells #[.bool (sgnZ z2), .slice A2 (len (magZ z2)) c2, .slice D2 (len d2) e2] 26)).alloc (.cells #[.bool false, .slice none 0 0, .slice none 0 0] 26)) (w.heap.size + 1) #[.bool (sgnZ z2), .slice A2 (len (magZ z2)) c2, .slice D2 (len d2) e2] := by have h := (Bx.alloc (Bx.new (w.alloc (.cells #[.bool (sgnZ z1), .slice A1 (len (magZ z1)) c1, .slice D1 (len d1) e1] 26)) #[.bool (sgnZ z2), .slice A2 (len (magZ z2)) c2, .slice D2 (len d2) e2] 26) (.cells #[.bool false, .slice none 0 0, .slice none 0 0] 26)); simpa using h
  have B_r : Bx (((w.alloc (.cells #[.bool (sgnZ z1), .slice A1 (len (magZ z1)) c1, .slice D1 (len d1) e1] 26)).alloc (.cells #[.bool (sgnZ z2), .slice A2 (len (magZ z2)) c2, .slice D2 (len d2) e2] 26)).alloc (.cells #[.bool false, .slice none 0 0, .slice none 0 0] 26)) (w.heap.size + 1 + 1) #[.bool false, .slice none 0 0, .slice none 0 0] := by have h := (Bx.new ((w.alloc (.cells #[.bool (sgnZ z1), .slice A1 (len (magZ z1)) c1, .slice D1 (len d1) e1] 26)).alloc (.cells #[.bool (sgnZ z2), .slice A2 (len (magZ z2)) c2, .slice D2 (len d2) e2] 26)) #[.bool false, .slice none 0 0, .slice none 0 0] 26); simpa using h
  have ne_0_1 : ¬ (w.heap.size = w.heap.size + 1) := by omega
  have ne_0_2 : ¬ (w.heap.size = w.heap.size + 1 + 1) := by omega
  have ne_1_0 : ¬ (w.heap.size + 1 = w.heap.size) := by omega
  have ne_1_2 : ¬ (w.heap.size + 1 = w.heap.size + 1 + 1) := by omega
  have ne_2_0 : ¬ (w.heap.size + 1 + 1 = w.heap.size) := by omega
  have ne_2_1 : ¬ (w.heap.size + 1 + 1 = w.heap.size + 1) := by omega
  have ze : w.heap.size + 3 ≤ (((w.alloc (.cells #[.bool (sgnZ z1), .slice A1 (len (magZ z1)) c1, .slice D1 (len d1) e1] 26)).alloc (.cells #[.bool (sgnZ z2), .slice A2 (len (magZ z2)) c2, .slice D2 (len d2) e2] 26)).alloc (.cells #[.bool false, .slice none 0 0, .slice none 0 0] 26)).heap.size := (by simp)
  go_enter Tryz.func17, Tryz.ntmps17
  go_wp2_with fail
  refine callsNamed ?_
  intro p1 hp
  have O' : Old w p1 := (by rw [hp]; exact Below.trans (b := (((w.alloc (.cells #[.bool (sgnZ z1), .slice A1 (len (magZ z1)) c1, .slice D1 (len d1) e1] 26)).alloc (.cells #[.bool (sgnZ z2), .slice A2 (len (magZ z2)) c2, .slice D2 (len d2) e2] 26)).alloc (.cells #[.bool false, .slice none 0 0, .slice none 0 0] 26))) O oldA)
  replace B_x : Bx p1 (w.heap.size) #[.bool (sgnZ z1), .slice A1 (len (magZ z1)) c1, .slice D1 (len d1) e1] := (bxK B_x hp)
  replace B_y : Bx p1 (w.heap.size + 1) #[.bool (sgnZ z2), .slice A2 (len (magZ z2)) c2, .slice D2 (len d2) e2] := (bxK B_y hp)
  replace B_r : Bx p1 (w.heap.size + 1 + 1) #[.bool false, .slice none 0 0, .slice none 0 0] := (bxK B_r hp)
  have zp1 : (((w.alloc (.cells #[.bool (sgnZ z1), .slice A1 (len (magZ z1)) c1, .slice D1 (len d1) e1] 26)).alloc (.cells #[.bool (sgnZ z2), .slice A2 (len (magZ z2)) c2, .slice D2 (len d2) e2] 26)).alloc (.cells #[.bool false, .slice none 0 0, .slice none 0 0] 26)).heap.size ≤ p1.heap.size := (by rw [hp]; exact leA)
  clear hp O
  have O := O'
  clear O'
  refine (areRats_yes z1 d1 A1 D1 c1 e1 l1 m1 z2 d2 A2 D2 c2 e2 l2 m2 _ (Row.below (B := w.heap.size) h1 O (Nat.le_refl _)) (Row.below (B := w.heap.size) k1 O (Nat.le_refl _)) N1.out (Row.below (B := w.heap.size) h2 O (Nat.le_refl _)) (Row.below (B := w.heap.size) k2 O (Nat.le_refl _)) N2.out P1.out P2.out).mono ?_
  rintro e w1 ⟨rfl, o1⟩
  replace B_x := Bx.old B_x o1
  replace B_y := Bx.old B_y o1
  replace B_r := Bx.old B_r o1
  replace O := Old.trans O o1
  have zw1 := o1.size
  obtain ⟨q_x_0, q_x_1, q_x_2, f_x_0, f_x_1, f_x_2, q_x⟩ := B_x.all3
  obtain ⟨q_y_0, q_y_1, q_y_2, f_y_0, f_y_1, f_y_2, q_y⟩ := B_y.all3
  obtain ⟨q_r_0, q_r_1, q_r_2, f_r_0, f_r_1, f_r_2, q_r⟩ := B_r.all3
  go_wp2_with fail
  refine callsNamed ?_
  intro p2 hp
  clear q_x_0 q_x_1 q_x_2 f_x_0 f_x_1 f_x_2 q_x q_y_0 q_y_1 q_y_2 f_y_0 f_y_1 f_y_2 q_y q_r_0 q_r_1 q_r_2 f_r_0 f_r_1 f_r_2 q_r
  have O' : Old w p2 := (by rw [hp]; exact Below.trans (b := w1) O oldA)
  replace B_x : Bx p2 (w.heap.size) #[.bool (sgnZ z1), .slice A1 (len (magZ z1)) c1, .slice D1 (len d1) e1] := (bxK B_x hp)
  replace B_y : Bx p2 (w.heap.size + 1) #[.bool (sgnZ z2), .slice A2 (len (magZ z2)) c2, .slice D2 (len d2) e2] := (bxK B_y hp)
  replace B_r : Bx p2 (w.heap.size + 1 + 1) #[.bool false, .slice none 0 0, .slice none 0 0] := (bxK B_r hp)
  have zp2 : w1.heap.size ≤ p2.heap.size := (by rw [hp]; exact leA)
  clear hp O
  have O := O'
  clear O'
  refine (ratMin_one z1 d1 A1 D1 c1 e1 l1 m1 z2 d2 A2 D2 c2 e2 l2 m2 _ (Row.below (B := w.heap.size) h1 O (Nat.le_refl _)) (Row.below (B := w.heap.size) k1 O (Nat.le_refl _)) N1.out (Row.below (B := w.heap.size) h2 O (Nat.le_refl _)) (Row.below (B := w.heap.size) k2 O (Nat.le_refl _)) N2.out P1.out P2.out (by have := HC.out; omega)).mono ?_
  rintro e w2 ⟨rfl, o2⟩
  replace B_x := Bx.old B_x o2
  replace B_y := Bx.old B_y o2
  replace B_r := Bx.old B_r o2
  replace O := Old.trans O o2
  have zw2 := o2.size
  obtain ⟨q_x_0, q_x_1, q_x_2, f_x_0, f_x_1, f_x_2, q_x⟩ := B_x.all3
  obtain ⟨q_y_0, q_y_1, q_y_2, f_y_0, f_y_1, f_y_2, q_y⟩ := B_y.all3
  obtain ⟨q_r_0, q_r_1, q_r_2, f_r_0, f_r_1, f_r_2, q_r⟩ := B_r.all3
  go_wp2_with fail
  refine callsNamed ?_
  intro p3 hp
  clear q_x_0 q_x_1 q_x_2 f_x_0 f_x_1 f_x_2 q_x q_y_0 q_y_1 q_y_2 f_y_0 f_y_1 f_y_2 q_y q_r_0 q_r_1 q_r_2 f_r_0 f_r_1 f_r_2 q_r
  have O' : Old w p3 := (by rw [hp]; exact Below.trans (b := w2) O oldA)
  replace B_x : Bx p3 (w.heap.size) #[.bool (sgnZ z1), .slice A1 (len (magZ z1)) c1, .slice D1 (len d1) e1] := (bxK B_x hp)
  replace B_y : Bx p3 (w.heap.size + 1) #[.bool (sgnZ z2), .slice A2 (len (magZ z2)) c2, .slice D2 (len d2) e2] := (bxK B_y hp)
  replace B_r : Bx p3 (w.heap.size + 1 + 1) #[.bool false, .slice none 0 0, .slice none 0 0] := (bxK B_r hp)
  have zp3 : w2.heap.size ≤ p3.heap.size := (by rw [hp]; exact leA)
  clear hp O
  have O := O'
  clear O'
  refine (ownRat_any z1 d1 A1 D1 c1 e1 l1 m1 _ (Row.below (B := w.heap.size) h1 O (Nat.le_refl _)) (Row.below (B := w.heap.size) k1 O (Nat.le_refl _)) N1.out).mono ?_
  rintro e w3 ⟨⟨z9, d9, A9, c9, D9, e9, hv, rfl, r9, s9, ap⟩, o3⟩
  replace B_x := Bx.old B_x o3
  replace B_y := Bx.old B_y o3
  replace B_r := Bx.old B_r o3
  replace O := Old.trans O o3
  have zw3 := o3.size
  replace r9 := Row.more (lo' := p3.heap.size) r9 leA
  replace s9 := Row.more (lo' := p3.heap.size) s9 leA
  have lim_r9 := Row.lim r9
  have lim_s9 := Row.lim s9
  have HV := Lib.hid hv
  have AP := Lib.hid ap
  clear hv ap
  obtain ⟨q_x_0, q_x_1, q_x_2, f_x_0, f_x_1, f_x_2, q_x⟩ := B_x.all3
  obtain ⟨q_y_0, q_y_1, q_y_2, f_y_0, f_y_1, f_y_2, q_y⟩ := B_y.all3
  obtain ⟨q_r_0, q_r_1, q_r_2, f_r_0, f_r_1, f_r_2, q_r⟩ := B_r.all3
  go_wp2
  refine bodyPost_ret (v := .agg #[.bool (sgnZ z9), .slice A9 (len (magZ z9)) c9, .slice D9 (len d9) e9]) (by simp [results, Tryz.results17, go_sem, q_r_0, q_r_1, q_r_2]) rfl ⟨⟨z9, d9, A9, c9, D9, e9, (HM.out.trans HV.out), rfl, ?_, ?_, AP.out⟩, ?_⟩
  · refine Row.more (lo := p3.heap.size) ?_ leA
    repeat' (first | (with_reducible exact r9) | (with_reducible refine Row.far_set ?_ (by first | (simp <;> done) | (simp; omega) | omega) _))
  · refine Row.more (lo := p3.heap.size) ?_ leA
    repeat' (first | (with_reducible exact s9) | (with_reducible refine Row.far_set ?_ (by first | (simp <;> done) | (simp; omega) | omega) _))
  · exact Below.trans (b := w3) O oldA
set_option maxRecDepth 100000 in
set_option maxHeartbeats 1000000 in
theorem impl_RatMin_two (z1 : Int) (d1 : Nat) (A1 D1 : Option Addr) (c1 e1 l1 m1 : Nat) (z2 : Int) (d2 : Nat) (A2 D2 : Option Addr) (c2 e2 l2 m2 : Nat) (w : World) (h1 : NatS w l1 A1 c1 (magZ z1)) (k1 : NatS w m1 D1 e1 d1) (n1 : normF (z1, d1)) (h2 : NatS w l2 A2 c2 (magZ z2)) (k2 : NatS w m2 D2 e2 d2) (n2 : normF (z2, d2)) (p1 : 0 < d1) (p2 : 0 < d2) (hc : ¬ cmpF (z1, d1) (z2, d2) ≤ 0) :
    Calls Tryz.prog 17 #[.agg #[.bool (sgnZ z1), .slice A1 (len (magZ z1)) c1, .slice D1 (len d1) e1], .agg #[.bool (sgnZ z2), .slice A2 (len (magZ z2)) c2, .slice D2 (len d2) e2]] w fun e w' => RetR e w' w.heap.size (minF (z1, d1) (z2, d2)) ∧ Old w w' := by
  have N1 := Lib.hid n1
  have LN1 := norm_len n1
  have La1 : len (magZ z1) ≤ 24 := LN1.1
  have Lb1 : len d1 ≤ 24 := LN1.2
  clear n1 LN1
  have N2 := Lib.hid n2
  have LN2 := norm_len n2
  have La2 : len (magZ z2) ≤ 24 := LN2.1
  have Lb2 : len d2 ≤ 24 := LN2.2
  clear n2 LN2
  have HM : Hid (minF (z1, d1) (z2, d2) = (z2, d2)) := Lib.hid (by unfold minF; rw [if_neg (show ¬ (d1 = 0 ∨ d2 = 0) by omega), if_neg hc])
  have HC := Lib.hid hc
  clear hc
  have P1 := Lib.hid p1
  have P2 := Lib.hid p2
  clear p1 p2
  have O : Old w (((w.alloc (.cells #[.bool (sgnZ z1), .slice A1 (len (magZ z1)) c1, .slice D1 (len d1) e1] 26)).alloc (.cells #[.bool (sgnZ z2), .slice A2 (len (magZ z2)) c2, .slice D2 (len d2) e2] 26)).alloc (.cells #[.bool false, .slice none 0 0, .slice none 0 0] 26)) := oldA
  have B_x : Bx (((w.alloc (.cells #[.bool (sgnZ z1), .slice A1 (len (magZ z1)) c1, .slice D1 (len d1) e1] 26)).alloc (.cells #[.bool (sgnZ z2), .slice A2 (len (magZ z2)) c2, .slice D2 (len d2) e2] 26)).alloc (.cells #[.bool false, .slice none 0 0, .slice none 0 0] 26)) (w.heap.size) #[.bool (sgnZ z1), .slice A1 (len (magZ z1)) c1, .slice D1 (len d1) e1] := by have h := (Bx.alloc (Bx.alloc (Bx.new w #[.bool (sgnZ z1), .slice A1 (len (magZ z1)) c1, .slice D1 (len d1) e1] 26) (.cells #[.bool (sgnZ z2), .slice A2 (len (magZ z2)) c2, .slice D2 (len d2) e2] 26)) (.cells #[.bool false, .slice none 0 0, .slice none 0 0] 26)); simpa using h
  have B_y : Bx (((w.alloc (.cells #[.bool (sgnZ z1), .slice A1 (len (magZ z1)) c1, .slice D1 (len d1) e1] 26)).alloc (.cells #[.bool (sgnZ z2), .slice A2 (len (magZ z2)) c2, .slice D2 (len d2) e2] 26)).alloc (.cells #[.bool false, .slice none 0 0, .slice none 0 0] 26)) (w.heap.size + 1) #[.bool (sgnZ z2), .slice A2 (len (magZ z2)) c2, .slice D2 (len d2) e2] := by have h := (Bx.alloc (Bx.new (w.alloc (.cells #[.bool (sgnZ z1), .slice A1 (len (magZ z1)) c1, .slice D1 (len d1) e1] 26)) #[.bool (sgnZ z2), .slice A2 (len (magZ z2)) c2, .slice D2 (len d2) e2] 26) (.cells #[.bool false, .slice none 0 0, .slice none 0 0] 26)); simpa using h
  have B_r : Bx (((w.alloc (.cells #[.bool (sgnZ z1), .slice A1 (len (magZ z1)) c1, .slice D1 (len d1) e1] 26)).alloc (.cells #[.bool (sgnZ z2), .slice A2 (len (magZ z2)) c2, .slice D2 (len d2) e2] 26)).alloc (.cells #[.bool false, .slice none 0 0, .slice none 0 0] 26)) (w.heap.size + 1 + 1) #[.bool false, .slice none 0 0, .slice none 0 0] := by have h := (Bx.new ((w.alloc (.cells #[.bool (sgnZ z1), .slice A1 (len (magZ z1)) c1, .slice D1 (len d1) e1] 26)).alloc (.cells #[.bool (sgnZ z2), .slice A2 (len (magZ z2)) c2, .slice D2 (len d2) e2] 26)) #[.bool false, .slice none 0 0, .slice none 0 0] 26); simpa using h
  have ne_0_1 : ¬ (w.heap.size = w.heap.size + 1) := by omega
  have ne_0_2 : ¬ (w.heap.size = w.heap.size + 1 + 1) := by omega
  have ne_1_0 : ¬ (w.heap.size + 1 = w.heap.size) := by omega
  have ne_1_2 : ¬ (w.heap.size + 1 = w.heap.size + 1 + 1) := by omega
  have ne_2_0 : ¬ (w.heap.size + 1 + 1 = w.heap.size) := by omega
  have ne_2_1 : ¬ (w.heap.size + 1 + 1 = w.heap.size + 1) := by omega
  have ze : w.heap.size + 3 ≤ (((w.alloc (.cells #[.bool (sgnZ z1), .slice A1 (len (magZ z1)) c1, .slice D1 (len d1) e1] 26)).alloc (.cells #[.bool (sgnZ z2), .slice A2 (len (magZ z2)) c2, .slice D2 (len d2) e2] 26)).alloc (.cells #[.bool false, .slice none 0 0, .slice none 0 0] 26)).heap.size := (by simp)
  go_enter Tryz.func17, Tryz.ntmps17
  go_wp2_with fail
  refine callsNamed ?_
  intro p1 hp
  have O' : Old w p1 := (by rw [hp]; exact Below.trans (b := (((w.alloc (.cells #[.bool (sgnZ z1), .slice A1 (len (magZ z1)) c1, .slice D1 (len d1) e1] 26)).alloc (.cells #[.bool (sgnZ z2), .slice A2 (len (magZ z2)) c2, .slice D2 (len d2) e2] 26)).alloc (.cells #[.bool false, .slice none 0 0, .slice none 0 0] 26))) O oldA)
  replace B_x : Bx p1 (w.heap.size) #[.bool (sgnZ z1), .slice A1 (len (magZ z1)) c1, .slice D1 (len d1) e1] := (bxK B_x hp)
  replace B_y : Bx p1 (w.heap.size + 1) #[.bool (sgnZ z2), .slice A2 (len (magZ z2)) c2, .slice D2 (len d2) e2] := (bxK B_y hp)
  replace B_r : Bx p1 (w.heap.size + 1 + 1) #[.bool false, .slice none 0 0, .slice none 0 0] := (bxK B_r hp)
  have zp1 : (((w.alloc (.cells #[.bool (sgnZ z1), .slice A1 (len (magZ z1)) c1, .slice D1 (len d1) e1] 26)).alloc (.cells #[.bool (sgnZ z2), .slice A2 (len (magZ z2)) c2, .slice D2 (len d2) e2] 26)).alloc (.cells #[.bool false, .slice none 0 0, .slice none 0 0] 26)).heap.size ≤ p1.heap.size := (by rw [hp]; exact leA)
  clear hp O
  have O := O'
  clear O'
  refine (areRats_yes z1 d1 A1 D1 c1 e1 l1 m1 z2 d2 A2 D2 c2 e2 l2 m2 _ (Row.below (B := w.heap.size) h1 O (Nat.le_refl _)) (Row.below (B := w.heap.size) k1 O (Nat.le_refl _)) N1.out (Row.below (B := w.heap.size) h2 O (Nat.le_refl _)) (Row.below (B := w.heap.size) k2 O (Nat.le_refl _)) N2.out P1.out P2.out).mono ?_
  rintro e w1 ⟨rfl, o1⟩
  replace B_x := Bx.old B_x o1
  replace B_y := Bx.old B_y o1
  replace B_r := Bx.old B_r o1
  replace O := Old.trans O o1
  have zw1 := o1.size
  obtain ⟨q_x_0, q_x_1, q_x_2, f_x_0, f_x_1, f_x_2, q_x⟩ := B_x.all3
  obtain ⟨q_y_0, q_y_1, q_y_2, f_y_0, f_y_1, f_y_2, q_y⟩ := B_y.all3
  obtain ⟨q_r_0, q_r_1, q_r_2, f_r_0, f_r_1, f_r_2, q_r⟩ := B_r.all3
  go_wp2_with fail
  refine callsNamed ?_
  intro p2 hp
  clear q_x_0 q_x_1 q_x_2 f_x_0 f_x_1 f_x_2 q_x q_y_0 q_y_1 q_y_2 f_y_0 f_y_1 f_y_2 q_y q_r_0 q_r_1 q_r_2 f_r_0 f_r_1 f_r_2 q_r
  have O' : Old w p2 := (by rw [hp]; exact Below.trans (b := w1) O oldA)
  replace B_x : Bx p2 (w.heap.size) #[.bool (sgnZ z1), .slice A1 (len (magZ z1)) c1, .slice D1 (len d1) e1] := (bxK B_x hp)
  replace B_y : Bx p2 (w.heap.size + 1) #[.bool (sgnZ z2), .slice A2 (len (magZ z2)) c2, .slice D2 (len d2) e2] := (bxK B_y hp)
  replace B_r : Bx p2 (w.heap.size + 1 + 1) #[.bool false, .slice none 0 0, .slice none 0 0] := (bxK B_r hp)
  have zp2 : w1.heap.size ≤ p2.heap.size := (by rw [hp]; exact leA)
  clear hp O
  have O := O'
  clear O'
  refine (ratMin_two z1 d1 A1 D1 c1 e1 l1 m1 z2 d2 A2 D2 c2 e2 l2 m2 _ (Row.below (B := w.heap.size) h1 O (Nat.le_refl _)) (Row.below (B := w.heap.size) k1 O (Nat.le_refl _)) N1.out (Row.below (B := w.heap.size) h2 O (Nat.le_refl _)) (Row.below (B := w.heap.size) k2 O (Nat.le_refl _)) N2.out P1.out P2.out (by have := HC.out; omega)).mono ?_
  rintro e w2 ⟨rfl, o2⟩
  replace B_x := Bx.old B_x o2
  replace B_y := Bx.old B_y o2
  replace B_r := Bx.old B_r o2
  replace O := Old.trans O o2
  have zw2 := o2.size
  obtain ⟨q_x_0, q_x_1, q_x_2, f_x_0, f_x_1, f_x_2, q_x⟩ := B_x.all3
  obtain ⟨q_y_0, q_y_1, q_y_2, f_y_0, f_y_1, f_y_2, q_y⟩ := B_y.all3
  obtain ⟨q_r_0, q_r_1, q_r_2, f_r_0, f_r_1, f_r_2, q_r⟩ := B_r.all3
  go_wp2_with fail
  refine callsNamed ?_
  intro p3 hp
  clear q_x_0 q_x_1 q_x_2 f_x_0 f_x_1 f_x_2 q_x q_y_0 q_y_1 q_y_2 f_y_0 f_y_1 f_y_2 q_y q_r_0 q_r_1 q_r_2 f_r_0 f_r_1 f_r_2 q_r
  have O' : Old w p3 := (by rw [hp]; exact Below.trans (b := w2) O oldA)
  replace B_x : Bx p3 (w.heap.size) #[.bool (sgnZ z1), .slice A1 (len (magZ z1)) c1, .slice D1 (len d1) e1] := (bxK B_x hp)
  replace B_y : Bx p3 (w.heap.size + 1) #[.bool (sgnZ z2), .slice A2 (len (magZ z2)) c2, .slice D2 (len d2) e2] := (bxK B_y hp)
  replace B_r : Bx p3 (w.heap.size + 1 + 1) #[.bool false, .slice none 0 0, .slice none 0 0] := (bxK B_r hp)
  have zp3 : w2.heap.size ≤ p3.heap.size := (by rw [hp]; exact leA)
  clear hp O
  have O := O'
  clear O'
  refine (ownRat_any z2 d2 A2 D2 c2 e2 l2 m2 _ (Row.below (B := w.heap.size) h2 O (Nat.le_refl _)) (Row.below (B := w.heap.size) k2 O (Nat.le_refl _)) N2.out).mono ?_
  rintro e w3 ⟨⟨z9, d9, A9, c9, D9, e9, hv, rfl, r9, s9, ap⟩, o3⟩
  replace B_x := Bx.old B_x o3
  replace B_y := Bx.old B_y o3
  replace B_r := Bx.old B_r o3
  replace O := Old.trans O o3
  have zw3 := o3.size
  replace r9 := Row.more (lo' := p3.heap.size) r9 leA
  replace s9 := Row.more (lo' := p3.heap.size) s9 leA
  have lim_r9 := Row.lim r9
  have lim_s9 := Row.lim s9
  have HV := Lib.hid hv
  have AP := Lib.hid ap
  clear hv ap
  obtain ⟨q_x_0, q_x_1, q_x_2, f_x_0, f_x_1, f_x_2, q_x⟩ := B_x.all3
  obtain ⟨q_y_0, q_y_1, q_y_2, f_y_0, f_y_1, f_y_2, q_y⟩ := B_y.all3
  obtain ⟨q_r_0, q_r_1, q_r_2, f_r_0, f_r_1, f_r_2, q_r⟩ := B_r.all3
  go_wp2
  refine bodyPost_ret (v := .agg #[.bool (sgnZ z9), .slice A9 (len (magZ z9)) c9, .slice D9 (len d9) e9]) (by simp [results, Tryz.results17, go_sem, q_r_0, q_r_1, q_r_2]) rfl ⟨⟨z9, d9, A9, c9, D9, e9, (HM.out.trans HV.out), rfl, ?_, ?_, AP.out⟩, ?_⟩
  · refine Row.more (lo := p3.heap.size) ?_ leA
    repeat' (first | (with_reducible exact r9) | (with_reducible refine Row.far_set ?_ (by first | (simp <;> done) | (simp; omega) | omega) _))
  · refine Row.more (lo := p3.heap.size) ?_ leA
    repeat' (first | (with_reducible exact s9) | (with_reducible refine Row.far_set ?_ (by first | (simp <;> done) | (simp; omega) | omega) _))
  · exact Below.trans (b := w3) O oldA

theorem impl_RatMin_yes (z1 : Int) (d1 : Nat) (A1 D1 : Option Addr) (c1 e1 l1 m1 : Nat) (z2 : Int) (d2 : Nat) (A2 D2 : Option Addr) (c2 e2 l2 m2 : Nat) (w : World) (h1 : NatS w l1 A1 c1 (magZ z1)) (k1 : NatS w m1 D1 e1 d1) (n1 : normF (z1, d1)) (h2 : NatS w l2 A2 c2 (magZ z2)) (k2 : NatS w m2 D2 e2 d2) (n2 : normF (z2, d2)) (p1 : 0 < d1) (p2 : 0 < d2) :
    Calls Tryz.prog 17 #[.agg #[.bool (sgnZ z1), .slice A1 (len (magZ z1)) c1, .slice D1 (len d1) e1], .agg #[.bool (sgnZ z2), .slice A2 (len (magZ z2)) c2, .slice D2 (len d2) e2]] w fun e w' => RetR e w' w.heap.size (minF (z1, d1) (z2, d2)) ∧ Old w w' := by
  by_cases hc : cmpF (z1, d1) (z2, d2) ≤ 0
  · exact impl_RatMin_one z1 d1 A1 D1 c1 e1 l1 m1 z2 d2 A2 D2 c2 e2 l2 m2 w h1 k1 n1 h2 k2 n2 p1 p2 hc
  · exact impl_RatMin_two z1 d1 A1 D1 c1 e1 l1 m1 z2 d2 A2 D2 c2 e2 l2 m2 w h1 k1 n1 h2 k2 n2 p1 p2 hc
set_option maxRecDepth 100000 in
set_option maxHeartbeats 1000000 in
theorem impl_RatMin_no1 (b1 : Bool) (A1 : Option Addr) (n1 c1 l1 : Nat) (f1 : Nat → Int) (D1 : Option Addr) (m1 e1 u1 : Nat) (g1 : Nat → Int) (b2 : Bool) (A2 : Option Addr) (n2 c2 l2 : Nat) (f2 : Nat → Int) (D2 : Option Addr) (m2 e2 u2 : Nat) (g2 : Nat → Int) (w : World) (h1 : Row w l1 A1 n1 c1 f1) (k1 : Row w u1 D1 m1 e1 g1) (hn1 : n1 ≤ 1048576) (hm1 : m1 ≤ 1048576) (q1 : ¬ okR b1 n1 f1 m1 g1) :
    Calls Tryz.prog 17 #[.agg #[.bool b1, .slice A1 n1 c1, .slice D1 m1 e1], .agg #[.bool b2, .slice A2 n2 c2, .slice D2 m2 e2]] w fun e w' => RetR e w' w.heap.size ((0, 0)) ∧ Old w w' := by
  have Q1 := Lib.hid q1
  clear q1
  have O : Old w (((w.alloc (.cells #[.bool b1, .slice A1 n1 c1, .slice D1 m1 e1] 26)).alloc (.cells #[.bool b2, .slice A2 n2 c2, .slice D2 m2 e2] 26)).alloc (.cells #[.bool false, .slice none 0 0, .slice none 0 0] 26)) := oldA
  have B_x : Bx (((w.alloc (.cells #[.bool b1, .slice A1 n1 c1, .slice D1 m1 e1] 26)).alloc (.cells #[.bool b2, .slice A2 n2 c2, .slice D2 m2 e2] 26)).alloc (.cells #[.bool false, .slice none 0 0, .slice none 0 0] 26)) (w.heap.size) #[.bool b1, .slice A1 n1 c1, .slice D1 m1 e1] := by have h := (Bx.alloc (Bx.alloc (Bx.new w #[.bool b1, .slice A1 n1 c1, .slice D1 m1 e1] 26) (.cells #[.bool b2, .slice A2 n2 c2, .slice D2 m2 e2] 26)) (.cells #[.bool false, .slice none 0 0, .slice none 0 0] 26)); simpa using h
  have B_y : Bx (((w.alloc (.cells #[.bool b1, .slice A1 n1 c1, .slice D1 m1 e1] 26)).alloc (.cells #[.bool b2, .slice A2 n2 c2, .slice D2 m2 e2] 26)).alloc (.cells #[.bool false, .slice none 0 0, .slice none 0 0] 26)) (w.heap.size + 1) #[.bool b2, .slice A2 n2 c2, .slice D2 m2 e2] := by have h := (Bx.alloc (Bx.new (w.alloc (.cells #[.bool b1, .slice A1 n1 c1, .slice D1 m1 e1] 26)) #[.bool b2, .slice A2 n2 c2, .slice D2 m2 e2] 26) (.cells #[.bool false, .slice none 0 0, .slice none 0 0] 26)); simpa using h
  have B_r : Bx (((w.alloc (.cells #[.bool b1, .slice A1 n1 c1, .slice D1 m1 e1] 26)).alloc (.cells #[.bool b2, .slice A2 n2 c2, .slice D2 m2 e2] 26)).alloc (.cells #[.bool false, .slice none 0 0, .slice none 0 0] 26)) (w.heap.size + 1 + 1) #[.bool false, .slice none 0 0, .slice none 0 0] := by have h := (Bx.new ((w.alloc (.cells #[.bool b1, .slice A1 n1 c1, .slice D1 m1 e1] 26)).alloc (.cells #[.bool b2, .slice A2 n2 c2, .slice D2 m2 e2] 26)) #[.bool false, .slice none 0 0, .slice none 0 0] 26); simpa using h
  have ne_0_1 : ¬ (w.heap.size = w.heap.size + 1) := by omega
  have ne_0_2 : ¬ (w.heap.size = w.heap.size + 1 + 1) := by omega
  have ne_1_0 : ¬ (w.heap.size + 1 = w.heap.size) := by omega
  have ne_1_2 : ¬ (w.heap.size + 1 = w.heap.size + 1 + 1) := by omega
  have ne_2_0 : ¬ (w.heap.size + 1 + 1 = w.heap.size) := by omega
  have ne_2_1 : ¬ (w.heap.size + 1 + 1 = w.heap.size + 1) := by omega
  have ze : w.heap.size + 3 ≤ (((w.alloc (.cells #[.bool b1, .slice A1 n1 c1, .slice D1 m1 e1] 26)).alloc (.cells #[.bool b2, .slice A2 n2 c2, .slice D2 m2 e2] 26)).alloc (.cells #[.bool false, .slice none 0 0, .slice none 0 0] 26)).heap.size := (by simp)
  go_enter Tryz.func17, Tryz.ntmps17
  go_wp2_with fail
  refine callsNamed ?_
  intro p1 hp
  have O' : Old w p1 := (by rw [hp]; exact Below.trans (b := (((w.alloc (.cells #[.bool b1, .slice A1 n1 c1, .slice D1 m1 e1] 26)).alloc (.cells #[.bool b2, .slice A2 n2 c2, .slice D2 m2 e2] 26)).alloc (.cells #[.bool false, .slice none 0 0, .slice none 0 0] 26))) O oldA)
  replace B_x : Bx p1 (w.heap.size) #[.bool b1, .slice A1 n1 c1, .slice D1 m1 e1] := (bxK B_x hp)
  replace B_y : Bx p1 (w.heap.size + 1) #[.bool b2, .slice A2 n2 c2, .slice D2 m2 e2] := (bxK B_y hp)
  replace B_r : Bx p1 (w.heap.size + 1 + 1) #[.bool false, .slice none 0 0, .slice none 0 0] := (bxK B_r hp)
  have zp1 : (((w.alloc (.cells #[.bool b1, .slice A1 n1 c1, .slice D1 m1 e1] 26)).alloc (.cells #[.bool b2, .slice A2 n2 c2, .slice D2 m2 e2] 26)).alloc (.cells #[.bool false, .slice none 0 0, .slice none 0 0] 26)).heap.size ≤ p1.heap.size := (by rw [hp]; exact leA)
  clear hp O
  have O := O'
  clear O'
  refine (areRats_no1 b1 A1 n1 c1 l1 f1 D1 m1 e1 u1 g1 b2 A2 n2 c2 l2 f2 D2 m2 e2 u2 g2 _ (Row.below (B := w.heap.size) h1 O (Nat.le_refl _)) (Row.below (B := w.heap.size) k1 O (Nat.le_refl _)) hn1 hm1 Q1.out).mono ?_
  rintro e w1 ⟨rfl, o1⟩
  replace B_x := Bx.old B_x o1
  replace B_y := Bx.old B_y o1
  replace B_r := Bx.old B_r o1
  replace O := Old.trans O o1
  have zw1 := o1.size
  obtain ⟨q_x_0, q_x_1, q_x_2, f_x_0, f_x_1, f_x_2, q_x⟩ := B_x.all3
  obtain ⟨q_y_0, q_y_1, q_y_2, f_y_0, f_y_1, f_y_2, q_y⟩ := B_y.all3
  obtain ⟨q_r_0, q_r_1, q_r_2, f_r_0, f_r_1, f_r_2, q_r⟩ := B_r.all3
  go_wp2
  refine bodyPost_ret (v := .agg #[.bool false, .slice none 0 0, .slice none 0 0]) (by simp [results, Tryz.results17, go_sem, q_r_0, q_r_1, q_r_2]) rfl ⟨RetR.zero rfl, Below.trans (b := w1) O oldA⟩
set_option maxRecDepth 100000 in
set_option maxHeartbeats 1000000 in
theorem impl_RatMin_no2 (z1 : Int) (d1 : Nat) (A1 D1 : Option Addr) (c1 e1 l1 m1 : Nat) (b2 : Bool) (A2 : Option Addr) (n2 c2 l2 : Nat) (f2 : Nat → Int) (D2 : Option Addr) (m2 e2 u2 : Nat) (g2 : Nat → Int) (w : World) (h1 : NatS w l1 A1 c1 (magZ z1)) (k1 : NatS w m1 D1 e1 d1) (n1 : normF (z1, d1)) (p1 : 0 < d1) (h2 : Row w l2 A2 n2 c2 f2) (k2 : Row w u2 D2 m2 e2 g2) (hn2 : n2 ≤ 1048576) (hm2 : m2 ≤ 1048576) (q2 : ¬ okR b2 n2 f2 m2 g2) :
    Calls Tryz.prog 17 #[.agg #[.bool (sgnZ z1), .slice A1 (len (magZ z1)) c1, .slice D1 (len d1) e1], .agg #[.bool b2, .slice A2 n2 c2, .slice D2 m2 e2]] w fun e w' => RetR e w' w.heap.size ((0, 0)) ∧ Old w w' := by
  have N1 := Lib.hid n1
  have LN1 := norm_len n1
  have La1 : len (magZ z1) ≤ 24 := LN1.1
  have Lb1 : len d1 ≤ 24 := LN1.2
  clear n1 LN1
  have Q2 := Lib.hid q2
  have P1 := Lib.hid p1
  clear q2 p1
  have O : Old w (((w.alloc (.cells #[.bool (sgnZ z1), .slice A1 (len (magZ z1)) c1, .slice D1 (len d1) e1] 26)).alloc (.cells #[.bool b2, .slice A2 n2 c2, .slice D2 m2 e2] 26)).alloc (.cells #[.bool false, .slice none 0 0, .slice none 0 0] 26)) := oldA
  have B_x : Bx (((w.alloc (.cells #[.bool (sgnZ z1), .slice A1 (len (magZ z1)) c1, .slice D1 (len d1) e1] 26)).alloc (.cells #[.bool b2, .slice A2 n2 c2, .slice D2 m2 e2] 26)).alloc (.cells #[.bool false, .slice none 0 0, .slice none 0 0] 26)) (w.heap.size) #[.bool (sgnZ z1), .slice A1 (len (magZ z1)) c1, .slice D1 (len d1) e1] := by have h := (Bx.alloc (Bx.alloc (Bx.new w #[.bool (sgnZ z1), .slice A1 (len (magZ z1)) c1, .slice D1 (len d1) e1] 26) (.cells #[.bool b2, .slice A2 n2 c2, .slice D2 m2 e2] 26)) (.cells #[.bool false, .slice none 0 0, .slice none 0 0] 26)); simpa using h
  have B_y : Bx (((w.alloc (.cells #[.bool (sgnZ z1), .slice A1 (len (magZ z1)) c1, .slice D1 (len d1) e1] 26)).alloc (.cells #[.bool b2, .slice A2 n2 c2, .slice D2 m2 e2] 26)).alloc (.cells #[.bool false, .slice none 0 0, .slice none 0 0] 26)) (w.heap.size + 1) #[.bool b2, .slice A2 n2 c2, .slice D2 m2 e2] := by have h := (Bx.alloc (Bx.new (w.alloc (.cells #[.bool (sgnZ z1), .slice A1 (len (magZ z1)) c1, .slice D1 (len d1) e1] 26)) #[.bool b2, .slice A2 n2 c2, .slice D2 m2 e2] 26) (.cells #[.bool false, .slice none 0 0, .slice none 0 0] 26)); simpa using h
  have B_r : Bx (((w.alloc (.cells #[.bool (sgnZ z1), .slice A1 (len (magZ z1)) c1, .slice D1 (len d1) e1] 26)).alloc (.cells #[.bool b2, .slice A2 n2 c2, .slice D2 m2 e2] 26)).alloc (.cells #[.bool false, .slice none 0 0, .slice none 0 0] 26)) (w.heap.size + 1 + 1) #[.bool false, .slice none 0 0, .slice none 0 0] := by have h := (Bx.new ((w.alloc (.cells #[.bool (sgnZ z1), .slice A1 (len (magZ z1)) c1, .slice D1 (len d1) e1] 26)).alloc (.cells #[.bool b2, .slice A2 n2 c2, .slice D2 m2 e2] 26)) #[.bool false, .slice none 0 0, .slice none 0 0] 26); simpa using h
  have ne_0_1 : ¬ (w.heap.size = w.heap.size + 1) := by omega
  have ne_0_2 : ¬ (w.heap.size = w.heap.size + 1 + 1) := by omega
  have ne_1_0 : ¬ (w.heap.size + 1 = w.heap.size) := by omega
  have ne_1_2 : ¬ (w.heap.size + 1 = w.heap.size + 1 + 1) := by omega
  have ne_2_0 : ¬ (w.heap.size + 1 + 1 = w.heap.size) := by omega
  have ne_2_1 : ¬ (w.heap.size + 1 + 1 = w.heap.size + 1) := by omega
  have ze : w.heap.size + 3 ≤ (((w.alloc (.cells #[.bool (sgnZ z1), .slice A1 (len (magZ z1)) c1, .slice D1 (len d1) e1] 26)).alloc (.cells #[.bool b2, .slice A2 n2 c2, .slice D2 m2 e2] 26)).alloc (.cells #[.bool false, .slice none 0 0, .slice none 0 0] 26)).heap.size := (by simp)
  go_enter Tryz.func17, Tryz.ntmps17
  go_wp2_with fail
  refine callsNamed ?_
  intro p1 hp
  have O' : Old w p1 := (by rw [hp]; exact Below.trans (b := (((w.alloc (.cells #[.bool (sgnZ z1), .slice A1 (len (magZ z1)) c1, .slice D1 (len d1) e1] 26)).alloc (.cells #[.bool b2, .slice A2 n2 c2, .slice D2 m2 e2] 26)).alloc (.cells #[.bool false, .slice none 0 0, .slice none 0 0] 26))) O oldA)
  replace B_x : Bx p1 (w.heap.size) #[.bool (sgnZ z1), .slice A1 (len (magZ z1)) c1, .slice D1 (len d1) e1] := (bxK B_x hp)
  replace B_y : Bx p1 (w.heap.size + 1) #[.bool b2, .slice A2 n2 c2, .slice D2 m2 e2] := (bxK B_y hp)
  replace B_r : Bx p1 (w.heap.size + 1 + 1) #[.bool false, .slice none 0 0, .slice none 0 0] := (bxK B_r hp)
  have zp1 : (((w.alloc (.cells #[.bool (sgnZ z1), .slice A1 (len (magZ z1)) c1, .slice D1 (len d1) e1] 26)).alloc (.cells #[.bool b2, .slice A2 n2 c2, .slice D2 m2 e2] 26)).alloc (.cells #[.bool false, .slice none 0 0, .slice none 0 0] 26)).heap.size ≤ p1.heap.size := (by rw [hp]; exact leA)
  clear hp O
  have O := O'
  clear O'
  refine (areRats_no2 z1 d1 A1 D1 c1 e1 l1 m1 b2 A2 n2 c2 l2 f2 D2 m2 e2 u2 g2 _ (Row.below (B := w.heap.size) h1 O (Nat.le_refl _)) (Row.below (B := w.heap.size) k1 O (Nat.le_refl _)) N1.out P1.out (Row.below (B := w.heap.size) h2 O (Nat.le_refl _)) (Row.below (B := w.heap.size) k2 O (Nat.le_refl _)) hn2 hm2 Q2.out).mono ?_
  rintro e w1 ⟨rfl, o1⟩
  replace B_x := Bx.old B_x o1
  replace B_y := Bx.old B_y o1
  replace B_r := Bx.old B_r o1
  replace O := Old.trans O o1
  have zw1 := o1.size
  obtain ⟨q_x_0, q_x_1, q_x_2, f_x_0, f_x_1, f_x_2, q_x⟩ := B_x.all3
  obtain ⟨q_y_0, q_y_1, q_y_2, f_y_0, f_y_1, f_y_2, q_y⟩ := B_y.all3
  obtain ⟨q_r_0, q_r_1, q_r_2, f_r_0, f_r_1, f_r_2, q_r⟩ := B_r.all3
  go_wp2
  refine bodyPost_ret (v := .agg #[.bool false, .slice none 0 0, .slice none 0 0]) (by simp [results, Tryz.results17, go_sem, q_r_0, q_r_1, q_r_2]) rfl ⟨RetR.zero rfl, Below.trans (b := w1) O oldA⟩
theorem impl_RatMin (b1 : Bool) (A1 : Option Addr) (n1 c1 l1 : Nat) (f1 : Nat → Int) (D1 : Option Addr) (m1 e1 u1 : Nat) (g1 : Nat → Int) (b2 : Bool) (A2 : Option Addr) (n2 c2 l2 : Nat) (f2 : Nat → Int) (D2 : Option Addr) (m2 e2 u2 : Nat) (g2 : Nat → Int) (w : World) (h1 : Row w l1 A1 n1 c1 f1) (k1 : Row w u1 D1 m1 e1 g1) (h2 : Row w l2 A2 n2 c2 f2) (k2 : Row w u2 D2 m2 e2 g2) (hn1 : n1 ≤ 1048576) (hm1 : m1 ≤ 1048576) (hn2 : n2 ≤ 1048576) (hm2 : m2 ≤ 1048576) :
    Calls Tryz.prog 17 #[.agg #[.bool b1, .slice A1 n1 c1, .slice D1 m1 e1], .agg #[.bool b2, .slice A2 n2 c2, .slice D2 m2 e2]] w fun e w' => RetR e w' w.heap.size (vRatMin b1 n1 f1 m1 g1 b2 n2 f2 m2 g2) ∧ Old w w' := by
  unfold vRatMin
  by_cases q1 : okR b1 n1 f1 m1 g1
  · obtain ⟨z1, d1, e1', e2', e3', p1, nn1, v1, s1, s1'⟩ := okR_z q1 h1 k1
    by_cases q2 : okR b2 n2 f2 m2 g2
    · obtain ⟨z2, d2, e4', e5', e6', p2, nn2, v2, s2, s2'⟩ := okR_z q2 h2 k2
      rw [v1, v2, e1', e2', e3', e4', e5', e6']
      exact impl_RatMin_yes z1 d1 A1 D1 c1 e1 l1 u1 z2 d2 A2 D2 c2 e2 l2 u2 w s1 s1' nn1 s2 s2' nn2 p1 p2
    · rw [vR_no q2, minF_no2 rfl, e1', e2', e3']
      exact impl_RatMin_no2 z1 d1 A1 D1 c1 e1 l1 u1 b2 A2 n2 c2 l2 f2 D2 m2 e2 u2 g2 w s1 s1' nn1 p1 h2 k2 hn2 hm2 q2
  · rw [vR_no q1, minF_no1 rfl]
    exact impl_RatMin_no1 b1 A1 n1 c1 l1 f1 D1 m1 e1 u1 g1 b2 A2 n2 c2 l2 f2 D2 m2 e2 u2 g2 w h1 k1 hn1 hm1 q1
theorem impl_RatMin_v (z1 : Int) (d1 : Nat) (A1 D1 : Option Addr) (c1 e1 l1 m1 : Nat) (z2 : Int) (d2 : Nat) (A2 D2 : Option Addr) (c2 e2 l2 m2 : Nat) (w : World) (h1 : NatS w l1 A1 c1 (magZ z1)) (k1 : NatS w m1 D1 e1 d1) (n1 : normF (z1, d1)) (h2 : NatS w l2 A2 c2 (magZ z2)) (k2 : NatS w m2 D2 e2 d2) (n2 : normF (z2, d2)) :
    Calls Tryz.prog 17 #[.agg #[.bool (sgnZ z1), .slice A1 (len (magZ z1)) c1, .slice D1 (len d1) e1], .agg #[.bool (sgnZ z2), .slice A2 (len (magZ z2)) c2, .slice D2 (len d2) e2]] w fun e w' => RetR e w' w.heap.size (minF (z1, d1) (z2, d2)) ∧ Old w w' := by
  have hl1 := norm_len n1
  have hl2 := norm_len n2
  simp only at hl1 hl2
  have h := impl_RatMin (sgnZ z1) A1 _ c1 l1 _ D1 _ e1 m1 _ (sgnZ z2) A2 _ c2 l2 _ D2 _ e2 m2 _ w h1 k1 h2 k2 (by omega) (by omega) (by omega) (by omega)
  unfold vRatMin at h
  rw [vR_val n1, vR_val n2] at h
  exact h
end Go.Proofs.YtgchbbjhdeobpaaGreatDoor

namespace Go.Proofs.YtgchbbjhdeobpaaGreatDoor
set_option linter.unusedVariables false
open Go.RowKit Num
attribute [local go_sem ↓] Go.wp_at_zero Go.wp_at_succ
noncomputable def vRatMax (b1 : Bool) (n1 : Nat) (f1 : Nat → Int) (m1 : Nat) (g1 : Nat → Int) (b2 : Bool) (n2 : Nat) (f2 : Nat → Int) (m2 : Nat) (g2 : Nat → Int) : Fr := maxF (vR b1 n1 f1 m1 g1) (vR b2 n2 f2 m2 g2)
set_option maxRecDepth 100000 in
set_option maxHeartbeats 1000000 in
theorem impl_RatMax_one (z1 : Int) (d1 : Nat) (A1 D1 : Option Addr) (c1 e1 l1 m1 : Nat) (z2 : Int) (d2 : Nat) (A2 D2 : Option Addr) (c2 e2 l2 m2 : Nat) (w : World) (h1 : NatS w l1 A1 c1 (magZ z1)) (k1 : NatS w m1 D1 e1 d1) (n1 : normF (z1, d1)) (h2 : NatS w l2 A2 c2 (magZ z2)) (k2 : NatS w m2 D2 e2 d2) (n2 : normF (z2, d2)) (p1 : 0 < d1) (p2 : 0 < d2) (hc : 0 ≤ cmpF (z1, d1) (z2, d2)) :
    Calls Tryz.prog 18 #[.agg #[.bool (sgnZ z1), .slice A1 (len (magZ z1)) c1, .slice D1 (len d1) e1], .agg #[.bool (sgnZ z2), .slice A2 (len (magZ z2)) c2, .slice D2 (len d2) e2]] w fun e w' => RetR e w' w.heap.size (maxF (z1, d1) (z2, d2)) ∧ Old w w' := by
  have N1 := Lib.hid n1
  have LN1 := norm_len n1
  have La1 : len (magZ z1) ≤ 24 := LN1.1
  have Lb1 : len d1 ≤ 24 := LN1.2
  clear n1 LN1
  have N2 := Lib.hid n2
  have LN2 := norm_len n2
  have La2 : len (magZ z2) ≤ 24 := LN2.1
  have Lb2 : len d2 ≤ 24 := LN2.2
  clear n2 LN2
  have HM : Hid (maxF (z1, d1) (z2, d2) = (z1, d1)) := Lib.hid (by unfold maxF; rw [if_neg (show ¬ (d1 = 0 ∨ d2 = 0) by omega), if_pos hc])
  have HC := Lib.hid hc
  clear hc
  have P1 := Lib.hid p1
  have P2 := Lib.hid p2
  clear p1 p2
  have O : Old w (((w.alloc (.cells #[.bool (sgnZ z1), .slice A1 (len (magZ z1)) c1, .slice D1 (len d1) e1] 26)).alloc (.cells #[.bool (sgnZ z2), .slice A2 (len (magZ z2)) c2, .slice D2 (len d2) e2] 26)).alloc (.cells #[.bool false, .slice none 0 0, .slice none 0 0] 26)) := oldA
  have B_x : Bx (((w.alloc (.cells #[.bool (sgnZ z1), .slice A1 (len (magZ z1)) c1, .slice D1 (len d1) e1] 26)).alloc (.cells #[.bool (sgnZ z2), .slice A2 (len (magZ z2)) c2, .slice D2 (len d2) e2] 26)).alloc (.cells #[.bool false, .slice none 0 0, .slice none 0 0] 26)) (w.heap.size) #[.bool (sgnZ z1), .slice A1 (len (magZ z1)) c1, .slice D1 (len d1) e1] := by have h := (Bx.alloc (Bx.alloc (Bx.new w #[.bool (sgnZ z1), .slice A1 (len (magZ z1)) c1, .slice D1 (len d1) e1] 26) (.cells #[.bool (sgnZ z2), .slice A2 (len (magZ z2)) c2, .slice D2 (len d2) e2] 26)) (.cells #[.bool false, .slice none 0 0, .slice none 0 0] 26)); simpa using h
  have B_y : Bx (((w.alloc (.cells #[.bool (sgnZ z1), .slice A1 (len (magZ z1)) c1, .slice D1 (len d1) e1] 26)).alloc (.cells #[.bool (sgnZ z2), .slice A2 (len (magZ z2)) c2, .slice D2 (len d2) e2] 26)).alloc (.cells #[.bool false, .slice none 0 0, .slice none 0 0] 26)) (w.heap.size + 1) #[.bool (sgnZ z2), .slice A2 (len (magZ z2)) c2, .slice D2 (len d2) e2] := by have h := (Bx.alloc (Bx.new (w.alloc (.cells #[.bool (sgnZ z1), .slice A1 (len (magZ z1)) c1, .slice D1 (len d1) e1] 26)) #[.bool (sgnZ z2), .slice A2 (len (magZ z2)) c2, .slice D2 (len d2) e2] 26) (.cells #[.bool false, .slice none 0 0, .slice none 0 0] 26)); simpa using h
  have B_r : Bx (((w.alloc (.cells #[.bool (sgnZ z1), .slice A1 (len (magZ z1)) c1, .slice D1 (len d1) e1] 26)).alloc (.cells #[.bool (sgnZ z2), .slice A2 (len (magZ z2)) c2, .slice D2 (len d2) e2] 26)).alloc (.cells #[.bool false, .slice none 0 0, .slice none 0 0] 26)) (w.heap.size + 1 + 1) #[.bool false, .slice none 0 0, .slice none 0 0] := by have h := (Bx.new ((w.alloc (.cells #[.bool (sgnZ z1), .slice A1 (len (magZ z1)) c1, .slice D1 (len d1) e1] 26)).alloc (.cells #[.bool (sgnZ z2), .slice A2 (len (magZ z2)) c2, .slice D2 (len d2) e2] 26)) #[.bool false, .slice none 0 0, .slice none 0 0] 26); simpa using h
  have ne_0_1 : ¬ (w.heap.size = w.heap.size + 1) := by omega
  have ne_0_2 : ¬ (w.heap.size = w.heap.size + 1 + 1) := by omega
  have ne_1_0 : ¬ (w.heap.size + 1 = w.heap.size) := by omega
  have ne_1_2 : ¬ (w.heap.size + 1 = w.heap.size + 1 + 1) := by omega
  have ne_2_0 : ¬ (w.heap.size + 1 + 1 = w.heap.size) := by omega
  have ne_2_1 : ¬ (w.heap.size + 1 + 1 = w.heap.size + 1) := by omega
  have ze : w.heap.size + 3 ≤ (((w.alloc (.cells #[.bool (sgnZ z1), .slice A1 (len (magZ z1)) c1, .slice D1 (len d1) e1] 26)).alloc (.cells #[.bool (sgnZ z2), .slice A2 (len (magZ z2)) c2, .slice D2 (len d2) e2] 26)).alloc (.cells #[.bool false, .slice none 0 0, .slice none 0 0] 26)).heap.size := (by simp)
  go_enter Tryz.func18, Tryz.ntmps18
  go_wp2_with fail
  refine callsNamed ?_
  intro p1 hp
  have O' : Old w p1 := (by rw [hp]; exact Below.trans (b := (((w.alloc (.cells #[.bool (sgnZ z1), .slice A1 (len (magZ z1)) c1, .slice D1 (len d1) e1] 26)).alloc (.cells #[.bool (sgnZ z2), .slice A2 (len (magZ z2)) c2, .slice D2 (len d2) e2] 26)).alloc (.cells #[.bool false, .slice none 0 0, .slice none 0 0] 26))) O oldA)
  replace B_x : Bx p1 (w.heap.size) #[.bool (sgnZ z1), .slice A1 (len (magZ z1)) c1, .slice D1 (len d1) e1] := (bxK B_x hp)
  replace B_y : Bx p1 (w.heap.size + 1) #[.bool (sgnZ z2), .slice A2 (len (magZ z2)) c2, .slice D2 (len d2) e2] := (bxK B_y hp)
  replace B_r : Bx p1 (w.heap.size + 1 + 1) #[.bool false, .slice none 0 0, .slice none 0 0] := (bxK B_r hp)
  have zp1 : (((w.alloc (.cells #[.bool (sgnZ z1), .slice A1 (len (magZ z1)) c1, .slice D1 (len d1) e1] 26)).alloc (.cells #[.bool (sgnZ z2), .slice A2 (len (magZ z2)) c2, .slice D2 (len d2) e2] 26)).alloc (.cells #[.bool false, .slice none 0 0, .slice none 0 0] 26)).heap.size ≤ p1.heap.size := (by rw [hp]; exact leA)
  clear hp O
  have O := O'
  clear O'
  refine (areRats_yes z1 d1 A1 D1 c1 e1 l1 m1 z2 d2 A2 D2 c2 e2 l2 m2 _ (Row.below (B := w.heap.size) h1 O (Nat.le_refl _)) (Row.below (B := w.heap.size) k1 O (Nat.le_refl _)) N1.out (Row.below (B := w.heap.size) h2 O (Nat.le_refl _)) (Row.below (B := w.heap.size) k2 O (Nat.le_refl _)) N2.out P1.out P2.out).mono ?_
  rintro e w1 ⟨rfl, o1⟩
  replace B_x := Bx.old B_x o1
  replace B_y := Bx.old B_y o1
  replace B_r := Bx.old B_r o1
  replace O := Old.trans O o1
  have zw1 := o1.size
  obtain ⟨q_x_0, q_x_1, q_x_2, f_x_0, f_x_1, f_x_2, q_x⟩ := B_x.all3
  obtain ⟨q_y_0, q_y_1, q_y_2, f_y_0, f_y_1, f_y_2, q_y⟩ := B_y.all3
  obtain ⟨q_r_0, q_r_1, q_r_2, f_r_0, f_r_1, f_r_2, q_r⟩ := B_r.all3
  go_wp2_with fail
  refine callsNamed ?_
  intro p2 hp
  clear q_x_0 q_x_1 q_x_2 f_x_0 f_x_1 f_x_2 q_x q_y_0 q_y_1 q_y_2 f_y_0 f_y_1 f_y_2 q_y q_r_0 q_r_1 q_r_2 f_r_0 f_r_1 f_r_2 q_r
  have O' : Old w p2 := (by rw [hp]; exact Below.trans (b := w1) O oldA)
  replace B_x : Bx p2 (w.heap.size) #[.bool (sgnZ z1), .slice A1 (len (magZ z1)) c1, .slice D1 (len d1) e1] := (bxK B_x hp)
  replace B_y : Bx p2 (w.heap.size + 1) #[.bool (sgnZ z2), .slice A2 (len (magZ z2)) c2, .slice D2 (len d2) e2] := (bxK B_y hp)
  replace B_r : Bx p2 (w.heap.size + 1 + 1) #[.bool false, .slice none 0 0, .slice none 0 0] := (bxK B_r hp)
  have zp2 : w1.heap.size ≤ p2.heap.size := (by rw [hp]; exact leA)
  clear hp O
  have O := O'
  clear O'
  refine (ratMax_one z1 d1 A1 D1 c1 e1 l1 m1 z2 d2 A2 D2 c2 e2 l2 m2 _ (Row.below (B := w.heap.size) h1 O (Nat.le_refl _)) (Row.below (B := w.heap.size) k1 O (Nat.le_refl _)) N1.out (Row.below (B := w.heap.size) h2 O (Nat.le_refl _)) (Row.below (B := w.heap.size) k2 O (Nat.le_refl _)) N2.out P1.out P2.out (by have := HC.out; omega)).mono ?_
  rintro e w2 ⟨rfl, o2⟩
  replace B_x := Bx.old B_x o2
  replace B_y := Bx.old B_y o2
  replace B_r := Bx.old B_r o2
  replace O := Old.trans O o2
  have zw2 := o2.size
  obtain ⟨q_x_0, q_x_1, q_x_2, f_x_0, f_x_1, f_x_2, q_x⟩ := B_x.all3
  obtain ⟨q_y_0, q_y_1, q_y_2, f_y_0, f_y_1, f_y_2, q_y⟩ := B_y.all3
  obtain ⟨q_r_0, q_r_1, q_r_2, f_r_0, f_r_1, f_r_2, q_r⟩ := B_r.all3
  go_wp2_with fail
  refine callsNamed ?_
  intro p3 hp
  clear q_x_0 q_x_1 q_x_2 f_x_0 f_x_1 f_x_2 q_x q_y_0 q_y_1 q_y_2 f_y_0 f_y_1 f_y_2 q_y q_r_0 q_r_1 q_r_2 f_r_0 f_r_1 f_r_2 q_r
  have O' : Old w p3 := (by rw [hp]; exact Below.trans (b := w2) O oldA)
  replace B_x : Bx p3 (w.heap.size) #[.bool (sgnZ z1), .slice A1 (len (magZ z1)) c1, .slice D1 (len d1) e1] := (bxK B_x hp)
  replace B_y : Bx p3 (w.heap.size + 1) #[.bool (sgnZ z2), .slice A2 (len (magZ z2)) c2, .slice D2 (len d2) e2] := (bxK B_y hp)
  replace B_r : Bx p3 (w.heap.size + 1 + 1) #[.bool false, .slice none 0 0, .slice none 0 0] := (bxK B_r hp)
  have zp3 : w2.heap.size ≤ p3.heap.size := (by rw [hp]; exact leA)
  clear hp O
  have O := O'
  clear O'
  refine (ownRat_any z1 d1 A1 D1 c1 e1 l1 m1 _ (Row.below (B := w.heap.size) h1 O (Nat.le_refl _)) (Row.below (B := w.heap.size) k1 O (Nat.le_refl _)) N1.out).mono ?_
  rintro e w3 ⟨⟨z9, d9, A9, c9, D9, e9, hv, rfl, r9, s9, ap⟩, o3⟩
  replace B_x := Bx.old B_x o3
  replace B_y := Bx.old B_y o3
  replace B_r := Bx.old B_r o3
  replace O := Old.trans O o3
  have zw3 := o3.size
  replace r9 := Row.more (lo' := p3.heap.size) r9 leA
  replace s9 := Row.more (lo' := p3.heap.size) s9 leA
  have lim_r9 := Row.lim r9
  have lim_s9 := Row.lim s9
  have HV := Lib.hid hv
  have AP := Lib.hid ap
  clear hv ap
  obtain ⟨q_x_0, q_x_1, q_x_2, f_x_0, f_x_1, f_x_2, q_x⟩ := B_x.all3
  obtain ⟨q_y_0, q_y_1, q_y_2, f_y_0, f_y_1, f_y_2, q_y⟩ := B_y.all3
  obtain ⟨q_r_0, q_r_1, q_r_2, f_r_0, f_r_1, f_r_2, q_r⟩ := B_r.all3
  go_wp2
  refine bodyPost_ret (v := .agg #[.bool (sgnZ z9), .slice A9 (len (magZ z9)) c9, .slice D9 (len d9) e9]) (by simp [results, Tryz.results18, go_sem, q_r_0, q_r_1, q_r_2]) rfl ⟨⟨z9, d9, A9, c9, D9, e9, (HM.out.trans HV.out), rfl, ?_, ?_, AP.out⟩, ?_⟩
  · refine Row.more (lo := p3.heap.size) ?_ leA
    repeat' (first | (with_reducible exact r9) | (with_reducible refine Row.far_set ?_ (by first | (simp <;> done) | (simp; omega) | omega) _))
  · refine Row.more (lo := p3.heap.size) ?_ leA
    repeat' (first | (with_reducible exact s9) | (with_reducible refine Row.far_set ?_ (by first | (simp <;> done) | (simp; omega) | omega) _))
  · exact Below.trans (b := w3) O oldA
set_option maxRecDepth 100000 in
set_option maxHeartbeats 1000000 in
theorem impl_RatMax_two (z1 : Int) (d1 : Nat) (A1 D1 : Option Addr) (c1 e1 l1 m1 : Nat) (z2 : Int) (d2 : Nat) (A2 D2 : Option Addr) (c2 e2 l2 m2 : Nat) (w : World) (h1 : NatS w l1 A1 c1 (magZ z1)) (k1 : NatS w m1 D1 e1 d1) (n1 : normF (z1, d1)) (h2 : NatS w l2 A2 c2 (magZ z2)) (k2 : NatS w m2 D2 e2 d2) (n2 : normF (z2, d2)) (p1 : 0 < d1) (p2 : 0 < d2) (hc : ¬ 0 ≤ cmpF (z1, d1) (z2, d2)) :
    Calls Tryz.prog 18 #[.agg #[.bool (sgnZ z1), .slice A1 (len (magZ z1)) c1, .slice D1 (len d1) e1], .agg #[.bool (sgnZ z2), .slice A2 (len (magZ z2)) c2, .slice D2 (len d2) e2]] w fun e w' => RetR e w' w.heap.size (maxF (z1, d1) (z2, d2)) ∧ Old w w' := by
  have N1 := Lib.hid n1
  have LN1 := norm_len n1
  have La1 : len (magZ z1) ≤ 24 := LN1.1
  have Lb1 : len d1 ≤ 24 := LN1.2
  clear n1 LN1
  have N2 := Lib.hid n2
  have LN2 := norm_len n2
  have La2 : len (magZ z2) ≤ 24 := LN2.1
  have Lb2 : len d2 ≤ 24 := LN2.2
  clear n2 LN2
  have HM : Hid (maxF (z1, d1) (z2, d2) = (z2, d2)) := Lib.hid (by unfold maxF; rw [if_neg (show ¬ (d1 = 0 ∨ d2 = 0) by omega), if_neg hc])
  have HC := Lib.hid hc
  clear hc
  have P1 := Lib.hid p1
  have P2 := Lib.hid p2
  clear p1 p2
  have O : Old w (((w.alloc (.cells #[.bool (sgnZ z1), .slice A1 (len (magZ z1)) c1, .slice D1 (len d1) e1] 26)).alloc (.cells #[.bool (sgnZ z2), .slice A2 (len (magZ z2)) c2, .slice D2 (len d2) e2] 26)).alloc (.cells #[.bool false, .slice none 0 0, .slice none 0 0] 26)) := oldA
  have B_x : Bx (((w.alloc (.cells #[.bool (sgnZ z1), .slice A1 (len (magZ z1)) c1, .slice D1 (len d1) e1] 26)).alloc (.cells #[.bool (sgnZ z2), .slice A2 (len (magZ z2)) c2, .slice D2 (len d2) e2] 26)).alloc (.cells #[.bool false, .slice none 0 0, .slice none 0 0] 26)) (w.heap.size) #[.bool (sgnZ z1), .slice A1 (len (magZ z1)) c1, .slice D1 (len d1) e1] := by have h := (Bx.alloc (Bx.alloc (Bx.new w #[.bool (sgnZ z1), .slice A1 (len (magZ z1)) c1, .slice D1 (len d1) e1] 26) (.cells #[.bool (sgnZ z2), .slice A2 (len (magZ z2)) c2, .slice D2 (len d2) e2] 26)) (.cells #[.bool false, .slice none 0 0, .slice none 0 0] 26)); simpa using h
  have B_y : Bx (((w.alloc (.cells #[.bool (sgnZ z1), .slice A1 (len (magZ z1)) c1, .slice D1 (len d1) e1] 26)).alloc (.cells #[.bool (sgnZ z2), .slice A2 (len (magZ z2)) c2, .slice D2 (len d2) e2] 26)).alloc (.cells #[.bool false, .slice none 0 0, .slice none 0 0] 26)) (w.heap.size + 1) #[.bool (sgnZ z2), .slice A2 (len (magZ z2)) c2, .slice D2 (len d2) e2] := by have h := (Bx.alloc (Bx.new (w.alloc (.cells #[.bool (sgnZ z1), .slice A1 (len (magZ z1)) c1, .slice D1 (len d1) e1] 26)) #[.bool (sgnZ z2), .slice A2 (len (magZ z2)) c2, .slice D2 (len d2) e2] 26) (.cells #[.bool false, .slice none 0 0, .slice none 0 0] 26)); simpa using h
  have B_r : Bx (((w.alloc (.cells #[.bool (sgnZ z1), .slice A1 (len (magZ z1)) c1, .slice D1 (len d1) e1] 26)).alloc (.cells #[.bool (sgnZ z2), .slice A2 (len (magZ z2)) c2, .slice D2 (len d2) e2] 26)).alloc (.cells #[.bool false, .slice none 0 0, .slice none 0 0] 26)) (w.heap.size + 1 + 1) #[.bool false, .slice none 0 0, .slice none 0 0] := by have h := (Bx.new ((w.alloc (.cells #[.bool (sgnZ z1), .slice A1 (len (magZ z1)) c1, .slice D1 (len d1) e1] 26)).alloc (.cells #[.bool (sgnZ z2), .slice A2 (len (magZ z2)) c2, .slice D2 (len d2) e2] 26)) #[.bool false, .slice none 0 0, .slice none 0 0] 26); simpa using h
  have ne_0_1 : ¬ (w.heap.size = w.heap.size + 1) := by omega
  have ne_0_2 : ¬ (w.heap.size = w.heap.size + 1 + 1) := by omega
  have ne_1_0 : ¬ (w.heap.size + 1 = w.heap.size) := by omega
  have ne_1_2 : ¬ (w.heap.size + 1 = w.heap.size + 1 + 1) := by omega
  have ne_2_0 : ¬ (w.heap.size + 1 + 1 = w.heap.size) := by omega
  have ne_2_1 : ¬ (w.heap.size + 1 + 1 = w.heap.size + 1) := by omega
  have ze : w.heap.size + 3 ≤ (((w.alloc (.cells #[.bool (sgnZ z1), .slice A1 (len (magZ z1)) c1, .slice D1 (len d1) e1] 26)).alloc (.cells #[.bool (sgnZ z2), .slice A2 (len (magZ z2)) c2, .slice D2 (len d2) e2] 26)).alloc (.cells #[.bool false, .slice none 0 0, .slice none 0 0] 26)).heap.size := (by simp)
  go_enter Tryz.func18, Tryz.ntmps18
  go_wp2_with fail
  refine callsNamed ?_
  intro p1 hp
  have O' : Old w p1 := (by rw [hp]; exact Below.trans (b := (((w.alloc (.cells #[.bool (sgnZ z1), .slice A1 (len (magZ z1)) c1, .slice D1 (len d1) e1] 26)).alloc (.cells #[.bool (sgnZ z2), .slice A2 (len (magZ z2)) c2, .slice D2 (len d2) e2] 26)).alloc (.cells #[.bool false, .slice none 0 0, .slice none 0 0] 26))) O oldA)
  replace B_x : Bx p1 (w.heap.size) #[.bool (sgnZ z1), .slice A1 (len (magZ z1)) c1, .slice D1 (len d1) e1] := (bxK B_x hp)
  replace B_y : Bx p1 (w.heap.size + 1) #[.bool (sgnZ z2), .slice A2 (len (magZ z2)) c2, .slice D2 (len d2) e2] := (bxK B_y hp)
  replace B_r : Bx p1 (w.heap.size + 1 + 1) #[.bool false, .slice none 0 0, .slice none 0 0] := (bxK B_r hp)
  have zp1 : (((w.alloc (.cells #[.bool (sgnZ z1), .slice A1 (len (magZ z1)) c1, .slice D1 (len d1) e1] 26)).alloc (.cells #[.bool (sgnZ z2), .slice A2 (len (magZ z2)) c2, .slice D2 (len d2) e2] 26)).alloc (.cells #[.bool false, .slice none 0 0, .slice none 0 0] 26)).heap.size ≤ p1.heap.size := (by rw [hp]; exact leA)
  clear hp O
  have O := O'
  clear O'
  refine (areRats_yes z1 d1 A1 D1 c1 e1 l1 m1 z2 d2 A2 D2 c2 e2 l2 m2 _ (Row.below (B := w.heap.size) h1 O (Nat.le_refl _)) (Row.below (B := w.heap.size) k1 O (Nat.le_refl _)) N1.out (Row.below (B := w.heap.size) h2 O (Nat.le_refl _)) (Row.below (B := w.heap.size) k2 O (Nat.le_refl _)) N2.out P1.out P2.out).mono ?_
  rintro e w1 ⟨rfl, o1⟩
  replace B_x := Bx.old B_x o1
  replace B_y := Bx.old B_y o1
  replace B_r := Bx.old B_r o1
  replace O := Old.trans O o1
  have zw1 := o1.size
  obtain ⟨q_x_0, q_x_1, q_x_2, f_x_0, f_x_1, f_x_2, q_x⟩ := B_x.all3
  obtain ⟨q_y_0, q_y_1, q_y_2, f_y_0, f_y_1, f_y_2, q_y⟩ := B_y.all3
  obtain ⟨q_r_0, q_r_1, q_r_2, f_r_0, f_r_1, f_r_2, q_r⟩ := B_r.all3
  go_wp2_with fail
  refine callsNamed ?_
  intro p2 hp
  clear q_x_0 q_x_1 q_x_2 f_x_0 f_x_1 f_x_2 q_x q_y_0 q_y_1 q_y_2 f_y_0 f_y_1 f_y_2 q_y q_r_0 q_r_1 q_r_2 f_r_0 f_r_1 f_r_2 q_r
  have O' : Old w p2 := (by rw [hp]; exact Below.trans (b := w1) O oldA)
  replace B_x : Bx p2 (w.heap.size) #[.bool (sgnZ z1), .slice A1 (len (magZ z1)) c1, .slice D1 (len d1) e1] := (bxK B_x hp)
  replace B_y : Bx p2 (w.heap.size + 1) #[.bool (sgnZ z2), .slice A2 (len (magZ z2)) c2, .slice D2 (len d2) e2] := (bxK B_y hp)
  replace B_r : Bx p2 (w.heap.size + 1 + 1) #[.bool false, .slice none 0 0, .slice none 0 0] := (bxK B_r hp)
  have zp2 : w1.heap.size ≤ p2.heap.size := (by rw [hp]; exact leA)
  clear hp O
  have O := O'
  clear O'
  refine (ratMax_two z1 d1 A1 D1 c1 e1 l1 m1 z2 d2 A2 D2 c2 e2 l2 m2 _ (Row.below (B := w.heap.size) h1 O (Nat.le_refl _)) (Row.below (B := w.heap.size) k1 O (Nat.le_refl _)) N1.out (Row.below (B := w.heap.size) h2 O (Nat.le_refl _)) (Row.below (B := w.heap.size) k2 O (Nat.le_refl _)) N2.out P1.out P2.out (by have := HC.out; omega)).mono ?_
  rintro e w2 ⟨rfl, o2⟩
  replace B_x := Bx.old B_x o2
  replace B_y := Bx.old B_y o2
  replace B_r := Bx.old B_r o2
  replace O := Old.trans O o2
  have zw2 := o2.size
  obtain ⟨q_x_0, q_x_1, q_x_2, f_x_0, f_x_1, f_x_2, q_x⟩ := B_x.all3
  obtain ⟨q_y_0, q_y_1, q_y_2, f_y_0, f_y_1, f_y_2, q_y⟩ := B_y.all3
  obtain ⟨q_r_0, q_r_1, q_r_2, f_r_0, f_r_1, f_r_2, q_r⟩ := B_r.all3
  go_wp2_with fail
  refine callsNamed ?_
  intro p3 hp
  clear q_x_0 q_x_1 q_x_2 f_x_0 f_x_1 f_x_2 q_x q_y_0 q_y_1 q_y_2 f_y_0 f_y_1 f_y_2 q_y q_r_0 q_r_1 q_r_2 f_r_0 f_r_1 f_r_2 q_r
  have O' : Old w p3 := (by rw [hp]; exact Below.trans (b := w2) O oldA)
  replace B_x : Bx p3 (w.heap.size) #[.bool (sgnZ z1), .slice A1 (len (magZ z1)) c1, .slice D1 (len d1) e1] := (bxK B_x hp)
  replace B_y : Bx p3 (w.heap.size + 1) #[.bool (sgnZ z2), .slice A2 (len (magZ z2)) c2, .slice D2 (len d2) e2] := (bxK B_y hp)
  replace B_r : Bx p3 (w.heap.size + 1 + 1) #[.bool false, .slice none 0 0, .slice none 0 0] := (bxK B_r hp)
  have zp3 : w2.heap.size ≤ p3.heap.size := (by rw [hp]; exact leA)
  clear hp O
  have O := O'
  clear O'
  refine (ownRat_any z2 d2 A2 D2 c2 e2 l2 m2 _ (Row.below (B := w.heap.size) h2 O (Nat.le_refl _)) (Row.below (B := w.heap.size) k2 O (Nat.le_refl _)) N2.out).mono ?_
  rintro e w3 ⟨⟨z9, d9, A9, c9, D9, e9, hv, rfl, r9, s9, ap⟩, o3⟩
  replace B_x := Bx.old B_x o3
  replace B_y := Bx.old B_y o3
  replace B_r := Bx.old B_r o3
  replace O := Old.trans O o3
  have zw3 := o3.size
  replace r9 := Row.more (lo' := p3.heap.size) r9 leA
  replace s9 := Row.more (lo' := p3.heap.size) s9 leA
  have lim_r9 := Row.lim r9
  have lim_s9 := Row.lim s9
  have HV := Lib.hid hv
  have AP := Lib.hid ap
  clear hv ap
  obtain ⟨q_x_0, q_x_1, q_x_2, f_x_0, f_x_1, f_x_2, q_x⟩ := B_x.all3
  obtain ⟨q_y_0, q_y_1, q_y_2, f_y_0, f_y_1, f_y_2, q_y⟩ := B_y.all3
  obtain ⟨q_r_0, q_r_1, q_r_2, f_r_0, f_r_1, f_r_2, q_r⟩ := B_r.all3
  go_wp2
  refine bodyPost_ret (v := .agg #[.bool (sgnZ z9), .slice A9 (len (magZ z9)) c9, .slice D9 (len d9) e9]) (by simp [results, Tryz.results18, go_sem, q_r_0, q_r_1, q_r_2]) rfl ⟨⟨z9, d9, A9, c9, D9, e9, (HM.out.trans HV.out), rfl, ?_, ?_, AP.out⟩, ?_⟩
  · refine Row.more (lo := p3.heap.size) ?_ leA
    repeat' (first | (with_reducible exact r9) | (with_reducible refine Row.far_set ?_ (by first | (simp <;> done) | (simp; omega) | omega) _))
  · refine Row.more (lo := p3.heap.size) ?_ leA
    repeat' (first | (with_reducible exact s9) | (with_reducible refine Row.far_set ?_ (by first | (simp <;> done) | (simp; omega) | omega) _))
  · exact Below.trans (b := w3) O oldA

theorem impl_RatMax_yes (z1 : Int) (d1 : Nat) (A1 D1 : Option Addr) (c1 e1 l1 m1 : Nat) (z2 : Int) (d2 : Nat) (A2 D2 : Option Addr) (c2 e2 l2 m2 : Nat) (w : World) (h1 : NatS w l1 A1 c1 (magZ z1)) (k1 : NatS w m1 D1 e1 d1) (n1 : normF (z1, d1)) (h2 : NatS w l2 A2 c2 (magZ z2)) (k2 : NatS w m2 D2 e2 d2) (n2 : normF (z2, d2)) (p1 : 0 < d1) (p2 : 0 < d2) :
    Calls Tryz.prog 18 #[.agg #[.bool (sgnZ z1), .slice A1 (len (magZ z1)) c1, .slice D1 (len d1) e1], .agg #[.bool (sgnZ z2), .slice A2 (len (magZ z2)) c2, .slice D2 (len d2) e2]] w fun e w' => RetR e w' w.heap.size (maxF (z1, d1) (z2, d2)) ∧ Old w w' := by
  by_cases hc : 0 ≤ cmpF (z1, d1) (z2, d2)
  · exact impl_RatMax_one z1 d1 A1 D1 c1 e1 l1 m1 z2 d2 A2 D2 c2 e2 l2 m2 w h1 k1 n1 h2 k2 n2 p1 p2 hc
  · exact impl_RatMax_two z1 d1 A1 D1 c1 e1 l1 m1 z2 d2 A2 D2 c2 e2 l2 m2 w h1 k1 n1 h2 k2 n2 p1 p2 hc
set_option maxRecDepth 100000 in
set_option maxHeartbeats 1000000 in
theorem impl_RatMax_no1 (b1 : Bool) (A1 : Option Addr) (n1 c1 l1 : Nat) (f1 : Nat → Int) (D1 : Option Addr) (m1 e1 u1 : Nat) (g1 : Nat → Int) (b2 : Bool) (A2 : Option Addr) (n2 c2 l2 : Nat) (f2 : Nat → Int) (D2 : Option Addr) (m2 e2 u2 : Nat) (g2 : Nat → Int) (w : World) (h1 : Row w l1 A1 n1 c1 f1) (k1 : Row w u1 D1 m1 e1 g1) (hn1 : n1 ≤ 1048576) (hm1 : m1 ≤ 1048576) (q1 : ¬ okR b1 n1 f1 m1 g1) :
    Calls Tryz.prog 18 #[.agg #[.bool b1, .slice A1 n1 c1, .slice D1 m1 e1], .agg #[.bool b2, .slice A2 n2 c2, .slice D2 m2 e2]] w fun e w' => RetR e w' w.heap.size ((0, 0)) ∧ Old w w' := by
  have Q1 := Lib.hid q1
  clear q1
  have O : Old w (((w.alloc (.cells #[.bool b1, .slice A1 n1 c1, .slice D1 m1 e1] 26)).alloc (.cells #[.bool b2, .slice A2 n2 c2, .slice D2 m2 e2] 26)).alloc (.cells #[.bool false, .slice none 0 0, .slice none 0 0] 26)) := oldA
  have B_x : Bx (((w.alloc (.cells #[.bool b1, .slice A1 n1 c1, .slice D1 m1 e1] 26)).alloc (.cells #[.bool b2, .slice A2 n2 c2, .slice D2 m2 e2] 26)).alloc (.cells #[.bool false, .slice none 0 0, .slice none 0 0] 26)) (w.heap.size) #[.bool b1, .slice A1 n1 c1, .slice D1 m1 e1] := by have h := (Bx.alloc (Bx.alloc (Bx.new w #[.bool b1, .slice A1 n1 c1, .slice D1 m1 e1] 26) (.cells #[.bool b2, .slice A2 n2 c2, .slice D2 m2 e2] 26)) (.cells #[.bool false, .slice none 0 0, .slice none 0 0] 26)); simpa using h
  have B_y : Bx (((w.alloc (.cells #[.bool b1, .slice A1 n1 c1, .slice D1 m1 e1] 26)).alloc (.cells #[.bool b2, .slice A2 n2 c2, .slice D2 m2 e2] 26)).alloc (.cells #[.bool false, .slice none 0 0, .slice none 0 0] 26)) (w.heap.size + 1) #[.bool b2, .slice A2 n2 c2, .slice D2 m2 e2] := by have h := (Bx.alloc (Bx.new (w.alloc (.cells #[.bool b1, .slice A1 n1 c1, .slice D1 m1 e1] 26)) #[.bool b2, .slice A2 n2 c2, .slice D2 m2 e2] 26) (.cells #[.bool false, .slice none 0 0, .slice none 0 0] 26)); simpa using h
  have B_r : Bx (((w.alloc (.cells #[.bool b1, .slice A1 n1 c1, .slice D1 m1 e1] 26)).alloc (.cells #[.bool b2, .slice A2 n2 c2, .slice D2 m2 e2] 26)).alloc (.cells #[.bool false, .slice none 0 0, .slice none 0 0] 26)) (w.heap.size + 1 + 1) #[.bool false, .slice none 0 0, .slice none 0 0] := by have h := (Bx.new ((w.alloc (.cells #[.bool b1, .slice A1 n1 c1, .slice D1 m1 e1] 26)).alloc (.cells #[.bool b2, .slice A2 n2 c2, .slice D2 m2 e2] 26)) #[.bool false, .slice none 0 0, .slice none 0 0] 26); simpa using h
  have ne_0_1 : ¬ (w.heap.size = w.heap.size + 1) := by omega
  have ne_0_2 : ¬ (w.heap.size = w.heap.size + 1 + 1) := by omega
  have ne_1_0 : ¬ (w.heap.size + 1 = w.heap.size) := by omega
  have ne_1_2 : ¬ (w.heap.size + 1 = w.heap.size + 1 + 1) := by omega
  have ne_2_0 : ¬ (w.heap.size + 1 + 1 = w.heap.size) := by omega
  have ne_2_1 : ¬ (w.heap.size + 1 + 1 = w.heap.size + 1) := by omega
  have ze : w.heap.size + 3 ≤ (((w.alloc (.cells #[.bool b1, .slice A1 n1 c1, .slice D1 m1 e1] 26)).alloc (.cells #[.bool b2, .slice A2 n2 c2, .slice D2 m2 e2] 26)).alloc (.cells #[.bool false, .slice none 0 0, .slice none 0 0] 26)).heap.size := (by simp)
  go_enter Tryz.func18, Tryz.ntmps18
  go_wp2_with fail
  refine callsNamed ?_
  intro p1 hp
  have O' : Old w p1 := (by rw [hp]; exact Below.trans (b := (((w.alloc (.cells #[.bool b1, .slice A1 n1 c1, .slice D1 m1 e1] 26)).alloc (.cells #[.bool b2, .slice A2 n2 c2, .slice D2 m2 e2] 26)).alloc (.cells #[.bool false, .slice none 0 0, .slice none 0 0] 26))) O oldA)
  replace B_x : Bx p1 (w.heap.size) #[.bool b1, .slice A1 n1 c1, .slice D1 m1 e1] := (bxK B_x hp)
  replace B_y : Bx p1 (w.heap.size + 1) #[.bool b2, .slice A2 n2 c2, .slice D2 m2 e2] := (bxK B_y hp)
  replace B_r : Bx p1 (w.heap.size + 1 + 1) #[.bool false, .slice none 0 0, .slice none 0 0] := (bxK B_r hp)
  have zp1 : (((w.alloc (.cells #[.bool b1, .slice A1 n1 c1, .slice D1 m1 e1] 26)).alloc (.cells #[.bool b2, .slice A2 n2 c2, .slice D2 m2 e2] 26)).alloc (.cells #[.bool false, .slice none 0 0, .slice none 0 0] 26)).heap.size ≤ p1.heap.size := (by rw [hp]; exact leA)
  clear hp O
  have O := O'
  clear O'
  refine (areRats_no1 b1 A1 n1 c1 l1 f1 D1 m1 e1 u1 g1 b2 A2 n2 c2 l2 f2 D2 m2 e2 u2 g2 _ (Row.below (B := w.heap.size) h1 O (Nat.le_refl _)) (Row.below (B := w.heap.size) k1 O (Nat.le_refl _)) hn1 hm1 Q1.out).mono ?_
  rintro e w1 ⟨rfl, o1⟩
  replace B_x := Bx.old B_x o1
  replace B_y := Bx.old B_y o1
  replace B_r := Bx.old B_r o1
  replace O := Old.trans O o1
  have zw1 := o1.size
  obtain ⟨q_x_0, q_x_1, q_x_2, f_x_0, f_x_1, f_x_2, q_x⟩ := B_x.all3
  obtain ⟨q_y_0, q_y_1, q_y_2, f_y_0, f_y_1, f_y_2, q_y⟩ := B_y.all3
  obtain ⟨q_r_0, q_r_1, q_r_2, f_r_0, f_r_1, f_r_2, q_r⟩ := B_r.all3
  go_wp2
  refine bodyPost_ret (v := .agg #[.bool false, .slice none 0 0, .slice none 0 0]) (by simp [results, Tryz.results18, go_sem, q_r_0, q_r_1, q_r_2]) rfl ⟨RetR.zero rfl, Below.trans (b := w1) O oldA⟩
set_option maxRecDepth 100000 in
set_option maxHeartbeats 1000000 in
theorem impl_RatMax_no2 (z1 : Int) (d1 : Nat) (A1 D1 : Option Addr) (c1 e1 l1 m1 : Nat) (b2 : Bool) (A2 : Option Addr) (n2 c2 l2 : Nat) (f2 : Nat → Int) (D2 : Option Addr) (m2 e2 u2 : Nat) (g2 : Nat → Int) (w : World) (h1 : NatS w l1 A1 c1 (magZ z1)) (k1 : NatS w m1 D1 e1 d1) (n1 : normF (z1, d1)) (p1 : 0 < d1) (h2 : Row w l2 A2 n2 c2 f2) (k2 : Row w u2 D2 m2 e2 g2) (hn2 : n2 ≤ 1048576) (hm2 : m2 ≤ 1048576) (q2 : ¬ okR b2 n2 f2 m2 g2) :
    Calls Tryz.prog 18 #[.agg #[.bool (sgnZ z1), .slice A1 (len (magZ z1)) c1, .slice D1 (len d1) e1], .agg #[.bool b2, .slice A2 n2 c2, .slice D2 m2 e2]] w fun e w' => RetR e w' w.heap.size ((0, 0)) ∧ Old w w' := by
  have N1 := Lib.hid n1
  have LN1 := norm_len n1
  have La1 : len (magZ z1) ≤ 24 := LN1.1
  have Lb1 : len d1 ≤ 24 := LN1.2
  clear n1 LN1
  have Q2 := Lib.hid q2
  have P1 := Lib.hid p1
  clear q2 p1
  have O : Old w (((w.alloc (.cells #[.bool (sgnZ z1), .slice A1 (len (magZ z1)) c1, .slice D1 (len d1) e1] 26)).alloc (.cells #[.bool b2, .slice A2 n2 c2, .slice D2 m2 e2] 26)).alloc (.cells #[.bool false, .slice none 0 0, .slice none 0 0] 26)) := oldA
  have B_x : Bx (((w.alloc (.cells #[.bool (sgnZ z1), .slice A1 (len (magZ z1)) c1, .slice D1 (len d1) e1] 26)).alloc (.cells #[.bool b2, .slice A2 n2 c2, .slice D2 m2 e2] 26)).alloc (.cells #[.bool false, .slice none 0 0, .slice none 0 0] 26)) (w.heap.size) #[.bool (sgnZ z1), .slice A1 (len (magZ z1)) c1, .slice D1 (len d1) e1] := by have h := (Bx.alloc (Bx.alloc (Bx.new w #[.bool (sgnZ z1), .slice A1 (len (magZ z1)) c1, .slice D1 (len d1) e1] 26) (.cells #[.bool b2, .slice A2 n2 c2, .slice D2 m2 e2] 26)) (.cells #[.bool false, .slice none 0 0, .slice none 0 0] 26)); simpa using h
  have B_y : Bx (((w.alloc (.cells #[.bool (sgnZ z1), .slice A1 (len (magZ z1)) c1, .slice D1 (len d1) e1] 26)).alloc (.cells #[.bool b2, .slice A2 n2 c2, .slice D2 m2 e2] 26)).alloc (.cells #[.bool false, .slice none 0 0, .slice none 0 0] 26)) (w.heap.size + 1) #[.bool b2, .slice A2 n2 c2, .slice D2 m2 e2] := by have h := (Bx.alloc (Bx.new (w.alloc (.cells #[.bool (sgnZ z1), .slice A1 (len (magZ z1)) c1, .slice D1 (len d1) e1] 26)) #[.bool b2, .slice A2 n2 c2, .slice D2 m2 e2] 26) (.cells #[.bool false, .slice none 0 0, .slice none 0 0] 26)); simpa using h
  have B_r : Bx (((w.alloc (.cells #[.bool (sgnZ z1), .slice A1 (len (magZ z1)) c1, .slice D1 (len d1) e1] 26)).alloc (.cells #[.bool b2, .slice A2 n2 c2, .slice D2 m2 e2] 26)).alloc (.cells #[.bool false, .slice none 0 0, .slice none 0 0] 26)) (w.heap.size + 1 + 1) #[.bool false, .slice none 0 0, .slice none 0 0] := by have h := (Bx.new ((w.alloc (.cells #[.bool (sgnZ z1), .slice A1 (len (magZ z1)) c1, .slice D1 (len d1) e1] 26)).alloc (.cells #[.bool b2, .slice A2 n2 c2, .slice D2 m2 e2] 26)) #[.bool false, .slice none 0 0, .slice none 0 0] 26); simpa using h
  have ne_0_1 : ¬ (w.heap.size = w.heap.size + 1) := by omega
  have ne_0_2 : ¬ (w.heap.size = w.heap.size + 1 + 1) := by omega
  have ne_1_0 : ¬ (w.heap.size + 1 = w.heap.size) := by omega
  have ne_1_2 : ¬ (w.heap.size + 1 = w.heap.size + 1 + 1) := by omega
  have ne_2_0 : ¬ (w.heap.size + 1 + 1 = w.heap.size) := by omega
  have ne_2_1 : ¬ (w.heap.size + 1 + 1 = w.heap.size + 1) := by omega
  have ze : w.heap.size + 3 ≤ (((w.alloc (.cells #[.bool (sgnZ z1), .slice A1 (len (magZ z1)) c1, .slice D1 (len d1) e1] 26)).alloc (.cells #[.bool b2, .slice A2 n2 c2, .slice D2 m2 e2] 26)).alloc (.cells #[.bool false, .slice none 0 0, .slice none 0 0] 26)).heap.size := (by simp)
  go_enter Tryz.func18, Tryz.ntmps18
  go_wp2_with fail
  refine callsNamed ?_
  intro p1 hp
  have O' : Old w p1 := (by rw [hp]; exact Below.trans (b := (((w.alloc (.cells #[.bool (sgnZ z1), .slice A1 (len (magZ z1)) c1, .slice D1 (len d1) e1] 26)).alloc (.cells #[.bool b2, .slice A2 n2 c2, .slice D2 m2 e2] 26)).alloc (.cells #[.bool false, .slice none 0 0, .slice none 0 0] 26))) O oldA)
  replace B_x : Bx p1 (w.heap.size) #[.bool (sgnZ z1), .slice A1 (len (magZ z1)) c1, .slice D1 (len d1) e1] := (bxK B_x hp)
  replace B_y : Bx p1 (w.heap.size + 1) #[.bool b2, .slice A2 n2 c2, .slice D2 m2 e2] := (bxK B_y hp)
  replace B_r : Bx p1 (w.heap.size + 1 + 1) #[.bool false, .slice none 0 0, .slice none 0 0] := (bxK B_r hp)
  have zp1 : (((w.alloc (.cells #[.bool (sgnZ z1), .slice A1 (len (magZ z1)) c1, .slice D1 (len d1) e1] 26)).alloc (.cells #[.bool b2, .slice A2 n2 c2, .slice D2 m2 e2] 26)).alloc (.cells #[.bool false, .slice none 0 0, .slice none 0 0] 26)).heap.size ≤ p1.heap.size := (by rw [hp]; exact leA)
  clear hp O
  have O := O'
  clear O'
  refine (areRats_no2 z1 d1 A1 D1 c1 e1 l1 m1 b2 A2 n2 c2 l2 f2 D2 m2 e2 u2 g2 _ (Row.below (B := w.heap.size) h1 O (Nat.le_refl _)) (Row.below (B := w.heap.size) k1 O (Nat.le_refl _)) N1.out P1.out (Row.below (B := w.heap.size) h2 O (Nat.le_refl _)) (Row.below (B := w.heap.size) k2 O (Nat.le_refl _)) hn2 hm2 Q2.out).mono ?_
  rintro e w1 ⟨rfl, o1⟩
  replace B_x := Bx.old B_x o1
  replace B_y := Bx.old B_y o1
  replace B_r := Bx.old B_r o1
  replace O := Old.trans O o1
  have zw1 := o1.size
  obtain ⟨q_x_0, q_x_1, q_x_2, f_x_0, f_x_1, f_x_2, q_x⟩ := B_x.all3
  obtain ⟨q_y_0, q_y_1, q_y_2, f_y_0, f_y_1, f_y_2, q_y⟩ := B_y.all3
  obtain ⟨q_r_0, q_r_1, q_r_2, f_r_0, f_r_1, f_r_2, q_r⟩ := B_r.all3
  go_wp2
  refine bodyPost_ret (v := .agg #[.bool false, .slice none 0 0, .slice none 0 0]) (by simp [results, Tryz.results18, go_sem, q_r_0, q_r_1, q_r_2]) rfl ⟨RetR.zero rfl, Below.trans (b := w1) O oldA⟩
theorem impl_RatMax (b1 : Bool) (A1 : Option Addr) (n1 c1 l1 : Nat) (f1 : Nat → Int) (D1 : Option Addr) (m1 e1 u1 : Nat) (g1 : Nat → Int) (b2 : Bool) (A2 : Option Addr) (n2 c2 l2 : Nat) (f2 : Nat → Int) (D2 : Option Addr) (m2 e2 u2 : Nat) (g2 : Nat → Int) (w : World) (h1 : Row w l1 A1 n1 c1 f1) (k1 : Row w u1 D1 m1 e1 g1) (h2 : Row w l2 A2 n2 c2 f2) (k2 : Row w u2 D2 m2 e2 g2) (hn1 : n1 ≤ 1048576) (hm1 : m1 ≤ 1048576) (hn2 : n2 ≤ 1048576) (hm2 : m2 ≤ 1048576) :
    Calls Tryz.prog 18 #[.agg #[.bool b1, .slice A1 n1 c1, .slice D1 m1 e1], .agg #[.bool b2, .slice A2 n2 c2, .slice D2 m2 e2]] w fun e w' => RetR e w' w.heap.size (vRatMax b1 n1 f1 m1 g1 b2 n2 f2 m2 g2) ∧ Old w w' := by
  unfold vRatMax
  by_cases q1 : okR b1 n1 f1 m1 g1
  · obtain ⟨z1, d1, e1', e2', e3', p1, nn1, v1, s1, s1'⟩ := okR_z q1 h1 k1
    by_cases q2 : okR b2 n2 f2 m2 g2
    · obtain ⟨z2, d2, e4', e5', e6', p2, nn2, v2, s2, s2'⟩ := okR_z q2 h2 k2
      rw [v1, v2, e1', e2', e3', e4', e5', e6']
      exact impl_RatMax_yes z1 d1 A1 D1 c1 e1 l1 u1 z2 d2 A2 D2 c2 e2 l2 u2 w s1 s1' nn1 s2 s2' nn2 p1 p2
    · rw [vR_no q2, maxF_no2 rfl, e1', e2', e3']
      exact impl_RatMax_no2 z1 d1 A1 D1 c1 e1 l1 u1 b2 A2 n2 c2 l2 f2 D2 m2 e2 u2 g2 w s1 s1' nn1 p1 h2 k2 hn2 hm2 q2
  · rw [vR_no q1, maxF_no1 rfl]
    exact impl_RatMax_no1 b1 A1 n1 c1 l1 f1 D1 m1 e1 u1 g1 b2 A2 n2 c2 l2 f2 D2 m2 e2 u2 g2 w h1 k1 hn1 hm1 q1
theorem impl_RatMax_v (z1 : Int) (d1 : Nat) (A1 D1 : Option Addr) (c1 e1 l1 m1 : Nat) (z2 : Int) (d2 : Nat) (A2 D2 : Option Addr) (c2 e2 l2 m2 : Nat) (w : World) (h1 : NatS w l1 A1 c1 (magZ z1)) (k1 : NatS w m1 D1 e1 d1) (n1 : normF (z1, d1)) (h2 : NatS w l2 A2 c2 (magZ z2)) (k2 : NatS w m2 D2 e2 d2) (n2 : normF (z2, d2)) :
    Calls Tryz.prog 18 #[.agg #[.bool (sgnZ z1), .slice A1 (len (magZ z1)) c1, .slice D1 (len d1) e1], .agg #[.bool (sgnZ z2), .slice A2 (len (magZ z2)) c2, .slice D2 (len d2) e2]] w fun e w' => RetR e w' w.heap.size (maxF (z1, d1) (z2, d2)) ∧ Old w w' := by
  have hl1 := norm_len n1
  have hl2 := norm_len n2
  simp only at hl1 hl2
  have h := impl_RatMax (sgnZ z1) A1 _ c1 l1 _ D1 _ e1 m1 _ (sgnZ z2) A2 _ c2 l2 _ D2 _ e2 m2 _ w h1 k1 h2 k2 (by omega) (by omega) (by omega) (by omega)
  unfold vRatMax at h
  rw [vR_val n1, vR_val n2] at h
  exact h
end Go.Proofs.YtgchbbjhdeobpaaGreatDoor
