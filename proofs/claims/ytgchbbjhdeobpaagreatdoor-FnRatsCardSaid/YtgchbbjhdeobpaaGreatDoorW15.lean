import Derived.BigQuiet
import Derived.ChangeOld
import Derived.Deep.DeepCutAuto
import Derived.Deep.DrawnRows
import Derived.Deep.OwnRows
import Derived.Deep.QuietTactic
import Derived.Deep.RegionHeld3
import Derived.Deep.RegionWith
import Derived.Deep.Upon
import Derived.IntWalk
import Derived.JoinedOf
import Derived.KernelRfl
import Derived.Laws.FloatArith
import Derived.Lib.Hide
import Derived.Lib.SmallJoins
import Derived.OpenShut
import Derived.ProofKit
import Derived.ShutString
import Derived.Test.YtgchbbjhdeobpaaGreatDoorRows
import Derived.WalkKit
import Derived.WalkLawsBesides
import Derived.WalkSpells
import Ieee.Arith
import Derived.Test.YtgchbbjhdeobpaaGreatDoorW1
import Derived.Test.YtgchbbjhdeobpaaGreatDoorW2
import Derived.Test.YtgchbbjhdeobpaaGreatDoorW3
import Derived.Test.YtgchbbjhdeobpaaGreatDoorW4
import Derived.Test.YtgchbbjhdeobpaaGreatDoorW5
import Derived.Test.YtgchbbjhdeobpaaGreatDoorW9
import Derived.Test.YtgchbbjhdeobpaaGreatDoorW11
import Derived.Test.YtgchbbjhdeobpaaGreatDoorW12
import Derived.Test.YtgchbbjhdeobpaaGreatDoorW14
/- What the claim's proof reaches of: RatMakeI, RatMakeE, RatFew, Wq, RatEqE, RatFacts, RatAddS, RatAddI. -/
namespace Go.Proofs.YtgchbbjhdeobpaaGreatDoor
set_option linter.unusedVariables false
open Go.RowKit Num
attribute [local go_sem ↓] Go.wp_at_zero Go.wp_at_succ
theorem neg_sgn (z : Int) : (!sgnZ z && decide (0 < len (magZ z))) = sgnZ (-z) := by
  rw [len_dec]
  unfold sgnZ magZ
  rcases Int.lt_trichotomy z 0 with h | h | h
  · rw [decide_eq_true h, decide_eq_false (show ¬ -z < 0 by omega)]; rfl
  · subst h; rfl
  · rw [decide_eq_false (show ¬ z < 0 by omega), decide_eq_true (show 0 < z.natAbs by omega), decide_eq_true (show -z < 0 by omega)]; rfl
theorem quo_pos {z : Int} {d : Nat} (h : sgnZ z = true) : 0 < magZ z / Nat.gcd (magZ z) d :=
  Nat.div_pos (Nat.le_of_dvd (sgn_pos h) (Nat.gcd_dvd_left _ _)) (Nat.gcd_pos_of_pos_left _ (sgn_pos h))
set_option maxRecDepth 100000 in
set_option maxHeartbeats 1000000 in
theorem ratMake_one_fit (z : Int) (d : Nat) (A1 A2 : Option Addr) (c1 c2 l1 l2 : Nat) (w : World) (h1 : NatS w l1 A1 c1 (magZ z)) (h2 : NatS w l2 A2 c2 d) (hx : len (magZ z) ≤ 100) (hy : len d ≤ 100) (hp : 0 < d) (h1' : d = 1) (hf1 : len (magZ z) ≤ 24) :
    Calls Tryz.prog 74 #[.agg #[.bool (sgnZ z), .slice A1 (len (magZ z)) c1], .slice A2 (len d) c2] w fun e w' => RetR e w' w.heap.size (mkF z d) ∧ Old w w' := by
  have HD := Lib.hid h1'
  have HPS : Hid (sgnZ z = true → 0 < magZ z) := Lib.hid sgn_pos
  have hf2 : len d ≤ 24 := by rw [HD.out, len_1]; omega
  have t1 : ¬ (24 : Int) < ((len (magZ z) : Nat) : Int) := by omega
  have t2 : ¬ (24 : Int) < ((len d : Nat) : Int) := by omega
  obtain ⟨q, hq⟩ : ∃ q, q = signed (sgnZ z) (magZ z) := ⟨_, rfl⟩
  have Hq : Hid (capZ (signed (sgnZ z) (magZ z)) = q) := Lib.hid (by rw [capZ_fit (by rw [mag_signed]; omega)]; exact hq.symm)
  have Hv : Hid (mkF z d = (q, d)) := Lib.hid (by rw [HD.out, mkF_yes Nat.one_pos (by rw [Nat.gcd_one_right, Nat.div_one]; exact hf1) (by rw [Nat.gcd_one_right, Nat.div_one, len_1]; omega), Nat.gcd_one_right, Nat.div_one, Nat.div_one, hq])
  clear hq
  clear h1' hp
  have O : Old w ((w.alloc (.cells #[.bool (sgnZ z), .slice A1 (len (magZ z)) c1] 24)).alloc (.cells #[.bool false, .slice none 0 0, .slice none 0 0] 26)) := oldA
  have B_x : Bx ((w.alloc (.cells #[.bool (sgnZ z), .slice A1 (len (magZ z)) c1] 24)).alloc (.cells #[.bool false, .slice none 0 0, .slice none 0 0] 26)) (w.heap.size) #[.bool (sgnZ z), .slice A1 (len (magZ z)) c1] := by have h := (Bx.alloc (Bx.new w #[.bool (sgnZ z), .slice A1 (len (magZ z)) c1] 24) (.cells #[.bool false, .slice none 0 0, .slice none 0 0] 26)); simpa using h
  have B_r : Bx ((w.alloc (.cells #[.bool (sgnZ z), .slice A1 (len (magZ z)) c1] 24)).alloc (.cells #[.bool false, .slice none 0 0, .slice none 0 0] 26)) (w.heap.size + 1) #[.bool false, .slice none 0 0, .slice none 0 0] := by have h := (Bx.new (w.alloc (.cells #[.bool (sgnZ z), .slice A1 (len (magZ z)) c1] 24)) #[.bool false, .slice none 0 0, .slice none 0 0] 26); simpa using h
  have ne_0_1 : ¬ (w.heap.size = w.heap.size + 1) := by omega
  have ne_1_0 : ¬ (w.heap.size + 1 = w.heap.size) := by omega
  have ze : w.heap.size + 2 ≤ ((w.alloc (.cells #[.bool (sgnZ z), .slice A1 (len (magZ z)) c1] 24)).alloc (.cells #[.bool false, .slice none 0 0, .slice none 0 0] 26)).heap.size := (by simp)
  go_enter Tryz.func74, Tryz.ntmps74
  go_wp2_with fail
  refine callsNamed ?_
  intro p1 hp
  have O' : Old w p1 := (by rw [hp]; exact Below.trans (b := ((w.alloc (.cells #[.bool (sgnZ z), .slice A1 (len (magZ z)) c1] 24)).alloc (.cells #[.bool false, .slice none 0 0, .slice none 0 0] 26))) O oldA)
  replace B_x : Bx p1 (w.heap.size) #[.bool (sgnZ z), .slice A1 (len (magZ z)) c1] := (bxK B_x hp)
  replace B_r : Bx p1 (w.heap.size + 1) #[.bool false, .slice none 0 0, .slice none 0 0] := (bxK B_r hp)
  have zp1 : ((w.alloc (.cells #[.bool (sgnZ z), .slice A1 (len (magZ z)) c1] 24)).alloc (.cells #[.bool false, .slice none 0 0, .slice none 0 0] 26)).heap.size ≤ p1.heap.size := (by rw [hp]; exact leA)
  clear hp O
  have O := O'
  clear O'
  refine (plain_to (by rw [decide_eq_true HD.out]) (isOne_any A2 c2 d l2 _ (Row.below (B := w.heap.size) h2 O (Nat.le_refl _)))).mono ?_
  rintro e w1 ⟨rfl, o1⟩
  replace B_x := Bx.old B_x o1
  replace B_r := Bx.old B_r o1
  replace O := Old.trans O o1
  have zw1 := o1.size
  obtain ⟨q_x_0, q_x_1, f_x_0, f_x_1, q_x⟩ := B_x.all2
  obtain ⟨q_r_0, q_r_1, q_r_2, f_r_0, f_r_1, f_r_2, q_r⟩ := B_r.all3
  go_wp2_with fail
  refine callsNamed ?_
  intro p2 hp
  clear q_x_0 q_x_1 f_x_0 f_x_1 q_x q_r_0 q_r_1 q_r_2 f_r_0 f_r_1 f_r_2 q_r
  have O' : Old w p2 := (by rw [hp]; exact Below.trans (b := w1) O oldA)
  replace B_x : Bx p2 (w.heap.size) #[.bool (sgnZ z), .slice A1 (len (magZ z)) c1] := (bxK B_x hp)
  replace B_r : Bx p2 (w.heap.size + 1) #[.bool false, .slice none 0 0, .slice none 0 0] := (bxK B_r hp)
  have zp2 : w1.heap.size ≤ p2.heap.size := (by rw [hp]; exact leA)
  clear hp O
  have O := O'
  clear O'
  refine (retB_to Hq.out (ownBig_any (sgnZ z) A1 c1 (magZ z) _ _ (Row.below (B := w.heap.size) h1 O (Nat.le_refl _)) HPS.out (by omega))).mono ?_
  rintro e w2 ⟨⟨A5, c5, rfl, r5⟩, o2⟩
  replace B_x := Bx.old B_x o2
  replace B_r := Bx.old B_r o2
  replace O := Old.trans O o2
  have zw2 := o2.size
  replace r5 := Row.more (lo' := p2.heap.size) r5 leA
  have lim_r5 := Row.lim r5
  obtain ⟨q_x_0, q_x_1, f_x_0, f_x_1, q_x⟩ := B_x.all2
  obtain ⟨q_r_0, q_r_1, q_r_2, f_r_0, f_r_1, f_r_2, q_r⟩ := B_r.all3
  go_wp2_with fail
  refine callsNamed ?_
  intro p3 hp
  clear q_x_0 q_x_1 f_x_0 f_x_1 q_x q_r_0 q_r_1 q_r_2 f_r_0 f_r_1 f_r_2 q_r
  have O' : Old w p3 := (by rw [hp]; exact Below.trans (b := w2) O oldA)
  replace B_x : Bx p3 (w.heap.size) #[.bool (sgnZ z), .slice A1 (len (magZ z)) c1] := (bxK B_x hp)
  replace B_r : Bx p3 (w.heap.size + 1) #[.bool false, .slice none 0 0, .slice none 0 0] := (bxK B_r hp)
  replace r5 := rowK r5 hp
  have zp3 : w2.heap.size ≤ p3.heap.size := (by rw [hp]; exact leA)
  clear hp O
  have O := O'
  clear O'
  refine (clone_any A2 (len d) c2 _ (digI d) _ (Row.below (B := w.heap.size) h2 O (Nat.le_refl _)) (by omega)).mono ?_
  rintro e w3 ⟨A6, c6, rfl, r6, o3⟩
  replace B_x := Bx.old B_x o3
  replace B_r := Bx.old B_r o3
  replace r5 := Row.below r5 o3 (Nat.le_refl _)
  replace O := Old.trans O o3
  have zw3 := o3.size
  replace r6 := Row.more (lo' := p3.heap.size) r6 leA
  have lim_r6 := Row.lim r6
  obtain ⟨q_x_0, q_x_1, f_x_0, f_x_1, q_x⟩ := B_x.all2
  obtain ⟨q_r_0, q_r_1, q_r_2, f_r_0, f_r_1, f_r_2, q_r⟩ := B_r.all3
  have AP := Apart.of lim_r5 r6 (by omega)
  have AP' := Lib.hid AP
  clear AP
  go_wp2
  refine bodyPost_ret (v := .agg #[.bool (sgnZ q), .slice A5 (len (magZ q)) c5, .slice A6 (len d) c6]) (by simp [results, Tryz.results74, go_sem, q_r_0, q_r_1, q_r_2]) rfl ⟨⟨q, d, A5, c5, A6, c6, Hv.out, rfl, ?_, ?_, AP'.out⟩, ?_⟩
  · refine Row.more (lo := p2.heap.size) ?_ leA
    repeat' (first | exact r5 | refine Row.far_set ?_ (by first | (simp <;> done) | (simp; omega) | omega) _)
  · refine Row.more (lo := p3.heap.size) ?_ leA
    repeat' (first | exact r6 | refine Row.far_set ?_ (by first | (simp <;> done) | (simp; omega) | omega) _)
  · exact Below.trans (b := w3) O oldA
set_option maxRecDepth 100000 in
set_option maxHeartbeats 1000000 in
theorem ratMake_one_longx (z : Int) (d : Nat) (A1 A2 : Option Addr) (c1 c2 l1 l2 : Nat) (w : World) (h1 : NatS w l1 A1 c1 (magZ z)) (h2 : NatS w l2 A2 c2 d) (hx : len (magZ z) ≤ 100) (hy : len d ≤ 100) (hp : 0 < d) (h1' : d = 1) (hf1 : ¬ len (magZ z) ≤ 24) :
    Calls Tryz.prog 74 #[.agg #[.bool (sgnZ z), .slice A1 (len (magZ z)) c1], .slice A2 (len d) c2] w fun e w' => RetR e w' w.heap.size ((0, 0)) ∧ Old w w' := by
  have HD := Lib.hid h1'
  have HPS : Hid (sgnZ z = true → 0 < magZ z) := Lib.hid sgn_pos
  have hf2 : len d ≤ 24 := by rw [HD.out, len_1]; omega
  have t1 : (24 : Int) < ((len (magZ z) : Nat) : Int) := by omega
  clear h1' hp
  have O : Old w ((w.alloc (.cells #[.bool (sgnZ z), .slice A1 (len (magZ z)) c1] 24)).alloc (.cells #[.bool false, .slice none 0 0, .slice none 0 0] 26)) := oldA
  have B_x : Bx ((w.alloc (.cells #[.bool (sgnZ z), .slice A1 (len (magZ z)) c1] 24)).alloc (.cells #[.bool false, .slice none 0 0, .slice none 0 0] 26)) (w.heap.size) #[.bool (sgnZ z), .slice A1 (len (magZ z)) c1] := by have h := (Bx.alloc (Bx.new w #[.bool (sgnZ z), .slice A1 (len (magZ z)) c1] 24) (.cells #[.bool false, .slice none 0 0, .slice none 0 0] 26)); simpa using h
  have B_r : Bx ((w.alloc (.cells #[.bool (sgnZ z), .slice A1 (len (magZ z)) c1] 24)).alloc (.cells #[.bool false, .slice none 0 0, .slice none 0 0] 26)) (w.heap.size + 1) #[.bool false, .slice none 0 0, .slice none 0 0] := by have h := (Bx.new (w.alloc (.cells #[.bool (sgnZ z), .slice A1 (len (magZ z)) c1] 24)) #[.bool false, .slice none 0 0, .slice none 0 0] 26); simpa using h
  have ne_0_1 : ¬ (w.heap.size = w.heap.size + 1) := by omega
  have ne_1_0 : ¬ (w.heap.size + 1 = w.heap.size) := by omega
  have ze : w.heap.size + 2 ≤ ((w.alloc (.cells #[.bool (sgnZ z), .slice A1 (len (magZ z)) c1] 24)).alloc (.cells #[.bool false, .slice none 0 0, .slice none 0 0] 26)).heap.size := (by simp)
  go_enter Tryz.func74, Tryz.ntmps74
  go_wp2_with fail
  refine callsNamed ?_
  intro p1 hp
  have O' : Old w p1 := (by rw [hp]; exact Below.trans (b := ((w.alloc (.cells #[.bool (sgnZ z), .slice A1 (len (magZ z)) c1] 24)).alloc (.cells #[.bool false, .slice none 0 0, .slice none 0 0] 26))) O oldA)
  replace B_x : Bx p1 (w.heap.size) #[.bool (sgnZ z), .slice A1 (len (magZ z)) c1] := (bxK B_x hp)
  replace B_r : Bx p1 (w.heap.size + 1) #[.bool false, .slice none 0 0, .slice none 0 0] := (bxK B_r hp)
  have zp1 : ((w.alloc (.cells #[.bool (sgnZ z), .slice A1 (len (magZ z)) c1] 24)).alloc (.cells #[.bool false, .slice none 0 0, .slice none 0 0] 26)).heap.size ≤ p1.heap.size := (by rw [hp]; exact leA)
  clear hp O
  have O := O'
  clear O'
  refine (plain_to (by rw [decide_eq_true HD.out]) (isOne_any A2 c2 d l2 _ (Row.below (B := w.heap.size) h2 O (Nat.le_refl _)))).mono ?_
  rintro e w1 ⟨rfl, o1⟩
  replace B_x := Bx.old B_x o1
  replace B_r := Bx.old B_r o1
  replace O := Old.trans O o1
  have zw1 := o1.size
  obtain ⟨q_x_0, q_x_1, f_x_0, f_x_1, q_x⟩ := B_x.all2
  obtain ⟨q_r_0, q_r_1, q_r_2, f_r_0, f_r_1, f_r_2, q_r⟩ := B_r.all3
  go_wp2
  refine bodyPost_ret (v := .agg #[.bool false, .slice none 0 0, .slice none 0 0]) (by simp [results, Tryz.results74, go_sem, q_r_0, q_r_1, q_r_2]) rfl ⟨RetR.zero rfl, Below.trans (b := w1) O oldA⟩
set_option maxRecDepth 100000 in
set_option maxHeartbeats 1000000 in
theorem ratMake_low_fit (z : Int) (d : Nat) (A1 A2 : Option Addr) (c1 c2 l1 l2 : Nat) (w : World) (h1 : NatS w l1 A1 c1 (magZ z)) (h2 : NatS w l2 A2 c2 d) (hx : len (magZ z) ≤ 100) (hy : len d ≤ 100) (hp : 0 < d) (h1' : d ≠ 1) (hg : Nat.gcd (magZ z) d = 1) (hf1 : len (magZ z) ≤ 24) (hf2 : len (d) ≤ 24) :
    Calls Tryz.prog 74 #[.agg #[.bool (sgnZ z), .slice A1 (len (magZ z)) c1], .slice A2 (len d) c2] w fun e w' => RetR e w' w.heap.size (mkF z d) ∧ Old w w' := by
  have HD := Lib.hid h1'
  obtain ⟨G, hG⟩ : ∃ G, G = Nat.gcd (magZ z) d := ⟨_, rfl⟩
  have hps : sgnZ z = true → 0 < magZ z / Nat.gcd (magZ z) d := quo_pos
  rw [← hG] at hg hps
  have hGp : 0 < G := by rw [hG]; exact gcd_pos hp
  have hGl : len G ≤ 100 := by rw [hG]; exact gcd_len hx hy
  have HGE := Lib.hid hg
  have HGP := Lib.hid hGp
  have HPS : Hid (sgnZ z = true → 0 < magZ z) := Lib.hid sgn_pos
  clear hps
  have t1 : ¬ (24 : Int) < ((len (magZ z) : Nat) : Int) := by omega
  have t2 : ¬ (24 : Int) < ((len d : Nat) : Int) := by omega
  obtain ⟨q, hq⟩ : ∃ q, q = signed (sgnZ z) (magZ z) := ⟨_, rfl⟩
  have Hq : Hid (capZ (signed (sgnZ z) (magZ z)) = q) := Lib.hid (by rw [capZ_fit (by rw [mag_signed]; omega)]; exact hq.symm)
  have Hv : Hid (mkF z d = (q, d)) := Lib.hid (by rw [mkF_yes hp (by rw [← hG, HGE.out, Nat.div_one]; exact hf1) (by rw [← hG, HGE.out, Nat.div_one]; exact hf2), ← hG, HGE.out, Nat.div_one, Nat.div_one, hq])
  clear hq
  have HG := Lib.hid hG
  clear hG h1' hg hGp hp
  have O : Old w ((w.alloc (.cells #[.bool (sgnZ z), .slice A1 (len (magZ z)) c1] 24)).alloc (.cells #[.bool false, .slice none 0 0, .slice none 0 0] 26)) := oldA
  have B_x : Bx ((w.alloc (.cells #[.bool (sgnZ z), .slice A1 (len (magZ z)) c1] 24)).alloc (.cells #[.bool false, .slice none 0 0, .slice none 0 0] 26)) (w.heap.size) #[.bool (sgnZ z), .slice A1 (len (magZ z)) c1] := by have h := (Bx.alloc (Bx.new w #[.bool (sgnZ z), .slice A1 (len (magZ z)) c1] 24) (.cells #[.bool false, .slice none 0 0, .slice none 0 0] 26)); simpa using h
  have B_r : Bx ((w.alloc (.cells #[.bool (sgnZ z), .slice A1 (len (magZ z)) c1] 24)).alloc (.cells #[.bool false, .slice none 0 0, .slice none 0 0] 26)) (w.heap.size + 1) #[.bool false, .slice none 0 0, .slice none 0 0] := by have h := (Bx.new (w.alloc (.cells #[.bool (sgnZ z), .slice A1 (len (magZ z)) c1] 24)) #[.bool false, .slice none 0 0, .slice none 0 0] 26); simpa using h
  have ne_0_1 : ¬ (w.heap.size = w.heap.size + 1) := by omega
  have ne_1_0 : ¬ (w.heap.size + 1 = w.heap.size) := by omega
  have ze : w.heap.size + 2 ≤ ((w.alloc (.cells #[.bool (sgnZ z), .slice A1 (len (magZ z)) c1] 24)).alloc (.cells #[.bool false, .slice none 0 0, .slice none 0 0] 26)).heap.size := (by simp)
  go_enter Tryz.func74, Tryz.ntmps74
  go_wp2_with fail
  refine callsNamed ?_
  intro p1 hp
  have O' : Old w p1 := (by rw [hp]; exact Below.trans (b := ((w.alloc (.cells #[.bool (sgnZ z), .slice A1 (len (magZ z)) c1] 24)).alloc (.cells #[.bool false, .slice none 0 0, .slice none 0 0] 26))) O oldA)
  replace B_x : Bx p1 (w.heap.size) #[.bool (sgnZ z), .slice A1 (len (magZ z)) c1] := (bxK B_x hp)
  replace B_r : Bx p1 (w.heap.size + 1) #[.bool false, .slice none 0 0, .slice none 0 0] := (bxK B_r hp)
  have zp1 : ((w.alloc (.cells #[.bool (sgnZ z), .slice A1 (len (magZ z)) c1] 24)).alloc (.cells #[.bool false, .slice none 0 0, .slice none 0 0] 26)).heap.size ≤ p1.heap.size := (by rw [hp]; exact leA)
  clear hp O
  have O := O'
  clear O'
  refine (plain_to (by rw [decide_eq_false HD.out]) (isOne_any A2 c2 d l2 _ (Row.below (B := w.heap.size) h2 O (Nat.le_refl _)))).mono ?_
  rintro e w1 ⟨rfl, o1⟩
  replace B_x := Bx.old B_x o1
  replace B_r := Bx.old B_r o1
  replace O := Old.trans O o1
  have zw1 := o1.size
  obtain ⟨q_x_0, q_x_1, f_x_0, f_x_1, q_x⟩ := B_x.all2
  obtain ⟨q_r_0, q_r_1, q_r_2, f_r_0, f_r_1, f_r_2, q_r⟩ := B_r.all3
  go_wp2_with fail
  refine callsNamed ?_
  intro p2 hp
  clear q_x_0 q_x_1 f_x_0 f_x_1 q_x q_r_0 q_r_1 q_r_2 f_r_0 f_r_1 f_r_2 q_r
  have O' : Old w p2 := (by rw [hp]; exact Below.trans (b := w1) O oldA)
  replace B_x : Bx p2 (w.heap.size) #[.bool (sgnZ z), .slice A1 (len (magZ z)) c1] := (bxK B_x hp)
  replace B_r : Bx p2 (w.heap.size + 1) #[.bool false, .slice none 0 0, .slice none 0 0] := (bxK B_r hp)
  have zp2 : w1.heap.size ≤ p2.heap.size := (by rw [hp]; exact leA)
  clear hp O
  have O := O'
  clear O'
  refine (natGcd_any A1 A2 c1 c2 (magZ z) d l1 l2 _ (Row.below (B := w.heap.size) h1 O (Nat.le_refl _)) (Row.below (B := w.heap.size) h2 O (Nat.le_refl _)) (by omega) (by omega)).mono ?_
  rintro e w2 ⟨⟨A3, c3, he, r3⟩, o2⟩
  replace B_x := Bx.old B_x o2
  replace B_r := Bx.old B_r o2
  replace O := Old.trans O o2
  have zw2 := o2.size
  have lim_r3 := Row.lim r3
  rw [← HG.out] at he r3 lim_r3
  subst he
  have off3 := Row.off r3 B_x (no_int2 _ _ _ _)
  obtain ⟨q_x_0, q_x_1, f_x_0, f_x_1, q_x⟩ := B_x.all2
  obtain ⟨q_r_0, q_r_1, q_r_2, f_r_0, f_r_1, f_r_2, q_r⟩ := B_r.all3
  go_wp2_with fail
  refine callsNamed ?_
  intro p3 hp
  clear q_x_0 q_x_1 f_x_0 f_x_1 q_x q_r_0 q_r_1 q_r_2 f_r_0 f_r_1 f_r_2 q_r
  have O' : Old w p3 := (by rw [hp]; exact Below.trans (b := w2) O oldA)
  replace B_x : Bx p3 (w.heap.size) #[.bool (sgnZ z), .slice A1 (len (magZ z)) c1] := (bxK B_x hp)
  replace B_r : Bx p3 (w.heap.size + 1) #[.bool false, .slice none 0 0, .slice none 0 0] := (bxK B_r hp)
  replace r3 := rowK r3 hp
  have zp3 : w2.heap.size ≤ p3.heap.size := (by rw [hp]; exact leA)
  clear hp O
  have O := O'
  clear O'
  refine (plain_to (by rw [decide_eq_true HGE.out]) (isOne_any A3 c3 G _ _ r3)).mono ?_
  rintro e w3 ⟨rfl, o3⟩
  replace B_x := Bx.old B_x o3
  replace B_r := Bx.old B_r o3
  replace r3 := Row.below r3 o3 (Nat.le_refl _)
  replace O := Old.trans O o3
  have zw3 := o3.size
  obtain ⟨q_x_0, q_x_1, f_x_0, f_x_1, q_x⟩ := B_x.all2
  obtain ⟨q_r_0, q_r_1, q_r_2, f_r_0, f_r_1, f_r_2, q_r⟩ := B_r.all3
  go_wp2_with fail
  refine callsNamed ?_
  intro p4 hp
  clear q_x_0 q_x_1 f_x_0 f_x_1 q_x q_r_0 q_r_1 q_r_2 f_r_0 f_r_1 f_r_2 q_r
  have O' : Old w p4 := (by rw [hp]; exact Below.trans (b := w3) O oldA)
  replace B_x : Bx p4 (w.heap.size) #[.bool (sgnZ z), .slice A1 (len (magZ z)) c1] := (bxK B_x hp)
  replace B_r : Bx p4 (w.heap.size + 1) #[.bool false, .slice none 0 0, .slice none 0 0] := (bxK B_r hp)
  replace r3 := rowK r3 hp
  have zp4 : w3.heap.size ≤ p4.heap.size := (by rw [hp]; exact leA)
  clear hp O
  have O := O'
  clear O'
  refine (retB_to Hq.out (ownBig_any (sgnZ z) A1 c1 (magZ z) _ _ (Row.below (B := w.heap.size) h1 O (Nat.le_refl _)) HPS.out (by omega))).mono ?_
  rintro e w4 ⟨⟨A5, c5, rfl, r5⟩, o4⟩
  replace B_x := Bx.old B_x o4
  replace B_r := Bx.old B_r o4
  replace r3 := Row.below r3 o4 (Nat.le_refl _)
  replace O := Old.trans O o4
  have zw4 := o4.size
  replace r5 := Row.more (lo' := p4.heap.size) r5 leA
  have lim_r5 := Row.lim r5
  obtain ⟨q_x_0, q_x_1, f_x_0, f_x_1, q_x⟩ := B_x.all2
  obtain ⟨q_r_0, q_r_1, q_r_2, f_r_0, f_r_1, f_r_2, q_r⟩ := B_r.all3
  go_wp2_with fail
  refine callsNamed ?_
  intro p5 hp
  clear q_x_0 q_x_1 f_x_0 f_x_1 q_x q_r_0 q_r_1 q_r_2 f_r_0 f_r_1 f_r_2 q_r
  have O' : Old w p5 := (by rw [hp]; exact Below.trans (b := w4) O oldA)
  replace B_x : Bx p5 (w.heap.size) #[.bool (sgnZ z), .slice A1 (len (magZ z)) c1] := (bxK B_x hp)
  replace B_r : Bx p5 (w.heap.size + 1) #[.bool false, .slice none 0 0, .slice none 0 0] := (bxK B_r hp)
  replace r3 := rowK r3 hp
  replace r5 := rowK r5 hp
  have zp5 : w4.heap.size ≤ p5.heap.size := (by rw [hp]; exact leA)
  clear hp O
  have O := O'
  clear O'
  refine (clone_any A2 (len d) c2 _ (digI d) _ (Row.below (B := w.heap.size) h2 O (Nat.le_refl _)) (by omega)).mono ?_
  rintro e w5 ⟨A6, c6, rfl, r6, o5⟩
  replace B_x := Bx.old B_x o5
  replace B_r := Bx.old B_r o5
  replace r3 := Row.below r3 o5 (Nat.le_refl _)
  replace r5 := Row.below r5 o5 (Nat.le_refl _)
  replace O := Old.trans O o5
  have zw5 := o5.size
  replace r6 := Row.more (lo' := p5.heap.size) r6 leA
  have lim_r6 := Row.lim r6
  obtain ⟨q_x_0, q_x_1, f_x_0, f_x_1, q_x⟩ := B_x.all2
  obtain ⟨q_r_0, q_r_1, q_r_2, f_r_0, f_r_1, f_r_2, q_r⟩ := B_r.all3
  have AP := Apart.of lim_r5 r6 (by omega)
  have AP' := Lib.hid AP
  clear AP
  go_wp2
  refine bodyPost_ret (v := .agg #[.bool (sgnZ q), .slice A5 (len (magZ q)) c5, .slice A6 (len d) c6]) (by simp [results, Tryz.results74, go_sem, q_r_0, q_r_1, q_r_2]) rfl ⟨⟨q, d, A5, c5, A6, c6, Hv.out, rfl, ?_, ?_, AP'.out⟩, ?_⟩
  · refine Row.more (lo := p4.heap.size) ?_ leA
    repeat' (first | exact r5 | refine Row.far_set ?_ (by first | (simp <;> done) | (simp; omega) | omega) _)
  · refine Row.more (lo := p5.heap.size) ?_ leA
    repeat' (first | exact r6 | refine Row.far_set ?_ (by first | (simp <;> done) | (simp; omega) | omega) _)
  · exact Below.trans (b := w5) O oldA
set_option maxRecDepth 100000 in
set_option maxHeartbeats 1000000 in
theorem ratMake_low_longx (z : Int) (d : Nat) (A1 A2 : Option Addr) (c1 c2 l1 l2 : Nat) (w : World) (h1 : NatS w l1 A1 c1 (magZ z)) (h2 : NatS w l2 A2 c2 d) (hx : len (magZ z) ≤ 100) (hy : len d ≤ 100) (hp : 0 < d) (h1' : d ≠ 1) (hg : Nat.gcd (magZ z) d = 1) (hf1 : ¬ len (magZ z) ≤ 24) :
    Calls Tryz.prog 74 #[.agg #[.bool (sgnZ z), .slice A1 (len (magZ z)) c1], .slice A2 (len d) c2] w fun e w' => RetR e w' w.heap.size ((0, 0)) ∧ Old w w' := by
  have HD := Lib.hid h1'
  obtain ⟨G, hG⟩ : ∃ G, G = Nat.gcd (magZ z) d := ⟨_, rfl⟩
  have hps : sgnZ z = true → 0 < magZ z / Nat.gcd (magZ z) d := quo_pos
  rw [← hG] at hg hps
  have hGp : 0 < G := by rw [hG]; exact gcd_pos hp
  have hGl : len G ≤ 100 := by rw [hG]; exact gcd_len hx hy
  have HGE := Lib.hid hg
  have HGP := Lib.hid hGp
  have HPS : Hid (sgnZ z = true → 0 < magZ z) := Lib.hid sgn_pos
  clear hps
  have t1 : (24 : Int) < ((len (magZ z) : Nat) : Int) := by omega
  have HG := Lib.hid hG
  clear hG h1' hg hGp hp
  have O : Old w ((w.alloc (.cells #[.bool (sgnZ z), .slice A1 (len (magZ z)) c1] 24)).alloc (.cells #[.bool false, .slice none 0 0, .slice none 0 0] 26)) := oldA
  have B_x : Bx ((w.alloc (.cells #[.bool (sgnZ z), .slice A1 (len (magZ z)) c1] 24)).alloc (.cells #[.bool false, .slice none 0 0, .slice none 0 0] 26)) (w.heap.size) #[.bool (sgnZ z), .slice A1 (len (magZ z)) c1] := by have h := (Bx.alloc (Bx.new w #[.bool (sgnZ z), .slice A1 (len (magZ z)) c1] 24) (.cells #[.bool false, .slice none 0 0, .slice none 0 0] 26)); simpa using h
  have B_r : Bx ((w.alloc (.cells #[.bool (sgnZ z), .slice A1 (len (magZ z)) c1] 24)).alloc (.cells #[.bool false, .slice none 0 0, .slice none 0 0] 26)) (w.heap.size + 1) #[.bool false, .slice none 0 0, .slice none 0 0] := by have h := (Bx.new (w.alloc (.cells #[.bool (sgnZ z), .slice A1 (len (magZ z)) c1] 24)) #[.bool false, .slice none 0 0, .slice none 0 0] 26); simpa using h
  have ne_0_1 : ¬ (w.heap.size = w.heap.size + 1) := by omega
  have ne_1_0 : ¬ (w.heap.size + 1 = w.heap.size) := by omega
  have ze : w.heap.size + 2 ≤ ((w.alloc (.cells #[.bool (sgnZ z), .slice A1 (len (magZ z)) c1] 24)).alloc (.cells #[.bool false, .slice none 0 0, .slice none 0 0] 26)).heap.size := (by simp)
  go_enter Tryz.func74, Tryz.ntmps74
  go_wp2_with fail
  refine callsNamed ?_
  intro p1 hp
  have O' : Old w p1 := (by rw [hp]; exact Below.trans (b := ((w.alloc (.cells #[.bool (sgnZ z), .slice A1 (len (magZ z)) c1] 24)).alloc (.cells #[.bool false, .slice none 0 0, .slice none 0 0] 26))) O oldA)
  replace B_x : Bx p1 (w.heap.size) #[.bool (sgnZ z), .slice A1 (len (magZ z)) c1] := (bxK B_x hp)
  replace B_r : Bx p1 (w.heap.size + 1) #[.bool false, .slice none 0 0, .slice none 0 0] := (bxK B_r hp)
  have zp1 : ((w.alloc (.cells #[.bool (sgnZ z), .slice A1 (len (magZ z)) c1] 24)).alloc (.cells #[.bool false, .slice none 0 0, .slice none 0 0] 26)).heap.size ≤ p1.heap.size := (by rw [hp]; exact leA)
  clear hp O
  have O := O'
  clear O'
  refine (plain_to (by rw [decide_eq_false HD.out]) (isOne_any A2 c2 d l2 _ (Row.below (B := w.heap.size) h2 O (Nat.le_refl _)))).mono ?_
  rintro e w1 ⟨rfl, o1⟩
  replace B_x := Bx.old B_x o1
  replace B_r := Bx.old B_r o1
  replace O := Old.trans O o1
  have zw1 := o1.size
  obtain ⟨q_x_0, q_x_1, f_x_0, f_x_1, q_x⟩ := B_x.all2
  obtain ⟨q_r_0, q_r_1, q_r_2, f_r_0, f_r_1, f_r_2, q_r⟩ := B_r.all3
  go_wp2_with fail
  refine callsNamed ?_
  intro p2 hp
  clear q_x_0 q_x_1 f_x_0 f_x_1 q_x q_r_0 q_r_1 q_r_2 f_r_0 f_r_1 f_r_2 q_r
  have O' : Old w p2 := (by rw [hp]; exact Below.trans (b := w1) O oldA)
  replace B_x : Bx p2 (w.heap.size) #[.bool (sgnZ z), .slice A1 (len (magZ z)) c1] := (bxK B_x hp)
  replace B_r : Bx p2 (w.heap.size + 1) #[.bool false, .slice none 0 0, .slice none 0 0] := (bxK B_r hp)
  have zp2 : w1.heap.size ≤ p2.heap.size := (by rw [hp]; exact leA)
  clear hp O
  have O := O'
  clear O'
  refine (natGcd_any A1 A2 c1 c2 (magZ z) d l1 l2 _ (Row.below (B := w.heap.size) h1 O (Nat.le_refl _)) (Row.below (B := w.heap.size) h2 O (Nat.le_refl _)) (by omega) (by omega)).mono ?_
  rintro e w2 ⟨⟨A3, c3, he, r3⟩, o2⟩
  replace B_x := Bx.old B_x o2
  replace B_r := Bx.old B_r o2
  replace O := Old.trans O o2
  have zw2 := o2.size
  have lim_r3 := Row.lim r3
  rw [← HG.out] at he r3 lim_r3
  subst he
  have off3 := Row.off r3 B_x (no_int2 _ _ _ _)
  obtain ⟨q_x_0, q_x_1, f_x_0, f_x_1, q_x⟩ := B_x.all2
  obtain ⟨q_r_0, q_r_1, q_r_2, f_r_0, f_r_1, f_r_2, q_r⟩ := B_r.all3
  go_wp2_with fail
  refine callsNamed ?_
  intro p3 hp
  clear q_x_0 q_x_1 f_x_0 f_x_1 q_x q_r_0 q_r_1 q_r_2 f_r_0 f_r_1 f_r_2 q_r
  have O' : Old w p3 := (by rw [hp]; exact Below.trans (b := w2) O oldA)
  replace B_x : Bx p3 (w.heap.size) #[.bool (sgnZ z), .slice A1 (len (magZ z)) c1] := (bxK B_x hp)
  replace B_r : Bx p3 (w.heap.size + 1) #[.bool false, .slice none 0 0, .slice none 0 0] := (bxK B_r hp)
  replace r3 := rowK r3 hp
  have zp3 : w2.heap.size ≤ p3.heap.size := (by rw [hp]; exact leA)
  clear hp O
  have O := O'
  clear O'
  refine (plain_to (by rw [decide_eq_true HGE.out]) (isOne_any A3 c3 G _ _ r3)).mono ?_
  rintro e w3 ⟨rfl, o3⟩
  replace B_x := Bx.old B_x o3
  replace B_r := Bx.old B_r o3
  replace r3 := Row.below r3 o3 (Nat.le_refl _)
  replace O := Old.trans O o3
  have zw3 := o3.size
  obtain ⟨q_x_0, q_x_1, f_x_0, f_x_1, q_x⟩ := B_x.all2
  obtain ⟨q_r_0, q_r_1, q_r_2, f_r_0, f_r_1, f_r_2, q_r⟩ := B_r.all3
  go_wp2
  refine bodyPost_ret (v := .agg #[.bool false, .slice none 0 0, .slice none 0 0]) (by simp [results, Tryz.results74, go_sem, q_r_0, q_r_1, q_r_2]) rfl ⟨RetR.zero rfl, Below.trans (b := w3) O oldA⟩
set_option maxRecDepth 100000 in
set_option maxHeartbeats 1000000 in
theorem ratMake_low_longy (z : Int) (d : Nat) (A1 A2 : Option Addr) (c1 c2 l1 l2 : Nat) (w : World) (h1 : NatS w l1 A1 c1 (magZ z)) (h2 : NatS w l2 A2 c2 d) (hx : len (magZ z) ≤ 100) (hy : len d ≤ 100) (hp : 0 < d) (h1' : d ≠ 1) (hg : Nat.gcd (magZ z) d = 1) (hf1 : len (magZ z) ≤ 24) (hf2 : ¬ len (d) ≤ 24) :
    Calls Tryz.prog 74 #[.agg #[.bool (sgnZ z), .slice A1 (len (magZ z)) c1], .slice A2 (len d) c2] w fun e w' => RetR e w' w.heap.size ((0, 0)) ∧ Old w w' := by
  have HD := Lib.hid h1'
  obtain ⟨G, hG⟩ : ∃ G, G = Nat.gcd (magZ z) d := ⟨_, rfl⟩
  have hps : sgnZ z = true → 0 < magZ z / Nat.gcd (magZ z) d := quo_pos
  rw [← hG] at hg hps
  have hGp : 0 < G := by rw [hG]; exact gcd_pos hp
  have hGl : len G ≤ 100 := by rw [hG]; exact gcd_len hx hy
  have HGE := Lib.hid hg
  have HGP := Lib.hid hGp
  have HPS : Hid (sgnZ z = true → 0 < magZ z) := Lib.hid sgn_pos
  clear hps
  have t1 : ¬ (24 : Int) < ((len (magZ z) : Nat) : Int) := by omega
  have t2 : (24 : Int) < ((len d : Nat) : Int) := by omega
  have HG := Lib.hid hG
  clear hG h1' hg hGp hp
  have O : Old w ((w.alloc (.cells #[.bool (sgnZ z), .slice A1 (len (magZ z)) c1] 24)).alloc (.cells #[.bool false, .slice none 0 0, .slice none 0 0] 26)) := oldA
  have B_x : Bx ((w.alloc (.cells #[.bool (sgnZ z), .slice A1 (len (magZ z)) c1] 24)).alloc (.cells #[.bool false, .slice none 0 0, .slice none 0 0] 26)) (w.heap.size) #[.bool (sgnZ z), .slice A1 (len (magZ z)) c1] := by have h := (Bx.alloc (Bx.new w #[.bool (sgnZ z), .slice A1 (len (magZ z)) c1] 24) (.cells #[.bool false, .slice none 0 0, .slice none 0 0] 26)); simpa using h
  have B_r : Bx ((w.alloc (.cells #[.bool (sgnZ z), .slice A1 (len (magZ z)) c1] 24)).alloc (.cells #[.bool false, .slice none 0 0, .slice none 0 0] 26)) (w.heap.size + 1) #[.bool false, .slice none 0 0, .slice none 0 0] := by have h := (Bx.new (w.alloc (.cells #[.bool (sgnZ z), .slice A1 (len (magZ z)) c1] 24)) #[.bool false, .slice none 0 0, .slice none 0 0] 26); simpa using h
  have ne_0_1 : ¬ (w.heap.size = w.heap.size + 1) := by omega
  have ne_1_0 : ¬ (w.heap.size + 1 = w.heap.size) := by omega
  have ze : w.heap.size + 2 ≤ ((w.alloc (.cells #[.bool (sgnZ z), .slice A1 (len (magZ z)) c1] 24)).alloc (.cells #[.bool false, .slice none 0 0, .slice none 0 0] 26)).heap.size := (by simp)
  go_enter Tryz.func74, Tryz.ntmps74
  go_wp2_with fail
  refine callsNamed ?_
  intro p1 hp
  have O' : Old w p1 := (by rw [hp]; exact Below.trans (b := ((w.alloc (.cells #[.bool (sgnZ z), .slice A1 (len (magZ z)) c1] 24)).alloc (.cells #[.bool false, .slice none 0 0, .slice none 0 0] 26))) O oldA)
  replace B_x : Bx p1 (w.heap.size) #[.bool (sgnZ z), .slice A1 (len (magZ z)) c1] := (bxK B_x hp)
  replace B_r : Bx p1 (w.heap.size + 1) #[.bool false, .slice none 0 0, .slice none 0 0] := (bxK B_r hp)
  have zp1 : ((w.alloc (.cells #[.bool (sgnZ z), .slice A1 (len (magZ z)) c1] 24)).alloc (.cells #[.bool false, .slice none 0 0, .slice none 0 0] 26)).heap.size ≤ p1.heap.size := (by rw [hp]; exact leA)
  clear hp O
  have O := O'
  clear O'
  refine (plain_to (by rw [decide_eq_false HD.out]) (isOne_any A2 c2 d l2 _ (Row.below (B := w.heap.size) h2 O (Nat.le_refl _)))).mono ?_
  rintro e w1 ⟨rfl, o1⟩
  replace B_x := Bx.old B_x o1
  replace B_r := Bx.old B_r o1
  replace O := Old.trans O o1
  have zw1 := o1.size
  obtain ⟨q_x_0, q_x_1, f_x_0, f_x_1, q_x⟩ := B_x.all2
  obtain ⟨q_r_0, q_r_1, q_r_2, f_r_0, f_r_1, f_r_2, q_r⟩ := B_r.all3
  go_wp2_with fail
  refine callsNamed ?_
  intro p2 hp
  clear q_x_0 q_x_1 f_x_0 f_x_1 q_x q_r_0 q_r_1 q_r_2 f_r_0 f_r_1 f_r_2 q_r
  have O' : Old w p2 := (by rw [hp]; exact Below.trans (b := w1) O oldA)
  replace B_x : Bx p2 (w.heap.size) #[.bool (sgnZ z), .slice A1 (len (magZ z)) c1] := (bxK B_x hp)
  replace B_r : Bx p2 (w.heap.size + 1) #[.bool false, .slice none 0 0, .slice none 0 0] := (bxK B_r hp)
  have zp2 : w1.heap.size ≤ p2.heap.size := (by rw [hp]; exact leA)
  clear hp O
  have O := O'
  clear O'
  refine (natGcd_any A1 A2 c1 c2 (magZ z) d l1 l2 _ (Row.below (B := w.heap.size) h1 O (Nat.le_refl _)) (Row.below (B := w.heap.size) h2 O (Nat.le_refl _)) (by omega) (by omega)).mono ?_
  rintro e w2 ⟨⟨A3, c3, he, r3⟩, o2⟩
  replace B_x := Bx.old B_x o2
  replace B_r := Bx.old B_r o2
  replace O := Old.trans O o2
  have zw2 := o2.size
  have lim_r3 := Row.lim r3
  rw [← HG.out] at he r3 lim_r3
  subst he
  have off3 := Row.off r3 B_x (no_int2 _ _ _ _)
  obtain ⟨q_x_0, q_x_1, f_x_0, f_x_1, q_x⟩ := B_x.all2
  obtain ⟨q_r_0, q_r_1, q_r_2, f_r_0, f_r_1, f_r_2, q_r⟩ := B_r.all3
  go_wp2_with fail
  refine callsNamed ?_
  intro p3 hp
  clear q_x_0 q_x_1 f_x_0 f_x_1 q_x q_r_0 q_r_1 q_r_2 f_r_0 f_r_1 f_r_2 q_r
  have O' : Old w p3 := (by rw [hp]; exact Below.trans (b := w2) O oldA)
  replace B_x : Bx p3 (w.heap.size) #[.bool (sgnZ z), .slice A1 (len (magZ z)) c1] := (bxK B_x hp)
  replace B_r : Bx p3 (w.heap.size + 1) #[.bool false, .slice none 0 0, .slice none 0 0] := (bxK B_r hp)
  replace r3 := rowK r3 hp
  have zp3 : w2.heap.size ≤ p3.heap.size := (by rw [hp]; exact leA)
  clear hp O
  have O := O'
  clear O'
  refine (plain_to (by rw [decide_eq_true HGE.out]) (isOne_any A3 c3 G _ _ r3)).mono ?_
  rintro e w3 ⟨rfl, o3⟩
  replace B_x := Bx.old B_x o3
  replace B_r := Bx.old B_r o3
  replace r3 := Row.below r3 o3 (Nat.le_refl _)
  replace O := Old.trans O o3
  have zw3 := o3.size
  obtain ⟨q_x_0, q_x_1, f_x_0, f_x_1, q_x⟩ := B_x.all2
  obtain ⟨q_r_0, q_r_1, q_r_2, f_r_0, f_r_1, f_r_2, q_r⟩ := B_r.all3
  go_wp2
  refine bodyPost_ret (v := .agg #[.bool false, .slice none 0 0, .slice none 0 0]) (by simp [results, Tryz.results74, go_sem, q_r_0, q_r_1, q_r_2]) rfl ⟨RetR.zero rfl, Below.trans (b := w3) O oldA⟩
set_option maxRecDepth 100000 in
set_option maxHeartbeats 1000000 in
theorem ratMake_red_fit (z : Int) (d : Nat) (A1 A2 : Option Addr) (c1 c2 l1 l2 : Nat) (w : World) (h1 : NatS w l1 A1 c1 (magZ z)) (h2 : NatS w l2 A2 c2 d) (hx : len (magZ z) ≤ 100) (hy : len d ≤ 100) (hp : 0 < d) (h1' : d ≠ 1) (hg : Nat.gcd (magZ z) d ≠ 1) (hf1 : len (magZ z / Nat.gcd (magZ z) d) ≤ 24) (hf2 : len (d / Nat.gcd (magZ z) d) ≤ 24) :
    Calls Tryz.prog 74 #[.agg #[.bool (sgnZ z), .slice A1 (len (magZ z)) c1], .slice A2 (len d) c2] w fun e w' => RetR e w' w.heap.size (mkF z d) ∧ Old w w' := by
  have HD := Lib.hid h1'
  obtain ⟨G, hG⟩ : ∃ G, G = Nat.gcd (magZ z) d := ⟨_, rfl⟩
  have hps : sgnZ z = true → 0 < magZ z / Nat.gcd (magZ z) d := quo_pos
  rw [← hG] at hg hps
  have hGp : 0 < G := by rw [hG]; exact gcd_pos hp
  have hGl : len G ≤ 100 := by rw [hG]; exact gcd_len hx hy
  have HGE := Lib.hid hg
  have HGP := Lib.hid hGp
  obtain ⟨X, hX⟩ : ∃ X, X = magZ z / G := ⟨_, rfl⟩
  obtain ⟨Y, hY⟩ : ∃ Y, Y = d / G := ⟨_, rfl⟩
  rw [← hX] at hps
  have HPS := Lib.hid hps
  clear hps
  have hXl : len X ≤ 100 := by rw [hX]; have := quo_len (magZ z) G; omega
  have hYl : len Y ≤ 100 := by rw [hY]; have := quo_len d G; omega
  have HX := Lib.hid hX
  have HY := Lib.hid hY
  rw [← hG, ← hX] at hf1
  rw [← hG, ← hY] at hf2
  have t1 : ¬ (24 : Int) < ((len X : Nat) : Int) := by omega
  have t2 : ¬ (24 : Int) < ((len Y : Nat) : Int) := by omega
  obtain ⟨q, hq⟩ : ∃ q, q = signed (sgnZ z) X := ⟨_, rfl⟩
  have Hq : Hid (capZ (signed (sgnZ z) X) = q) := Lib.hid (by rw [capZ_fit (by rw [mag_signed]; omega)]; exact hq.symm)
  have Hv : Hid (mkF z d = (q, Y)) := Lib.hid (by rw [mkF_yes hp (by rw [← hG, ← hX]; exact hf1) (by rw [← hG, ← hY]; exact hf2), ← hG, ← hX, ← hY, hq])
  clear hq
  have HG := Lib.hid hG
  clear hG h1' hg hGp hp hX hY
  have O : Old w ((w.alloc (.cells #[.bool (sgnZ z), .slice A1 (len (magZ z)) c1] 24)).alloc (.cells #[.bool false, .slice none 0 0, .slice none 0 0] 26)) := oldA
  have B_x : Bx ((w.alloc (.cells #[.bool (sgnZ z), .slice A1 (len (magZ z)) c1] 24)).alloc (.cells #[.bool false, .slice none 0 0, .slice none 0 0] 26)) (w.heap.size) #[.bool (sgnZ z), .slice A1 (len (magZ z)) c1] := by have h := (Bx.alloc (Bx.new w #[.bool (sgnZ z), .slice A1 (len (magZ z)) c1] 24) (.cells #[.bool false, .slice none 0 0, .slice none 0 0] 26)); simpa using h
  have B_r : Bx ((w.alloc (.cells #[.bool (sgnZ z), .slice A1 (len (magZ z)) c1] 24)).alloc (.cells #[.bool false, .slice none 0 0, .slice none 0 0] 26)) (w.heap.size + 1) #[.bool false, .slice none 0 0, .slice none 0 0] := by have h := (Bx.new (w.alloc (.cells #[.bool (sgnZ z), .slice A1 (len (magZ z)) c1] 24)) #[.bool false, .slice none 0 0, .slice none 0 0] 26); simpa using h
  have ne_0_1 : ¬ (w.heap.size = w.heap.size + 1) := by omega
  have ne_1_0 : ¬ (w.heap.size + 1 = w.heap.size) := by omega
  have ze : w.heap.size + 2 ≤ ((w.alloc (.cells #[.bool (sgnZ z), .slice A1 (len (magZ z)) c1] 24)).alloc (.cells #[.bool false, .slice none 0 0, .slice none 0 0] 26)).heap.size := (by simp)
  go_enter Tryz.func74, Tryz.ntmps74
  go_wp2_with fail
  refine callsNamed ?_
  intro p1 hp
  have O' : Old w p1 := (by rw [hp]; exact Below.trans (b := ((w.alloc (.cells #[.bool (sgnZ z), .slice A1 (len (magZ z)) c1] 24)).alloc (.cells #[.bool false, .slice none 0 0, .slice none 0 0] 26))) O oldA)
  replace B_x : Bx p1 (w.heap.size) #[.bool (sgnZ z), .slice A1 (len (magZ z)) c1] := (bxK B_x hp)
  replace B_r : Bx p1 (w.heap.size + 1) #[.bool false, .slice none 0 0, .slice none 0 0] := (bxK B_r hp)
  have zp1 : ((w.alloc (.cells #[.bool (sgnZ z), .slice A1 (len (magZ z)) c1] 24)).alloc (.cells #[.bool false, .slice none 0 0, .slice none 0 0] 26)).heap.size ≤ p1.heap.size := (by rw [hp]; exact leA)
  clear hp O
  have O := O'
  clear O'
  refine (plain_to (by rw [decide_eq_false HD.out]) (isOne_any A2 c2 d l2 _ (Row.below (B := w.heap.size) h2 O (Nat.le_refl _)))).mono ?_
  rintro e w1 ⟨rfl, o1⟩
  replace B_x := Bx.old B_x o1
  replace B_r := Bx.old B_r o1
  replace O := Old.trans O o1
  have zw1 := o1.size
  obtain ⟨q_x_0, q_x_1, f_x_0, f_x_1, q_x⟩ := B_x.all2
  obtain ⟨q_r_0, q_r_1, q_r_2, f_r_0, f_r_1, f_r_2, q_r⟩ := B_r.all3
  go_wp2_with fail
  refine callsNamed ?_
  intro p2 hp
  clear q_x_0 q_x_1 f_x_0 f_x_1 q_x q_r_0 q_r_1 q_r_2 f_r_0 f_r_1 f_r_2 q_r
  have O' : Old w p2 := (by rw [hp]; exact Below.trans (b := w1) O oldA)
  replace B_x : Bx p2 (w.heap.size) #[.bool (sgnZ z), .slice A1 (len (magZ z)) c1] := (bxK B_x hp)
  replace B_r : Bx p2 (w.heap.size + 1) #[.bool false, .slice none 0 0, .slice none 0 0] := (bxK B_r hp)
  have zp2 : w1.heap.size ≤ p2.heap.size := (by rw [hp]; exact leA)
  clear hp O
  have O := O'
  clear O'
  refine (natGcd_any A1 A2 c1 c2 (magZ z) d l1 l2 _ (Row.below (B := w.heap.size) h1 O (Nat.le_refl _)) (Row.below (B := w.heap.size) h2 O (Nat.le_refl _)) (by omega) (by omega)).mono ?_
  rintro e w2 ⟨⟨A3, c3, he, r3⟩, o2⟩
  replace B_x := Bx.old B_x o2
  replace B_r := Bx.old B_r o2
  replace O := Old.trans O o2
  have zw2 := o2.size
  have lim_r3 := Row.lim r3
  rw [← HG.out] at he r3 lim_r3
  subst he
  have off3 := Row.off r3 B_x (no_int2 _ _ _ _)
  obtain ⟨q_x_0, q_x_1, f_x_0, f_x_1, q_x⟩ := B_x.all2
  obtain ⟨q_r_0, q_r_1, q_r_2, f_r_0, f_r_1, f_r_2, q_r⟩ := B_r.all3
  go_wp2_with fail
  refine callsNamed ?_
  intro p3 hp
  clear q_x_0 q_x_1 f_x_0 f_x_1 q_x q_r_0 q_r_1 q_r_2 f_r_0 f_r_1 f_r_2 q_r
  have O' : Old w p3 := (by rw [hp]; exact Below.trans (b := w2) O oldA)
  replace B_x : Bx p3 (w.heap.size) #[.bool (sgnZ z), .slice A1 (len (magZ z)) c1] := (bxK B_x hp)
  replace B_r : Bx p3 (w.heap.size + 1) #[.bool false, .slice none 0 0, .slice none 0 0] := (bxK B_r hp)
  replace r3 := rowK r3 hp
  have zp3 : w2.heap.size ≤ p3.heap.size := (by rw [hp]; exact leA)
  clear hp O
  have O := O'
  clear O'
  refine (plain_to (by rw [decide_eq_false HGE.out]) (isOne_any A3 c3 G _ _ r3)).mono ?_
  rintro e w3 ⟨rfl, o3⟩
  replace B_x := Bx.old B_x o3
  replace B_r := Bx.old B_r o3
  replace r3 := Row.below r3 o3 (Nat.le_refl _)
  replace O := Old.trans O o3
  have zw3 := o3.size
  obtain ⟨q_x_0, q_x_1, f_x_0, f_x_1, q_x⟩ := B_x.all2
  obtain ⟨q_r_0, q_r_1, q_r_2, f_r_0, f_r_1, f_r_2, q_r⟩ := B_r.all3
  go_wp2_with fail
  refine callsNamed ?_
  intro p4 hp
  clear q_x_0 q_x_1 f_x_0 f_x_1 q_x q_r_0 q_r_1 q_r_2 f_r_0 f_r_1 f_r_2 q_r
  have O' : Old w p4 := (by rw [hp]; exact Below.trans (b := w3) O oldA)
  replace B_x : Bx p4 (w.heap.size) #[.bool (sgnZ z), .slice A1 (len (magZ z)) c1] := (bxK B_x hp)
  replace B_r : Bx p4 (w.heap.size + 1) #[.bool false, .slice none 0 0, .slice none 0 0] := (bxK B_r hp)
  replace r3 := rowK r3 hp
  have zp4 : w3.heap.size ≤ p4.heap.size := (by rw [hp]; exact leA)
  clear hp O
  have O := O'
  clear O'
  refine (natDiv_q A1 A3 c1 c3 (magZ z) G l1 _ _ (Row.below (B := w.heap.size) h1 O (Nat.le_refl _)) r3 (by omega) (by omega) HGP.out).mono ?_
  rintro e w4 ⟨A7, c7, A8, n8, c8, he, r7, o4⟩
  replace B_x := Bx.old B_x o4
  replace B_r := Bx.old B_r o4
  replace r3 := Row.below r3 o4 (Nat.le_refl _)
  replace O := Old.trans O o4
  have zw4 := o4.size
  replace r7 := Row.more (lo' := p4.heap.size) r7 leA
  have lim_r7 := Row.lim r7
  rw [← HX.out] at he r7 lim_r7
  subst he
  obtain ⟨q_x_0, q_x_1, f_x_0, f_x_1, q_x⟩ := B_x.all2
  obtain ⟨q_r_0, q_r_1, q_r_2, f_r_0, f_r_1, f_r_2, q_r⟩ := B_r.all3
  go_wp2_with fail
  refine callsNamed ?_
  intro p5 hp
  clear q_x_0 q_x_1 f_x_0 f_x_1 q_x q_r_0 q_r_1 q_r_2 f_r_0 f_r_1 f_r_2 q_r
  have O' : Old w p5 := (by rw [hp]; exact Below.trans (b := w4) O oldA)
  replace B_x : Bx p5 (w.heap.size) #[.bool (sgnZ z), .slice A7 (len X) c7] := (by rw [hp]; repeat' (first | (with_reducible exact B_x) | (with_reducible refine Bx.alloc ?_ _) | (with_reducible refine Bx.drewN ?_ _) | (with_reducible refine Bx.drew ?_) | refine Bx.set (cs := #[.bool (sgnZ z), .slice A1 (len (magZ z)) c1]) ?_ 1 _ | refine Bx.far ?_ (by first | assumption | (simp <;> done) | (simp; omega) | omega) _))
  replace B_r : Bx p5 (w.heap.size + 1) #[.bool false, .slice none 0 0, .slice none 0 0] := (bxK B_r hp)
  replace r3 := rowK r3 hp
  replace r7 := rowK r7 hp
  have zp5 : w4.heap.size ≤ p5.heap.size := (by rw [hp]; exact leA)
  clear hp O
  have O := O'
  clear O'
  refine (natDiv_q A2 A3 c2 c3 d G l2 _ _ (Row.below (B := w.heap.size) h2 O (Nat.le_refl _)) r3 (by omega) (by omega) HGP.out).mono ?_
  rintro e w5 ⟨A9, c9, A0, n0, c0, he, r9, o5⟩
  replace B_x := Bx.old B_x o5
  replace B_r := Bx.old B_r o5
  replace r3 := Row.below r3 o5 (Nat.le_refl _)
  replace r7 := Row.below r7 o5 (Nat.le_refl _)
  replace O := Old.trans O o5
  have zw5 := o5.size
  replace r9 := Row.more (lo' := p5.heap.size) r9 leA
  have lim_r9 := Row.lim r9
  rw [← HY.out] at he r9 lim_r9
  subst he
  obtain ⟨q_x_0, q_x_1, f_x_0, f_x_1, q_x⟩ := B_x.all2
  obtain ⟨q_r_0, q_r_1, q_r_2, f_r_0, f_r_1, f_r_2, q_r⟩ := B_r.all3
  go_wp2_with fail
  refine callsNamed ?_
  intro p6 hp
  clear q_x_0 q_x_1 f_x_0 f_x_1 q_x q_r_0 q_r_1 q_r_2 f_r_0 f_r_1 f_r_2 q_r
  have O' : Old w p6 := (by rw [hp]; exact Below.trans (b := w5) O oldA)
  replace B_x : Bx p6 (w.heap.size) #[.bool (sgnZ z), .slice A7 (len X) c7] := (bxK B_x hp)
  replace B_r : Bx p6 (w.heap.size + 1) #[.bool false, .slice none 0 0, .slice none 0 0] := (bxK B_r hp)
  replace r3 := rowK r3 hp
  replace r7 := rowK r7 hp
  replace r9 := rowK r9 hp
  have zp6 : w5.heap.size ≤ p6.heap.size := (by rw [hp]; exact leA)
  clear hp O
  have O := O'
  clear O'
  refine (retB_to Hq.out (ownBig_any (sgnZ z) A7 c7 X _ _ r7 HPS.out (by omega))).mono ?_
  rintro e w6 ⟨⟨A5, c5, rfl, r5⟩, o6⟩
  replace B_x := Bx.old B_x o6
  replace B_r := Bx.old B_r o6
  replace r3 := Row.below r3 o6 (Nat.le_refl _)
  replace r7 := Row.below r7 o6 (Nat.le_refl _)
  replace r9 := Row.below r9 o6 (Nat.le_refl _)
  replace O := Old.trans O o6
  have zw6 := o6.size
  replace r5 := Row.more (lo' := p6.heap.size) r5 leA
  have lim_r5 := Row.lim r5
  obtain ⟨q_x_0, q_x_1, f_x_0, f_x_1, q_x⟩ := B_x.all2
  obtain ⟨q_r_0, q_r_1, q_r_2, f_r_0, f_r_1, f_r_2, q_r⟩ := B_r.all3
  go_wp2_with fail
  refine callsNamed ?_
  intro p7 hp
  clear q_x_0 q_x_1 f_x_0 f_x_1 q_x q_r_0 q_r_1 q_r_2 f_r_0 f_r_1 f_r_2 q_r
  have O' : Old w p7 := (by rw [hp]; exact Below.trans (b := w6) O oldA)
  replace B_x : Bx p7 (w.heap.size) #[.bool (sgnZ z), .slice A7 (len X) c7] := (bxK B_x hp)
  replace B_r : Bx p7 (w.heap.size + 1) #[.bool false, .slice none 0 0, .slice none 0 0] := (bxK B_r hp)
  replace r3 := rowK r3 hp
  replace r7 := rowK r7 hp
  replace r9 := rowK r9 hp
  replace r5 := rowK r5 hp
  have zp7 : w6.heap.size ≤ p7.heap.size := (by rw [hp]; exact leA)
  clear hp O
  have O := O'
  clear O'
  refine (clone_any A9 (len Y) c9 _ (digI Y) _ r9 (by omega)).mono ?_
  rintro e w7 ⟨A6, c6, rfl, r6, o7⟩
  replace B_x := Bx.old B_x o7
  replace B_r := Bx.old B_r o7
  replace r3 := Row.below r3 o7 (Nat.le_refl _)
  replace r7 := Row.below r7 o7 (Nat.le_refl _)
  replace r9 := Row.below r9 o7 (Nat.le_refl _)
  replace r5 := Row.below r5 o7 (Nat.le_refl _)
  replace O := Old.trans O o7
  have zw7 := o7.size
  replace r6 := Row.more (lo' := p7.heap.size) r6 leA
  have lim_r6 := Row.lim r6
  obtain ⟨q_x_0, q_x_1, f_x_0, f_x_1, q_x⟩ := B_x.all2
  obtain ⟨q_r_0, q_r_1, q_r_2, f_r_0, f_r_1, f_r_2, q_r⟩ := B_r.all3
  have AP := Apart.of lim_r5 r6 (by omega)
  have AP' := Lib.hid AP
  clear AP
  go_wp2
  refine bodyPost_ret (v := .agg #[.bool (sgnZ q), .slice A5 (len (magZ q)) c5, .slice A6 (len Y) c6]) (by simp [results, Tryz.results74, go_sem, q_r_0, q_r_1, q_r_2]) rfl ⟨⟨q, Y, A5, c5, A6, c6, Hv.out, rfl, ?_, ?_, AP'.out⟩, ?_⟩
  · refine Row.more (lo := p6.heap.size) ?_ leA
    repeat' (first | exact r5 | refine Row.far_set ?_ (by first | (simp <;> done) | (simp; omega) | omega) _)
  · refine Row.more (lo := p7.heap.size) ?_ leA
    repeat' (first | exact r6 | refine Row.far_set ?_ (by first | (simp <;> done) | (simp; omega) | omega) _)
  · exact Below.trans (b := w7) O oldA
set_option maxRecDepth 100000 in
set_option maxHeartbeats 1000000 in
theorem ratMake_red_longx (z : Int) (d : Nat) (A1 A2 : Option Addr) (c1 c2 l1 l2 : Nat) (w : World) (h1 : NatS w l1 A1 c1 (magZ z)) (h2 : NatS w l2 A2 c2 d) (hx : len (magZ z) ≤ 100) (hy : len d ≤ 100) (hp : 0 < d) (h1' : d ≠ 1) (hg : Nat.gcd (magZ z) d ≠ 1) (hf1 : ¬ len (magZ z / Nat.gcd (magZ z) d) ≤ 24) :
    Calls Tryz.prog 74 #[.agg #[.bool (sgnZ z), .slice A1 (len (magZ z)) c1], .slice A2 (len d) c2] w fun e w' => RetR e w' w.heap.size ((0, 0)) ∧ Old w w' := by
  have HD := Lib.hid h1'
  obtain ⟨G, hG⟩ : ∃ G, G = Nat.gcd (magZ z) d := ⟨_, rfl⟩
  have hps : sgnZ z = true → 0 < magZ z / Nat.gcd (magZ z) d := quo_pos
  rw [← hG] at hg hps
  have hGp : 0 < G := by rw [hG]; exact gcd_pos hp
  have hGl : len G ≤ 100 := by rw [hG]; exact gcd_len hx hy
  have HGE := Lib.hid hg
  have HGP := Lib.hid hGp
  obtain ⟨X, hX⟩ : ∃ X, X = magZ z / G := ⟨_, rfl⟩
  obtain ⟨Y, hY⟩ : ∃ Y, Y = d / G := ⟨_, rfl⟩
  rw [← hX] at hps
  have HPS := Lib.hid hps
  clear hps
  have hXl : len X ≤ 100 := by rw [hX]; have := quo_len (magZ z) G; omega
  have hYl : len Y ≤ 100 := by rw [hY]; have := quo_len d G; omega
  have HX := Lib.hid hX
  have HY := Lib.hid hY
  rw [← hG, ← hX] at hf1
  have t1 : (24 : Int) < ((len X : Nat) : Int) := by omega
  have HG := Lib.hid hG
  clear hG h1' hg hGp hp hX hY
  have O : Old w ((w.alloc (.cells #[.bool (sgnZ z), .slice A1 (len (magZ z)) c1] 24)).alloc (.cells #[.bool false, .slice none 0 0, .slice none 0 0] 26)) := oldA
  have B_x : Bx ((w.alloc (.cells #[.bool (sgnZ z), .slice A1 (len (magZ z)) c1] 24)).alloc (.cells #[.bool false, .slice none 0 0, .slice none 0 0] 26)) (w.heap.size) #[.bool (sgnZ z), .slice A1 (len (magZ z)) c1] := by have h := (Bx.alloc (Bx.new w #[.bool (sgnZ z), .slice A1 (len (magZ z)) c1] 24) (.cells #[.bool false, .slice none 0 0, .slice none 0 0] 26)); simpa using h
  have B_r : Bx ((w.alloc (.cells #[.bool (sgnZ z), .slice A1 (len (magZ z)) c1] 24)).alloc (.cells #[.bool false, .slice none 0 0, .slice none 0 0] 26)) (w.heap.size + 1) #[.bool false, .slice none 0 0, .slice none 0 0] := by have h := (Bx.new (w.alloc (.cells #[.bool (sgnZ z), .slice A1 (len (magZ z)) c1] 24)) #[.bool false, .slice none 0 0, .slice none 0 0] 26); simpa using h
  have ne_0_1 : ¬ (w.heap.size = w.heap.size + 1) := by omega
  have ne_1_0 : ¬ (w.heap.size + 1 = w.heap.size) := by omega
  have ze : w.heap.size + 2 ≤ ((w.alloc (.cells #[.bool (sgnZ z), .slice A1 (len (magZ z)) c1] 24)).alloc (.cells #[.bool false, .slice none 0 0, .slice none 0 0] 26)).heap.size := (by simp)
  go_enter Tryz.func74, Tryz.ntmps74
  go_wp2_with fail
  refine callsNamed ?_
  intro p1 hp
  have O' : Old w p1 := (by rw [hp]; exact Below.trans (b := ((w.alloc (.cells #[.bool (sgnZ z), .slice A1 (len (magZ z)) c1] 24)).alloc (.cells #[.bool false, .slice none 0 0, .slice none 0 0] 26))) O oldA)
  replace B_x : Bx p1 (w.heap.size) #[.bool (sgnZ z), .slice A1 (len (magZ z)) c1] := (bxK B_x hp)
  replace B_r : Bx p1 (w.heap.size + 1) #[.bool false, .slice none 0 0, .slice none 0 0] := (bxK B_r hp)
  have zp1 : ((w.alloc (.cells #[.bool (sgnZ z), .slice A1 (len (magZ z)) c1] 24)).alloc (.cells #[.bool false, .slice none 0 0, .slice none 0 0] 26)).heap.size ≤ p1.heap.size := (by rw [hp]; exact leA)
  clear hp O
  have O := O'
  clear O'
  refine (plain_to (by rw [decide_eq_false HD.out]) (isOne_any A2 c2 d l2 _ (Row.below (B := w.heap.size) h2 O (Nat.le_refl _)))).mono ?_
  rintro e w1 ⟨rfl, o1⟩
  replace B_x := Bx.old B_x o1
  replace B_r := Bx.old B_r o1
  replace O := Old.trans O o1
  have zw1 := o1.size
  obtain ⟨q_x_0, q_x_1, f_x_0, f_x_1, q_x⟩ := B_x.all2
  obtain ⟨q_r_0, q_r_1, q_r_2, f_r_0, f_r_1, f_r_2, q_r⟩ := B_r.all3
  go_wp2_with fail
  refine callsNamed ?_
  intro p2 hp
  clear q_x_0 q_x_1 f_x_0 f_x_1 q_x q_r_0 q_r_1 q_r_2 f_r_0 f_r_1 f_r_2 q_r
  have O' : Old w p2 := (by rw [hp]; exact Below.trans (b := w1) O oldA)
  replace B_x : Bx p2 (w.heap.size) #[.bool (sgnZ z), .slice A1 (len (magZ z)) c1] := (bxK B_x hp)
  replace B_r : Bx p2 (w.heap.size + 1) #[.bool false, .slice none 0 0, .slice none 0 0] := (bxK B_r hp)
  have zp2 : w1.heap.size ≤ p2.heap.size := (by rw [hp]; exact leA)
  clear hp O
  have O := O'
  clear O'
  refine (natGcd_any A1 A2 c1 c2 (magZ z) d l1 l2 _ (Row.below (B := w.heap.size) h1 O (Nat.le_refl _)) (Row.below (B := w.heap.size) h2 O (Nat.le_refl _)) (by omega) (by omega)).mono ?_
  rintro e w2 ⟨⟨A3, c3, he, r3⟩, o2⟩
  replace B_x := Bx.old B_x o2
  replace B_r := Bx.old B_r o2
  replace O := Old.trans O o2
  have zw2 := o2.size
  have lim_r3 := Row.lim r3
  rw [← HG.out] at he r3 lim_r3
  subst he
  have off3 := Row.off r3 B_x (no_int2 _ _ _ _)
  obtain ⟨q_x_0, q_x_1, f_x_0, f_x_1, q_x⟩ := B_x.all2
  obtain ⟨q_r_0, q_r_1, q_r_2, f_r_0, f_r_1, f_r_2, q_r⟩ := B_r.all3
  go_wp2_with fail
  refine callsNamed ?_
  intro p3 hp
  clear q_x_0 q_x_1 f_x_0 f_x_1 q_x q_r_0 q_r_1 q_r_2 f_r_0 f_r_1 f_r_2 q_r
  have O' : Old w p3 := (by rw [hp]; exact Below.trans (b := w2) O oldA)
  replace B_x : Bx p3 (w.heap.size) #[.bool (sgnZ z), .slice A1 (len (magZ z)) c1] := (bxK B_x hp)
  replace B_r : Bx p3 (w.heap.size + 1) #[.bool false, .slice none 0 0, .slice none 0 0] := (bxK B_r hp)
  replace r3 := rowK r3 hp
  have zp3 : w2.heap.size ≤ p3.heap.size := (by rw [hp]; exact leA)
  clear hp O
  have O := O'
  clear O'
  refine (plain_to (by rw [decide_eq_false HGE.out]) (isOne_any A3 c3 G _ _ r3)).mono ?_
  rintro e w3 ⟨rfl, o3⟩
  replace B_x := Bx.old B_x o3
  replace B_r := Bx.old B_r o3
  replace r3 := Row.below r3 o3 (Nat.le_refl _)
  replace O := Old.trans O o3
  have zw3 := o3.size
  obtain ⟨q_x_0, q_x_1, f_x_0, f_x_1, q_x⟩ := B_x.all2
  obtain ⟨q_r_0, q_r_1, q_r_2, f_r_0, f_r_1, f_r_2, q_r⟩ := B_r.all3
  go_wp2_with fail
  refine callsNamed ?_
  intro p4 hp
  clear q_x_0 q_x_1 f_x_0 f_x_1 q_x q_r_0 q_r_1 q_r_2 f_r_0 f_r_1 f_r_2 q_r
  have O' : Old w p4 := (by rw [hp]; exact Below.trans (b := w3) O oldA)
  replace B_x : Bx p4 (w.heap.size) #[.bool (sgnZ z), .slice A1 (len (magZ z)) c1] := (bxK B_x hp)
  replace B_r : Bx p4 (w.heap.size + 1) #[.bool false, .slice none 0 0, .slice none 0 0] := (bxK B_r hp)
  replace r3 := rowK r3 hp
  have zp4 : w3.heap.size ≤ p4.heap.size := (by rw [hp]; exact leA)
  clear hp O
  have O := O'
  clear O'
  refine (natDiv_q A1 A3 c1 c3 (magZ z) G l1 _ _ (Row.below (B := w.heap.size) h1 O (Nat.le_refl _)) r3 (by omega) (by omega) HGP.out).mono ?_
  rintro e w4 ⟨A7, c7, A8, n8, c8, he, r7, o4⟩
  replace B_x := Bx.old B_x o4
  replace B_r := Bx.old B_r o4
  replace r3 := Row.below r3 o4 (Nat.le_refl _)
  replace O := Old.trans O o4
  have zw4 := o4.size
  replace r7 := Row.more (lo' := p4.heap.size) r7 leA
  have lim_r7 := Row.lim r7
  rw [← HX.out] at he r7 lim_r7
  subst he
  obtain ⟨q_x_0, q_x_1, f_x_0, f_x_1, q_x⟩ := B_x.all2
  obtain ⟨q_r_0, q_r_1, q_r_2, f_r_0, f_r_1, f_r_2, q_r⟩ := B_r.all3
  go_wp2_with fail
  refine callsNamed ?_
  intro p5 hp
  clear q_x_0 q_x_1 f_x_0 f_x_1 q_x q_r_0 q_r_1 q_r_2 f_r_0 f_r_1 f_r_2 q_r
  have O' : Old w p5 := (by rw [hp]; exact Below.trans (b := w4) O oldA)
  replace B_x : Bx p5 (w.heap.size) #[.bool (sgnZ z), .slice A7 (len X) c7] := (by rw [hp]; repeat' (first | (with_reducible exact B_x) | (with_reducible refine Bx.alloc ?_ _) | (with_reducible refine Bx.drewN ?_ _) | (with_reducible refine Bx.drew ?_) | refine Bx.set (cs := #[.bool (sgnZ z), .slice A1 (len (magZ z)) c1]) ?_ 1 _ | refine Bx.far ?_ (by first | assumption | (simp <;> done) | (simp; omega) | omega) _))
  replace B_r : Bx p5 (w.heap.size + 1) #[.bool false, .slice none 0 0, .slice none 0 0] := (bxK B_r hp)
  replace r3 := rowK r3 hp
  replace r7 := rowK r7 hp
  have zp5 : w4.heap.size ≤ p5.heap.size := (by rw [hp]; exact leA)
  clear hp O
  have O := O'
  clear O'
  refine (natDiv_q A2 A3 c2 c3 d G l2 _ _ (Row.below (B := w.heap.size) h2 O (Nat.le_refl _)) r3 (by omega) (by omega) HGP.out).mono ?_
  rintro e w5 ⟨A9, c9, A0, n0, c0, he, r9, o5⟩
  replace B_x := Bx.old B_x o5
  replace B_r := Bx.old B_r o5
  replace r3 := Row.below r3 o5 (Nat.le_refl _)
  replace r7 := Row.below r7 o5 (Nat.le_refl _)
  replace O := Old.trans O o5
  have zw5 := o5.size
  replace r9 := Row.more (lo' := p5.heap.size) r9 leA
  have lim_r9 := Row.lim r9
  rw [← HY.out] at he r9 lim_r9
  subst he
  obtain ⟨q_x_0, q_x_1, f_x_0, f_x_1, q_x⟩ := B_x.all2
  obtain ⟨q_r_0, q_r_1, q_r_2, f_r_0, f_r_1, f_r_2, q_r⟩ := B_r.all3
  go_wp2
  refine bodyPost_ret (v := .agg #[.bool false, .slice none 0 0, .slice none 0 0]) (by simp [results, Tryz.results74, go_sem, q_r_0, q_r_1, q_r_2]) rfl ⟨RetR.zero rfl, Below.trans (b := w5) O oldA⟩
set_option maxRecDepth 100000 in
set_option maxHeartbeats 1000000 in
theorem ratMake_red_longy (z : Int) (d : Nat) (A1 A2 : Option Addr) (c1 c2 l1 l2 : Nat) (w : World) (h1 : NatS w l1 A1 c1 (magZ z)) (h2 : NatS w l2 A2 c2 d) (hx : len (magZ z) ≤ 100) (hy : len d ≤ 100) (hp : 0 < d) (h1' : d ≠ 1) (hg : Nat.gcd (magZ z) d ≠ 1) (hf1 : len (magZ z / Nat.gcd (magZ z) d) ≤ 24) (hf2 : ¬ len (d / Nat.gcd (magZ z) d) ≤ 24) :
    Calls Tryz.prog 74 #[.agg #[.bool (sgnZ z), .slice A1 (len (magZ z)) c1], .slice A2 (len d) c2] w fun e w' => RetR e w' w.heap.size ((0, 0)) ∧ Old w w' := by
  have HD := Lib.hid h1'
  obtain ⟨G, hG⟩ : ∃ G, G = Nat.gcd (magZ z) d := ⟨_, rfl⟩
  have hps : sgnZ z = true → 0 < magZ z / Nat.gcd (magZ z) d := quo_pos
  rw [← hG] at hg hps
  have hGp : 0 < G := by rw [hG]; exact gcd_pos hp
  have hGl : len G ≤ 100 := by rw [hG]; exact gcd_len hx hy
  have HGE := Lib.hid hg
  have HGP := Lib.hid hGp
  obtain ⟨X, hX⟩ : ∃ X, X = magZ z / G := ⟨_, rfl⟩
  obtain ⟨Y, hY⟩ : ∃ Y, Y = d / G := ⟨_, rfl⟩
  rw [← hX] at hps
  have HPS := Lib.hid hps
  clear hps
  have hXl : len X ≤ 100 := by rw [hX]; have := quo_len (magZ z) G; omega
  have hYl : len Y ≤ 100 := by rw [hY]; have := quo_len d G; omega
  have HX := Lib.hid hX
  have HY := Lib.hid hY
  rw [← hG, ← hX] at hf1
  rw [← hG, ← hY] at hf2
  have t1 : ¬ (24 : Int) < ((len X : Nat) : Int) := by omega
  have t2 : (24 : Int) < ((len Y : Nat) : Int) := by omega
  have HG := Lib.hid hG
  clear hG h1' hg hGp hp hX hY
  have O : Old w ((w.alloc (.cells #[.bool (sgnZ z), .slice A1 (len (magZ z)) c1] 24)).alloc (.cells #[.bool false, .slice none 0 0, .slice none 0 0] 26)) := oldA
  have B_x : Bx ((w.alloc (.cells #[.bool (sgnZ z), .slice A1 (len (magZ z)) c1] 24)).alloc (.cells #[.bool false, .slice none 0 0, .slice none 0 0] 26)) (w.heap.size) #[.bool (sgnZ z), .slice A1 (len (magZ z)) c1] := by have h := (Bx.alloc (Bx.new w #[.bool (sgnZ z), .slice A1 (len (magZ z)) c1] 24) (.cells #[.bool false, .slice none 0 0, .slice none 0 0] 26)); simpa using h
  have B_r : Bx ((w.alloc (.cells #[.bool (sgnZ z), .slice A1 (len (magZ z)) c1] 24)).alloc (.cells #[.bool false, .slice none 0 0, .slice none 0 0] 26)) (w.heap.size + 1) #[.bool false, .slice none 0 0, .slice none 0 0] := by have h := (Bx.new (w.alloc (.cells #[.bool (sgnZ z), .slice A1 (len (magZ z)) c1] 24)) #[.bool false, .slice none 0 0, .slice none 0 0] 26); simpa using h
  have ne_0_1 : ¬ (w.heap.size = w.heap.size + 1) := by omega
  have ne_1_0 : ¬ (w.heap.size + 1 = w.heap.size) := by omega
  have ze : w.heap.size + 2 ≤ ((w.alloc (.cells #[.bool (sgnZ z), .slice A1 (len (magZ z)) c1] 24)).alloc (.cells #[.bool false, .slice none 0 0, .slice none 0 0] 26)).heap.size := (by simp)
  go_enter Tryz.func74, Tryz.ntmps74
  go_wp2_with fail
  refine callsNamed ?_
  intro p1 hp
  have O' : Old w p1 := (by rw [hp]; exact Below.trans (b := ((w.alloc (.cells #[.bool (sgnZ z), .slice A1 (len (magZ z)) c1] 24)).alloc (.cells #[.bool false, .slice none 0 0, .slice none 0 0] 26))) O oldA)
  replace B_x : Bx p1 (w.heap.size) #[.bool (sgnZ z), .slice A1 (len (magZ z)) c1] := (bxK B_x hp)
  replace B_r : Bx p1 (w.heap.size + 1) #[.bool false, .slice none 0 0, .slice none 0 0] := (bxK B_r hp)
  have zp1 : ((w.alloc (.cells #[.bool (sgnZ z), .slice A1 (len (magZ z)) c1] 24)).alloc (.cells #[.bool false, .slice none 0 0, .slice none 0 0] 26)).heap.size ≤ p1.heap.size := (by rw [hp]; exact leA)
  clear hp O
  have O := O'
  clear O'
  refine (plain_to (by rw [decide_eq_false HD.out]) (isOne_any A2 c2 d l2 _ (Row.below (B := w.heap.size) h2 O (Nat.le_refl _)))).mono ?_
  rintro e w1 ⟨rfl, o1⟩
  replace B_x := Bx.old B_x o1
  replace B_r := Bx.old B_r o1
  replace O := Old.trans O o1
  have zw1 := o1.size
  obtain ⟨q_x_0, q_x_1, f_x_0, f_x_1, q_x⟩ := B_x.all2
  obtain ⟨q_r_0, q_r_1, q_r_2, f_r_0, f_r_1, f_r_2, q_r⟩ := B_r.all3
  go_wp2_with fail
  refine callsNamed ?_
  intro p2 hp
  clear q_x_0 q_x_1 f_x_0 f_x_1 q_x q_r_0 q_r_1 q_r_2 f_r_0 f_r_1 f_r_2 q_r
  have O' : Old w p2 := (by rw [hp]; exact Below.trans (b := w1) O oldA)
  replace B_x : Bx p2 (w.heap.size) #[.bool (sgnZ z), .slice A1 (len (magZ z)) c1] := (bxK B_x hp)
  replace B_r : Bx p2 (w.heap.size + 1) #[.bool false, .slice none 0 0, .slice none 0 0] := (bxK B_r hp)
  have zp2 : w1.heap.size ≤ p2.heap.size := (by rw [hp]; exact leA)
  clear hp O
  have O := O'
  clear O'
  refine (natGcd_any A1 A2 c1 c2 (magZ z) d l1 l2 _ (Row.below (B := w.heap.size) h1 O (Nat.le_refl _)) (Row.below (B := w.heap.size) h2 O (Nat.le_refl _)) (by omega) (by omega)).mono ?_
  rintro e w2 ⟨⟨A3, c3, he, r3⟩, o2⟩
  replace B_x := Bx.old B_x o2
  replace B_r := Bx.old B_r o2
  replace O := Old.trans O o2
  have zw2 := o2.size
  have lim_r3 := Row.lim r3
  rw [← HG.out] at he r3 lim_r3
  subst he
  have off3 := Row.off r3 B_x (no_int2 _ _ _ _)
  obtain ⟨q_x_0, q_x_1, f_x_0, f_x_1, q_x⟩ := B_x.all2
  obtain ⟨q_r_0, q_r_1, q_r_2, f_r_0, f_r_1, f_r_2, q_r⟩ := B_r.all3
  go_wp2_with fail
  refine callsNamed ?_
  intro p3 hp
  clear q_x_0 q_x_1 f_x_0 f_x_1 q_x q_r_0 q_r_1 q_r_2 f_r_0 f_r_1 f_r_2 q_r
  have O' : Old w p3 := (by rw [hp]; exact Below.trans (b := w2) O oldA)
  replace B_x : Bx p3 (w.heap.size) #[.bool (sgnZ z), .slice A1 (len (magZ z)) c1] := (bxK B_x hp)
  replace B_r : Bx p3 (w.heap.size + 1) #[.bool false, .slice none 0 0, .slice none 0 0] := (bxK B_r hp)
  replace r3 := rowK r3 hp
  have zp3 : w2.heap.size ≤ p3.heap.size := (by rw [hp]; exact leA)
  clear hp O
  have O := O'
  clear O'
  refine (plain_to (by rw [decide_eq_false HGE.out]) (isOne_any A3 c3 G _ _ r3)).mono ?_
  rintro e w3 ⟨rfl, o3⟩
  replace B_x := Bx.old B_x o3
  replace B_r := Bx.old B_r o3
  replace r3 := Row.below r3 o3 (Nat.le_refl _)
  replace O := Old.trans O o3
  have zw3 := o3.size
  obtain ⟨q_x_0, q_x_1, f_x_0, f_x_1, q_x⟩ := B_x.all2
  obtain ⟨q_r_0, q_r_1, q_r_2, f_r_0, f_r_1, f_r_2, q_r⟩ := B_r.all3
  go_wp2_with fail
  refine callsNamed ?_
  intro p4 hp
  clear q_x_0 q_x_1 f_x_0 f_x_1 q_x q_r_0 q_r_1 q_r_2 f_r_0 f_r_1 f_r_2 q_r
  have O' : Old w p4 := (by rw [hp]; exact Below.trans (b := w3) O oldA)
  replace B_x : Bx p4 (w.heap.size) #[.bool (sgnZ z), .slice A1 (len (magZ z)) c1] := (bxK B_x hp)
  replace B_r : Bx p4 (w.heap.size + 1) #[.bool false, .slice none 0 0, .slice none 0 0] := (bxK B_r hp)
  replace r3 := rowK r3 hp
  have zp4 : w3.heap.size ≤ p4.heap.size := (by rw [hp]; exact leA)
  clear hp O
  have O := O'
  clear O'
  refine (natDiv_q A1 A3 c1 c3 (magZ z) G l1 _ _ (Row.below (B := w.heap.size) h1 O (Nat.le_refl _)) r3 (by omega) (by omega) HGP.out).mono ?_
  rintro e w4 ⟨A7, c7, A8, n8, c8, he, r7, o4⟩
  replace B_x := Bx.old B_x o4
  replace B_r := Bx.old B_r o4
  replace r3 := Row.below r3 o4 (Nat.le_refl _)
  replace O := Old.trans O o4
  have zw4 := o4.size
  replace r7 := Row.more (lo' := p4.heap.size) r7 leA
  have lim_r7 := Row.lim r7
  rw [← HX.out] at he r7 lim_r7
  subst he
  obtain ⟨q_x_0, q_x_1, f_x_0, f_x_1, q_x⟩ := B_x.all2
  obtain ⟨q_r_0, q_r_1, q_r_2, f_r_0, f_r_1, f_r_2, q_r⟩ := B_r.all3
  go_wp2_with fail
  refine callsNamed ?_
  intro p5 hp
  clear q_x_0 q_x_1 f_x_0 f_x_1 q_x q_r_0 q_r_1 q_r_2 f_r_0 f_r_1 f_r_2 q_r
  have O' : Old w p5 := (by rw [hp]; exact Below.trans (b := w4) O oldA)
  replace B_x : Bx p5 (w.heap.size) #[.bool (sgnZ z), .slice A7 (len X) c7] := (by rw [hp]; repeat' (first | (with_reducible exact B_x) | (with_reducible refine Bx.alloc ?_ _) | (with_reducible refine Bx.drewN ?_ _) | (with_reducible refine Bx.drew ?_) | refine Bx.set (cs := #[.bool (sgnZ z), .slice A1 (len (magZ z)) c1]) ?_ 1 _ | refine Bx.far ?_ (by first | assumption | (simp <;> done) | (simp; omega) | omega) _))
  replace B_r : Bx p5 (w.heap.size + 1) #[.bool false, .slice none 0 0, .slice none 0 0] := (bxK B_r hp)
  replace r3 := rowK r3 hp
  replace r7 := rowK r7 hp
  have zp5 : w4.heap.size ≤ p5.heap.size := (by rw [hp]; exact leA)
  clear hp O
  have O := O'
  clear O'
  refine (natDiv_q A2 A3 c2 c3 d G l2 _ _ (Row.below (B := w.heap.size) h2 O (Nat.le_refl _)) r3 (by omega) (by omega) HGP.out).mono ?_
  rintro e w5 ⟨A9, c9, A0, n0, c0, he, r9, o5⟩
  replace B_x := Bx.old B_x o5
  replace B_r := Bx.old B_r o5
  replace r3 := Row.below r3 o5 (Nat.le_refl _)
  replace r7 := Row.below r7 o5 (Nat.le_refl _)
  replace O := Old.trans O o5
  have zw5 := o5.size
  replace r9 := Row.more (lo' := p5.heap.size) r9 leA
  have lim_r9 := Row.lim r9
  rw [← HY.out] at he r9 lim_r9
  subst he
  obtain ⟨q_x_0, q_x_1, f_x_0, f_x_1, q_x⟩ := B_x.all2
  obtain ⟨q_r_0, q_r_1, q_r_2, f_r_0, f_r_1, f_r_2, q_r⟩ := B_r.all3
  go_wp2
  refine bodyPost_ret (v := .agg #[.bool false, .slice none 0 0, .slice none 0 0]) (by simp [results, Tryz.results74, go_sem, q_r_0, q_r_1, q_r_2]) rfl ⟨RetR.zero rfl, Below.trans (b := w5) O oldA⟩
theorem ratMake_any (z : Int) (d : Nat) (A1 A2 : Option Addr) (c1 c2 l1 l2 : Nat) (w : World) (h1 : NatS w l1 A1 c1 (magZ z)) (h2 : NatS w l2 A2 c2 d) (hx : len (magZ z) ≤ 100) (hy : len d ≤ 100) (hp : 0 < d) :
    Calls Tryz.prog 74 #[.agg #[.bool (sgnZ z), .slice A1 (len (magZ z)) c1], .slice A2 (len d) c2] w fun e w' => RetR e w' w.heap.size (mkF z d) ∧ Old w w' := by
  by_cases h1' : d = 1
  · by_cases hf : len (magZ z) ≤ 24
    · exact ratMake_one_fit z d A1 A2 c1 c2 l1 l2 w h1 h2 hx hy hp h1' hf
    · rw [mkF_no (fun h => hf (by have := h.1; rwa [h1', Nat.gcd_one_right, Nat.div_one] at this))]
      exact ratMake_one_longx z d A1 A2 c1 c2 l1 l2 w h1 h2 hx hy hp h1' hf
  · by_cases hg : Nat.gcd (magZ z) d = 1
    · by_cases hf : len (magZ z) ≤ 24
      · by_cases hf2 : len d ≤ 24
        · exact ratMake_low_fit z d A1 A2 c1 c2 l1 l2 w h1 h2 hx hy hp h1' hg hf hf2
        · rw [mkF_no (fun h => hf2 (by have := h.2; rwa [hg, Nat.div_one] at this))]
          exact ratMake_low_longy z d A1 A2 c1 c2 l1 l2 w h1 h2 hx hy hp h1' hg hf hf2
      · rw [mkF_no (fun h => hf (by have := h.1; rwa [hg, Nat.div_one] at this))]
        exact ratMake_low_longx z d A1 A2 c1 c2 l1 l2 w h1 h2 hx hy hp h1' hg hf
    · by_cases hf : len (magZ z / Nat.gcd (magZ z) d) ≤ 24
      · by_cases hf2 : len (d / Nat.gcd (magZ z) d) ≤ 24
        · exact ratMake_red_fit z d A1 A2 c1 c2 l1 l2 w h1 h2 hx hy hp h1' hg hf hf2
        · rw [mkF_no (fun h => hf2 h.2)]
          exact ratMake_red_longy z d A1 A2 c1 c2 l1 l2 w h1 h2 hx hy hp h1' hg hf hf2
      · rw [mkF_no (fun h => hf h.1)]
        exact ratMake_red_longx z d A1 A2 c1 c2 l1 l2 w h1 h2 hx hy hp h1' hg hf
set_option maxRecDepth 100000 in
set_option maxHeartbeats 1000000 in
theorem ownRat_any (z1 : Int) (d1 : Nat) (A1 D1 : Option Addr) (c1 e1 l1 m1 : Nat) (w : World) (h1 : NatS w l1 A1 c1 (magZ z1)) (k1 : NatS w m1 D1 e1 d1) (n1 : normF (z1, d1)) :
    Calls Tryz.prog 44 #[.agg #[.bool (sgnZ z1), .slice A1 (len (magZ z1)) c1, .slice D1 (len d1) e1]] w fun e w' => RetR e w' w.heap.size (z1, d1) ∧ Old w w' := by
  have N1 := Lib.hid n1
  have LN1 := norm_len n1
  have La1 : len (magZ z1) ≤ 24 := LN1.1
  have Lb1 : len d1 ≤ 24 := LN1.2
  clear n1 LN1
  have O : Old w ((w.alloc (.cells #[.bool (sgnZ z1), .slice A1 (len (magZ z1)) c1, .slice D1 (len d1) e1] 26)).alloc (.cells #[.bool false, .slice none 0 0, .slice none 0 0] 26)) := oldA
  have B_x : Bx ((w.alloc (.cells #[.bool (sgnZ z1), .slice A1 (len (magZ z1)) c1, .slice D1 (len d1) e1] 26)).alloc (.cells #[.bool false, .slice none 0 0, .slice none 0 0] 26)) (w.heap.size) #[.bool (sgnZ z1), .slice A1 (len (magZ z1)) c1, .slice D1 (len d1) e1] := by have h := (Bx.alloc (Bx.new w #[.bool (sgnZ z1), .slice A1 (len (magZ z1)) c1, .slice D1 (len d1) e1] 26) (.cells #[.bool false, .slice none 0 0, .slice none 0 0] 26)); simpa using h
  have B_r : Bx ((w.alloc (.cells #[.bool (sgnZ z1), .slice A1 (len (magZ z1)) c1, .slice D1 (len d1) e1] 26)).alloc (.cells #[.bool false, .slice none 0 0, .slice none 0 0] 26)) (w.heap.size + 1) #[.bool false, .slice none 0 0, .slice none 0 0] := by have h := (Bx.new (w.alloc (.cells #[.bool (sgnZ z1), .slice A1 (len (magZ z1)) c1, .slice D1 (len d1) e1] 26)) #[.bool false, .slice none 0 0, .slice none 0 0] 26); simpa using h
  have ne_0_1 : ¬ (w.heap.size = w.heap.size + 1) := by omega
  have ne_1_0 : ¬ (w.heap.size + 1 = w.heap.size) := by omega
  have ze : w.heap.size + 2 ≤ ((w.alloc (.cells #[.bool (sgnZ z1), .slice A1 (len (magZ z1)) c1, .slice D1 (len d1) e1] 26)).alloc (.cells #[.bool false, .slice none 0 0, .slice none 0 0] 26)).heap.size := (by simp)
  go_enter Tryz.func44, Tryz.ntmps44
  go_wp2_with fail
  go_region_held3 (fun w' => w'.cell? ⟨w.heap.size, 0, none⟩ = some (.bool (sgnZ z1)) ∧ w'.cell? ⟨w.heap.size, 1, none⟩ = some (.slice A1 (len (magZ z1)) c1) ∧ w'.cell? ⟨w.heap.size, 2, none⟩ = some (.slice D1 (len d1) e1)) (go_keep)
    (first
     | (go_at_call 77; refine callsNamed ?_; intro p1 hp; have O' : Old w p1 := (by rw [hp]; exact Below.trans (b := ((w.alloc (.cells #[.bool (sgnZ z1), .slice A1 (len (magZ z1)) c1, .slice D1 (len d1) e1] 26)).alloc (.cells #[.bool false, .slice none 0 0, .slice none 0 0] 26))) O oldA); replace B_x : Bx p1 (w.heap.size) #[.bool (sgnZ z1), .slice A1 (len (magZ z1)) c1, .slice D1 (len d1) e1] := (bxK B_x hp); replace B_r : Bx p1 (w.heap.size + 1) #[.bool false, .slice none 0 0, .slice none 0 0] := (bxK B_r hp); have zp1 : ((w.alloc (.cells #[.bool (sgnZ z1), .slice A1 (len (magZ z1)) c1, .slice D1 (len d1) e1] 26)).alloc (.cells #[.bool false, .slice none 0 0, .slice none 0 0] 26)).heap.size ≤ p1.heap.size := (by rw [hp]; exact leA); clear hp O; have O := O'; clear O'; (with_reducible refine (clone_any A1 (len (magZ z1)) c1 _ (digI (magZ z1)) _ (Row.below (B := w.heap.size) h1 O (Nat.le_refl _)) (by omega)).mono ?_); rintro e w1 ⟨A5, c5, rfl, r5, o1⟩; replace B_x := Bx.old B_x o1; replace B_r := Bx.old B_r o1; replace O := Old.trans O o1; have zw1 := o1.size; replace r5 := Row.more (lo' := p1.heap.size) r5 leA; have lim_r5 := Row.lim r5; obtain ⟨q_x_0, q_x_1, q_x_2, f_x_0, f_x_1, f_x_2, q_x⟩ := B_x.all3; obtain ⟨q_r_0, q_r_1, q_r_2, f_r_0, f_r_1, f_r_2, q_r⟩ := B_r.all3)
     | (go_at_call 77; refine callsNamed ?_; intro p2 hp; clear q_x_0 q_x_1 q_x_2 f_x_0 f_x_1 f_x_2 q_x q_r_0 q_r_1 q_r_2 f_r_0 f_r_1 f_r_2 q_r; have O' : Old w p2 := (by rw [hp]; exact Below.trans (b := w1) O oldA); replace B_x : Bx p2 (w.heap.size) #[.bool (sgnZ z1), .slice A1 (len (magZ z1)) c1, .slice D1 (len d1) e1] := (bxK B_x hp); replace B_r : Bx p2 (w.heap.size + 1) #[.bool false, .slice none 0 0, .slice none 0 0] := (bxK B_r hp); replace r5 := rowK r5 hp; have zp2 : w1.heap.size ≤ p2.heap.size := (by rw [hp]; exact leA); clear hp O; have O := O'; clear O'; (with_reducible refine (clone_any D1 (len d1) e1 _ (digI d1) _ (Row.below (B := w.heap.size) k1 O (Nat.le_refl _)) (by omega)).mono ?_); rintro e w2 ⟨A6, c6, rfl, r6, o2⟩; replace B_x := Bx.old B_x o2; replace B_r := Bx.old B_r o2; replace r5 := Row.below r5 o2 (Nat.le_refl _); replace O := Old.trans O o2; have zw2 := o2.size; replace r6 := Row.more (lo' := p2.heap.size) r6 leA; have lim_r6 := Row.lim r6; obtain ⟨q_x_0, q_x_1, q_x_2, f_x_0, f_x_1, f_x_2, q_x⟩ := B_x.all3; obtain ⟨q_r_0, q_r_1, q_r_2, f_r_0, f_r_1, f_r_2, q_r⟩ := B_r.all3))
  have AP := Apart.of lim_r5 r6 (by omega)
  have AP' := Lib.hid AP
  clear AP
  go_wp2
  refine bodyPost_ret (v := .agg #[.bool (sgnZ z1), .slice A5 (len (magZ z1)) c5, .slice A6 (len d1) c6]) (by simp [results, Tryz.results44, go_sem, q_r_0, q_r_1, q_r_2]) rfl ⟨⟨z1, d1, A5, c5, A6, c6, rfl, rfl, ?_, ?_, AP'.out⟩, ?_⟩
  · refine Row.more (lo := p1.heap.size) ?_ leA
    repeat' (first | exact r5 | refine Row.far_set ?_ (by first | (simp <;> done) | (simp; omega) | omega) _)
  · refine Row.more (lo := p2.heap.size) ?_ leA
    repeat' (first | exact r6 | refine Row.far_set ?_ (by first | (simp <;> done) | (simp; omega) | omega) _)
  · exact Below.trans (b := w2) O oldA
set_option maxRecDepth 100000 in
set_option maxHeartbeats 1000000 in
theorem ratNeg_any (z1 : Int) (d1 : Nat) (A1 D1 : Option Addr) (c1 e1 l1 m1 : Nat) (w : World) (h1 : NatS w l1 A1 c1 (magZ z1)) :
    Calls Tryz.prog 70 #[.agg #[.bool (sgnZ z1), .slice A1 (len (magZ z1)) c1, .slice D1 (len d1) e1]] w fun e w' => e = .returned (.agg #[.bool (sgnZ (-z1)), .slice A1 (len (magZ z1)) c1, .slice D1 (len d1) e1]) ∧ Old w w' := by
  have HN := Lib.hid (neg_sgn z1)
  have O : Old w ((w.alloc (.cells #[.bool (sgnZ z1), .slice A1 (len (magZ z1)) c1, .slice D1 (len d1) e1] 26)).alloc (.cells #[.bool false, .slice none 0 0, .slice none 0 0] 26)) := oldA
  have B_x : Bx ((w.alloc (.cells #[.bool (sgnZ z1), .slice A1 (len (magZ z1)) c1, .slice D1 (len d1) e1] 26)).alloc (.cells #[.bool false, .slice none 0 0, .slice none 0 0] 26)) (w.heap.size) #[.bool (sgnZ z1), .slice A1 (len (magZ z1)) c1, .slice D1 (len d1) e1] := by have h := (Bx.alloc (Bx.new w #[.bool (sgnZ z1), .slice A1 (len (magZ z1)) c1, .slice D1 (len d1) e1] 26) (.cells #[.bool false, .slice none 0 0, .slice none 0 0] 26)); simpa using h
  have B_r : Bx ((w.alloc (.cells #[.bool (sgnZ z1), .slice A1 (len (magZ z1)) c1, .slice D1 (len d1) e1] 26)).alloc (.cells #[.bool false, .slice none 0 0, .slice none 0 0] 26)) (w.heap.size + 1) #[.bool false, .slice none 0 0, .slice none 0 0] := by have h := (Bx.new (w.alloc (.cells #[.bool (sgnZ z1), .slice A1 (len (magZ z1)) c1, .slice D1 (len d1) e1] 26)) #[.bool false, .slice none 0 0, .slice none 0 0] 26); simpa using h
  have ne_0_1 : ¬ (w.heap.size = w.heap.size + 1) := by omega
  have ne_1_0 : ¬ (w.heap.size + 1 = w.heap.size) := by omega
  have ze : w.heap.size + 2 ≤ ((w.alloc (.cells #[.bool (sgnZ z1), .slice A1 (len (magZ z1)) c1, .slice D1 (len d1) e1] 26)).alloc (.cells #[.bool false, .slice none 0 0, .slice none 0 0] 26)).heap.size := (by simp)
  go_enter Tryz.func70, Tryz.ntmps70
  go_wp2_with fail
  go_region_held3 (fun w' => w'.cell? ⟨w.heap.size, 0, none⟩ = some (.bool (sgnZ z1)) ∧ w'.cell? ⟨w.heap.size, 1, none⟩ = some (.slice A1 (len (magZ z1)) c1) ∧ w'.cell? ⟨w.heap.size, 2, none⟩ = some (.slice D1 (len d1) e1)) (go_keep)
    (first
     | (go_at_call 98; refine callsNamed ?_; intro p1 hp; have O' : Old w p1 := (by rw [hp]; exact Below.trans (b := ((w.alloc (.cells #[.bool (sgnZ z1), .slice A1 (len (magZ z1)) c1, .slice D1 (len d1) e1] 26)).alloc (.cells #[.bool false, .slice none 0 0, .slice none 0 0] 26))) O oldA); replace B_x : Bx p1 (w.heap.size) #[.bool (sgnZ z1), .slice A1 (len (magZ z1)) c1, .slice D1 (len d1) e1] := (bxK B_x hp); replace B_r : Bx p1 (w.heap.size + 1) #[.bool false, .slice none 0 0, .slice none 0 0] := (bxK B_r hp); have zp1 : ((w.alloc (.cells #[.bool (sgnZ z1), .slice A1 (len (magZ z1)) c1, .slice D1 (len d1) e1] 26)).alloc (.cells #[.bool false, .slice none 0 0, .slice none 0 0] 26)).heap.size ≤ p1.heap.size := (by rw [hp]; exact leA); clear hp O; have O := O'; clear O'; refine (plain_to (v' := .agg #[.bool (sgnZ (-z1)), .slice A1 (len (magZ z1)) c1]) (by rw [HN.out]) (bigNeg_any (sgnZ z1) A1 (len (magZ z1)) c1 _)).mono ?_; rintro e w1 ⟨rfl, o1⟩; replace B_x := Bx.old B_x o1; replace B_r := Bx.old B_r o1; replace O := Old.trans O o1; have zw1 := o1.size; obtain ⟨q_x_0, q_x_1, q_x_2, f_x_0, f_x_1, f_x_2, q_x⟩ := B_x.all3; obtain ⟨q_r_0, q_r_1, q_r_2, f_r_0, f_r_1, f_r_2, q_r⟩ := B_r.all3))
  go_wp2
  refine bodyPost_ret (v := .agg #[.bool (sgnZ (-z1)), .slice A1 (len (magZ z1)) c1, .slice D1 (len d1) e1]) (by simp [results, Tryz.results70, go_sem, q_r_0, q_r_1, q_r_2]) rfl ⟨rfl, Below.trans (b := w1) O oldA⟩
end Go.Proofs.YtgchbbjhdeobpaaGreatDoor

namespace Go.Proofs.YtgchbbjhdeobpaaGreatDoor
set_option linter.unusedVariables false
open Go.RowKit Num
attribute [local go_sem ↓] Go.wp_at_zero Go.wp_at_succ
open Classical in
noncomputable def vRatMake (b1 : Bool) (n1 : Nat) (f1 : Nat → Int) (b2 : Bool) (n2 : Nat) (f2 : Nat → Int) : Fr := if okB b1 n1 f1 ∧ okB b2 n2 f2 then mkF (signed (b1 != b2) (natX n1 f1)) (natX n2 f2) else (0, 0)
theorem vRatMake_yes {b1 b2 : Bool} {n1 n2 : Nat} {f1 f2 : Nat → Int} (k1 : okB b1 n1 f1) (k2 : okB b2 n2 f2) : vRatMake b1 n1 f1 b2 n2 f2 = mkF (signed (b1 != b2) (natX n1 f1)) (natX n2 f2) := if_pos ⟨k1, k2⟩
theorem vRatMake_no1 {b1 b2 : Bool} {n1 n2 : Nat} {f1 f2 : Nat → Int} (k1 : ¬ okB b1 n1 f1) : vRatMake b1 n1 f1 b2 n2 f2 = (0, 0) := if_neg fun h => k1 h.1
theorem vRatMake_no2 {b1 b2 : Bool} {n1 n2 : Nat} {f1 f2 : Nat → Int} (k2 : ¬ okB b2 n2 f2) : vRatMake b1 n1 f1 b2 n2 f2 = (0, 0) := if_neg fun h => k2 h.2
set_option maxRecDepth 100000 in
set_option maxHeartbeats 1000000 in
theorem spec_RatMake_yes (b1 b2 : Bool) (A1 A2 : Option Addr) (c1 c2 x y l1 l2 : Nat) (w : World) (h1 : NatS w l1 A1 c1 x) (h2 : NatS w l2 A2 c2 y) (hx : len x ≤ 60) (hy : len y ≤ 60) (hb1 : b1 = true → 0 < x) (hb2 : b2 = true → 0 < y)  :
    Calls Tryz.prog 96 #[.agg #[.bool b1, .slice A1 (len x) c1], .agg #[.bool b2, .slice A2 (len y) c2]] w fun e w' => RetR e w' w.heap.size (mkF (signed (b1 != b2) x) y) ∧ Old w w' := by
  have HB1 := Lib.hid hb1
  have HB2 := Lib.hid hb2
  clear hb1 hb2
  have O : Old w (((w.alloc (.cells #[.bool b1, .slice A1 (len x) c1] 24)).alloc (.cells #[.bool b2, .slice A2 (len y) c2] 24)).alloc (.cells #[.bool false, .slice none 0 0, .slice none 0 0] 26)) := oldA
  have B_x : Bx (((w.alloc (.cells #[.bool b1, .slice A1 (len x) c1] 24)).alloc (.cells #[.bool b2, .slice A2 (len y) c2] 24)).alloc (.cells #[.bool false, .slice none 0 0, .slice none 0 0] 26)) (w.heap.size) #[.bool b1, .slice A1 (len x) c1] := by have h := (Bx.alloc (Bx.alloc (Bx.new w #[.bool b1, .slice A1 (len x) c1] 24) (.cells #[.bool b2, .slice A2 (len y) c2] 24)) (.cells #[.bool false, .slice none 0 0, .slice none 0 0] 26)); simpa using h
  have B_y : Bx (((w.alloc (.cells #[.bool b1, .slice A1 (len x) c1] 24)).alloc (.cells #[.bool b2, .slice A2 (len y) c2] 24)).alloc (.cells #[.bool false, .slice none 0 0, .slice none 0 0] 26)) (w.heap.size + 1) #[.bool b2, .slice A2 (len y) c2] := by have h := (Bx.alloc (Bx.new (w.alloc (.cells #[.bool b1, .slice A1 (len x) c1] 24)) #[.bool b2, .slice A2 (len y) c2] 24) (.cells #[.bool false, .slice none 0 0, .slice none 0 0] 26)); simpa using h
  have B_r : Bx (((w.alloc (.cells #[.bool b1, .slice A1 (len x) c1] 24)).alloc (.cells #[.bool b2, .slice A2 (len y) c2] 24)).alloc (.cells #[.bool false, .slice none 0 0, .slice none 0 0] 26)) (w.heap.size + 1 + 1) #[.bool false, .slice none 0 0, .slice none 0 0] := by have h := (Bx.new ((w.alloc (.cells #[.bool b1, .slice A1 (len x) c1] 24)).alloc (.cells #[.bool b2, .slice A2 (len y) c2] 24)) #[.bool false, .slice none 0 0, .slice none 0 0] 26); simpa using h
  have ne_0_1 : ¬ (w.heap.size = w.heap.size + 1) := by omega
  have ne_0_2 : ¬ (w.heap.size = w.heap.size + 1 + 1) := by omega
  have ne_1_0 : ¬ (w.heap.size + 1 = w.heap.size) := by omega
  have ne_1_2 : ¬ (w.heap.size + 1 = w.heap.size + 1 + 1) := by omega
  have ne_2_0 : ¬ (w.heap.size + 1 + 1 = w.heap.size) := by omega
  have ne_2_1 : ¬ (w.heap.size + 1 + 1 = w.heap.size + 1) := by omega
  have ze : w.heap.size + 3 ≤ (((w.alloc (.cells #[.bool b1, .slice A1 (len x) c1] 24)).alloc (.cells #[.bool b2, .slice A2 (len y) c2] 24)).alloc (.cells #[.bool false, .slice none 0 0, .slice none 0 0] 26)).heap.size := (by simp)
  go_enter Tryz.func96, Tryz.ntmps96
  go_wp2_with fail
  refine callsNamed ?_
  intro p1 hp
  have O' : Old w p1 := (by rw [hp]; exact Below.trans (b := (((w.alloc (.cells #[.bool b1, .slice A1 (len x) c1] 24)).alloc (.cells #[.bool b2, .slice A2 (len y) c2] 24)).alloc (.cells #[.bool false, .slice none 0 0, .slice none 0 0] 26))) O oldA)
  replace B_x : Bx p1 (w.heap.size) #[.bool b1, .slice A1 (len x) c1] := (bxK B_x hp)
  replace B_y : Bx p1 (w.heap.size + 1) #[.bool b2, .slice A2 (len y) c2] := (bxK B_y hp)
  replace B_r : Bx p1 (w.heap.size + 1 + 1) #[.bool false, .slice none 0 0, .slice none 0 0] := (bxK B_r hp)
  have zp1 : (((w.alloc (.cells #[.bool b1, .slice A1 (len x) c1] 24)).alloc (.cells #[.bool b2, .slice A2 (len y) c2] 24)).alloc (.cells #[.bool false, .slice none 0 0, .slice none 0 0] 26)).heap.size ≤ p1.heap.size := (by rw [hp]; exact leA)
  clear hp O
  have O := O'
  clear O'
  refine (spec_BigIntOk_yes b1 A1 c1 x l1 _ (Row.below (B := w.heap.size) h1 O (Nat.le_refl _)) hx HB1.out).mono ?_
  rintro e w1 ⟨rfl, o1⟩
  replace B_x := Bx.old B_x o1
  replace B_y := Bx.old B_y o1
  replace B_r := Bx.old B_r o1
  replace O := Old.trans O o1
  have zw1 := o1.size
  obtain ⟨q_x_0, q_x_1, f_x_0, f_x_1, q_x⟩ := B_x.all2
  obtain ⟨q_y_0, q_y_1, f_y_0, f_y_1, q_y⟩ := B_y.all2
  obtain ⟨q_r_0, q_r_1, q_r_2, f_r_0, f_r_1, f_r_2, q_r⟩ := B_r.all3
  go_wp2_with fail
  refine callsNamed ?_
  intro p2 hp
  clear q_x_0 q_x_1 f_x_0 f_x_1 q_x q_y_0 q_y_1 f_y_0 f_y_1 q_y q_r_0 q_r_1 q_r_2 f_r_0 f_r_1 f_r_2 q_r
  have O' : Old w p2 := (by rw [hp]; exact Below.trans (b := w1) O oldA)
  replace B_x : Bx p2 (w.heap.size) #[.bool b1, .slice A1 (len x) c1] := (bxK B_x hp)
  replace B_y : Bx p2 (w.heap.size + 1) #[.bool b2, .slice A2 (len y) c2] := (bxK B_y hp)
  replace B_r : Bx p2 (w.heap.size + 1 + 1) #[.bool false, .slice none 0 0, .slice none 0 0] := (bxK B_r hp)
  have zp2 : w1.heap.size ≤ p2.heap.size := (by rw [hp]; exact leA)
  clear hp O
  have O := O'
  clear O'
  refine (spec_BigIntOk_yes b2 A2 c2 y l2 _ (Row.below (B := w.heap.size) h2 O (Nat.le_refl _)) hy HB2.out).mono ?_
  rintro e w2 ⟨rfl, o2⟩
  replace B_x := Bx.old B_x o2
  replace B_y := Bx.old B_y o2
  replace B_r := Bx.old B_r o2
  replace O := Old.trans O o2
  have zw2 := o2.size
  obtain ⟨q_x_0, q_x_1, f_x_0, f_x_1, q_x⟩ := B_x.all2
  obtain ⟨q_y_0, q_y_1, f_y_0, f_y_1, q_y⟩ := B_y.all2
  obtain ⟨q_r_0, q_r_1, q_r_2, f_r_0, f_r_1, f_r_2, q_r⟩ := B_r.all3
  go_wp2_with fail
  refine callsNamed ?_
  intro p3 hp
  clear q_x_0 q_x_1 f_x_0 f_x_1 q_x q_y_0 q_y_1 f_y_0 f_y_1 q_y q_r_0 q_r_1 q_r_2 f_r_0 f_r_1 f_r_2 q_r
  have O' : Old w p3 := (by rw [hp]; exact Below.trans (b := w2) O oldA)
  replace B_x : Bx p3 (w.heap.size) #[.bool b1, .slice A1 (len x) c1] := (bxK B_x hp)
  replace B_y : Bx p3 (w.heap.size + 1) #[.bool b2, .slice A2 (len y) c2] := (bxK B_y hp)
  replace B_r : Bx p3 (w.heap.size + 1 + 1) #[.bool false, .slice none 0 0, .slice none 0 0] := (bxK B_r hp)
  have zp3 : w2.heap.size ≤ p3.heap.size := (by rw [hp]; exact leA)
  clear hp O
  have O := O'
  clear O'
  refine (l04Low_any (b1 != b2) A1 A2 c1 c2 x y l1 l2 _ (Row.below (B := w.heap.size) h1 O (Nat.le_refl _)) (Row.below (B := w.heap.size) h2 O (Nat.le_refl _)) (by omega) (by omega)).mono ?_
  rintro e w3 ⟨⟨z9, d9, A9, c9, D9, e9, hv, rfl, r9, s9, ap⟩, o3⟩
  replace B_x := Bx.old B_x o3
  replace B_y := Bx.old B_y o3
  replace B_r := Bx.old B_r o3
  replace O := Old.trans O o3
  have zw3 := o3.size
  replace r9 := Row.more (lo' := p3.heap.size) r9 leA
  replace s9 := Row.more (lo' := p3.heap.size) s9 leA
  have lim_r9 := Row.lim r9
  have lim_s9 := Row.lim s9
  have HV := Lib.hid hv
  have AP := Lib.hid ap
  clear hv ap
  obtain ⟨q_x_0, q_x_1, f_x_0, f_x_1, q_x⟩ := B_x.all2
  obtain ⟨q_y_0, q_y_1, f_y_0, f_y_1, q_y⟩ := B_y.all2
  obtain ⟨q_r_0, q_r_1, q_r_2, f_r_0, f_r_1, f_r_2, q_r⟩ := B_r.all3
  go_wp2
  refine bodyPost_ret (v := .agg #[.bool (sgnZ z9), .slice A9 (len (magZ z9)) c9, .slice D9 (len d9) e9]) (by simp [results, Tryz.results96, go_sem, q_r_0, q_r_1, q_r_2]) rfl ⟨⟨z9, d9, A9, c9, D9, e9, HV.out, rfl, ?_, ?_, AP.out⟩, ?_⟩
  · refine Row.more (lo := p3.heap.size) ?_ leA
    repeat' (first | (with_reducible exact r9) | (with_reducible refine Row.far_set ?_ (by first | (simp <;> done) | (simp; omega) | omega) _))
  · refine Row.more (lo := p3.heap.size) ?_ leA
    repeat' (first | (with_reducible exact s9) | (with_reducible refine Row.far_set ?_ (by first | (simp <;> done) | (simp; omega) | omega) _))
  · exact Below.trans (b := w3) O oldA
set_option maxRecDepth 100000 in
set_option maxHeartbeats 1000000 in
theorem spec_RatMake_no1 (b1 : Bool) (A1 : Option Addr) (n1 c1 l1 : Nat) (f1 : Nat → Int) (b2 : Bool) (A2 : Option Addr) (n2 c2 l2 : Nat) (f2 : Nat → Int) (w : World) (h1 : Row w l1 A1 n1 c1 f1) (hn1 : n1 ≤ 1048576) (q1 : ¬ okB b1 n1 f1) :
    Calls Tryz.prog 96 #[.agg #[.bool b1, .slice A1 n1 c1], .agg #[.bool b2, .slice A2 n2 c2]] w fun e w' => RetR e w' w.heap.size (0, 0) ∧ Old w w' := by
  have Q1 := Lib.hid q1
  clear q1
  have O : Old w (((w.alloc (.cells #[.bool b1, .slice A1 n1 c1] 24)).alloc (.cells #[.bool b2, .slice A2 n2 c2] 24)).alloc (.cells #[.bool false, .slice none 0 0, .slice none 0 0] 26)) := oldA
  have B_x : Bx (((w.alloc (.cells #[.bool b1, .slice A1 n1 c1] 24)).alloc (.cells #[.bool b2, .slice A2 n2 c2] 24)).alloc (.cells #[.bool false, .slice none 0 0, .slice none 0 0] 26)) (w.heap.size) #[.bool b1, .slice A1 n1 c1] := by have h := (Bx.alloc (Bx.alloc (Bx.new w #[.bool b1, .slice A1 n1 c1] 24) (.cells #[.bool b2, .slice A2 n2 c2] 24)) (.cells #[.bool false, .slice none 0 0, .slice none 0 0] 26)); simpa using h
  have B_y : Bx (((w.alloc (.cells #[.bool b1, .slice A1 n1 c1] 24)).alloc (.cells #[.bool b2, .slice A2 n2 c2] 24)).alloc (.cells #[.bool false, .slice none 0 0, .slice none 0 0] 26)) (w.heap.size + 1) #[.bool b2, .slice A2 n2 c2] := by have h := (Bx.alloc (Bx.new (w.alloc (.cells #[.bool b1, .slice A1 n1 c1] 24)) #[.bool b2, .slice A2 n2 c2] 24) (.cells #[.bool false, .slice none 0 0, .slice none 0 0] 26)); simpa using h
  have B_r : Bx (((w.alloc (.cells #[.bool b1, .slice A1 n1 c1] 24)).alloc (.cells #[.bool b2, .slice A2 n2 c2] 24)).alloc (.cells #[.bool false, .slice none 0 0, .slice none 0 0] 26)) (w.heap.size + 1 + 1) #[.bool false, .slice none 0 0, .slice none 0 0] := by have h := (Bx.new ((w.alloc (.cells #[.bool b1, .slice A1 n1 c1] 24)).alloc (.cells #[.bool b2, .slice A2 n2 c2] 24)) #[.bool false, .slice none 0 0, .slice none 0 0] 26); simpa using h
  have ne_0_1 : ¬ (w.heap.size = w.heap.size + 1) := by omega
  have ne_0_2 : ¬ (w.heap.size = w.heap.size + 1 + 1) := by omega
  have ne_1_0 : ¬ (w.heap.size + 1 = w.heap.size) := by omega
  have ne_1_2 : ¬ (w.heap.size + 1 = w.heap.size + 1 + 1) := by omega
  have ne_2_0 : ¬ (w.heap.size + 1 + 1 = w.heap.size) := by omega
  have ne_2_1 : ¬ (w.heap.size + 1 + 1 = w.heap.size + 1) := by omega
  have ze : w.heap.size + 3 ≤ (((w.alloc (.cells #[.bool b1, .slice A1 n1 c1] 24)).alloc (.cells #[.bool b2, .slice A2 n2 c2] 24)).alloc (.cells #[.bool false, .slice none 0 0, .slice none 0 0] 26)).heap.size := (by simp)
  go_enter Tryz.func96, Tryz.ntmps96
  go_wp2_with fail
  refine callsNamed ?_
  intro p1 hp
  have O' : Old w p1 := (by rw [hp]; exact Below.trans (b := (((w.alloc (.cells #[.bool b1, .slice A1 n1 c1] 24)).alloc (.cells #[.bool b2, .slice A2 n2 c2] 24)).alloc (.cells #[.bool false, .slice none 0 0, .slice none 0 0] 26))) O oldA)
  replace B_x : Bx p1 (w.heap.size) #[.bool b1, .slice A1 n1 c1] := (bxK B_x hp)
  replace B_y : Bx p1 (w.heap.size + 1) #[.bool b2, .slice A2 n2 c2] := (bxK B_y hp)
  replace B_r : Bx p1 (w.heap.size + 1 + 1) #[.bool false, .slice none 0 0, .slice none 0 0] := (bxK B_r hp)
  have zp1 : (((w.alloc (.cells #[.bool b1, .slice A1 n1 c1] 24)).alloc (.cells #[.bool b2, .slice A2 n2 c2] 24)).alloc (.cells #[.bool false, .slice none 0 0, .slice none 0 0] 26)).heap.size ≤ p1.heap.size := (by rw [hp]; exact leA)
  clear hp O
  have O := O'
  clear O'
  refine (spec_BigIntOk_no b1 A1 n1 c1 l1 f1 _ (Row.below (B := w.heap.size) h1 O (Nat.le_refl _)) hn1 Q1.out).mono ?_
  rintro e w1 ⟨rfl, o1⟩
  replace B_x := Bx.old B_x o1
  replace B_y := Bx.old B_y o1
  replace B_r := Bx.old B_r o1
  replace O := Old.trans O o1
  have zw1 := o1.size
  obtain ⟨q_x_0, q_x_1, f_x_0, f_x_1, q_x⟩ := B_x.all2
  obtain ⟨q_y_0, q_y_1, f_y_0, f_y_1, q_y⟩ := B_y.all2
  obtain ⟨q_r_0, q_r_1, q_r_2, f_r_0, f_r_1, f_r_2, q_r⟩ := B_r.all3
  go_wp2
  refine bodyPost_ret (v := .agg #[.bool false, .slice none 0 0, .slice none 0 0]) (by simp [results, Tryz.results96, go_sem, q_r_0, q_r_1, q_r_2]) rfl ⟨RetR.zero rfl, Below.trans (b := w1) O oldA⟩
set_option maxRecDepth 100000 in
set_option maxHeartbeats 1000000 in
theorem spec_RatMake_no2 (b1 b2 : Bool) (A1 A2 : Option Addr) (c1 x n2 c2 l1 l2 : Nat) (f2 : Nat → Int) (w : World) (h1 : NatS w l1 A1 c1 x) (h2 : Row w l2 A2 n2 c2 f2) (hx : len x ≤ 60) (hb1 : b1 = true → 0 < x) (hn2 : n2 ≤ 1048576) (q2 : ¬ okB b2 n2 f2) :
    Calls Tryz.prog 96 #[.agg #[.bool b1, .slice A1 (len x) c1], .agg #[.bool b2, .slice A2 n2 c2]] w fun e w' => RetR e w' w.heap.size (0, 0) ∧ Old w w' := by
  have Q2 := Lib.hid q2
  have HB1 := Lib.hid hb1
  clear q2 hb1
  have O : Old w (((w.alloc (.cells #[.bool b1, .slice A1 (len x) c1] 24)).alloc (.cells #[.bool b2, .slice A2 n2 c2] 24)).alloc (.cells #[.bool false, .slice none 0 0, .slice none 0 0] 26)) := oldA
  have B_x : Bx (((w.alloc (.cells #[.bool b1, .slice A1 (len x) c1] 24)).alloc (.cells #[.bool b2, .slice A2 n2 c2] 24)).alloc (.cells #[.bool false, .slice none 0 0, .slice none 0 0] 26)) (w.heap.size) #[.bool b1, .slice A1 (len x) c1] := by have h := (Bx.alloc (Bx.alloc (Bx.new w #[.bool b1, .slice A1 (len x) c1] 24) (.cells #[.bool b2, .slice A2 n2 c2] 24)) (.cells #[.bool false, .slice none 0 0, .slice none 0 0] 26)); simpa using h
  have B_y : Bx (((w.alloc (.cells #[.bool b1, .slice A1 (len x) c1] 24)).alloc (.cells #[.bool b2, .slice A2 n2 c2] 24)).alloc (.cells #[.bool false, .slice none 0 0, .slice none 0 0] 26)) (w.heap.size + 1) #[.bool b2, .slice A2 n2 c2] := by have h := (Bx.alloc (Bx.new (w.alloc (.cells #[.bool b1, .slice A1 (len x) c1] 24)) #[.bool b2, .slice A2 n2 c2] 24) (.cells #[.bool false, .slice none 0 0, .slice none 0 0] 26)); simpa using h
  have B_r : Bx (((w.alloc (.cells #[.bool b1, .slice A1 (len x) c1] 24)).alloc (.cells #[.bool b2, .slice A2 n2 c2] 24)).alloc (.cells #[.bool false, .slice none 0 0, .slice none 0 0] 26)) (w.heap.size + 1 + 1) #[.bool false, .slice none 0 0, .slice none 0 0] := by have h := (Bx.new ((w.alloc (.cells #[.bool b1, .slice A1 (len x) c1] 24)).alloc (.cells #[.bool b2, .slice A2 n2 c2] 24)) #[.bool false, .slice none 0 0, .slice none 0 0] 26); simpa using h
  have ne_0_1 : ¬ (w.heap.size = w.heap.size + 1) := by omega
  have ne_0_2 : ¬ (w.heap.size = w.heap.size + 1 + 1) := by omega
  have ne_1_0 : ¬ (w.heap.size + 1 = w.heap.size) := by omega
  have ne_1_2 : ¬ (w.heap.size + 1 = w.heap.size + 1 + 1) := by omega
  have ne_2_0 : ¬ (w.heap.size + 1 + 1 = w.heap.size) := by omega
  have ne_2_1 : ¬ (w.heap.size + 1 + 1 = w.heap.size + 1) := by omega
  have ze : w.heap.size + 3 ≤ (((w.alloc (.cells #[.bool b1, .slice A1 (len x) c1] 24)).alloc (.cells #[.bool b2, .slice A2 n2 c2] 24)).alloc (.cells #[.bool false, .slice none 0 0, .slice none 0 0] 26)).heap.size := (by simp)
  go_enter Tryz.func96, Tryz.ntmps96
  go_wp2_with fail
  refine callsNamed ?_
  intro p1 hp
  have O' : Old w p1 := (by rw [hp]; exact Below.trans (b := (((w.alloc (.cells #[.bool b1, .slice A1 (len x) c1] 24)).alloc (.cells #[.bool b2, .slice A2 n2 c2] 24)).alloc (.cells #[.bool false, .slice none 0 0, .slice none 0 0] 26))) O oldA)
  replace B_x : Bx p1 (w.heap.size) #[.bool b1, .slice A1 (len x) c1] := (bxK B_x hp)
  replace B_y : Bx p1 (w.heap.size + 1) #[.bool b2, .slice A2 n2 c2] := (bxK B_y hp)
  replace B_r : Bx p1 (w.heap.size + 1 + 1) #[.bool false, .slice none 0 0, .slice none 0 0] := (bxK B_r hp)
  have zp1 : (((w.alloc (.cells #[.bool b1, .slice A1 (len x) c1] 24)).alloc (.cells #[.bool b2, .slice A2 n2 c2] 24)).alloc (.cells #[.bool false, .slice none 0 0, .slice none 0 0] 26)).heap.size ≤ p1.heap.size := (by rw [hp]; exact leA)
  clear hp O
  have O := O'
  clear O'
  refine (spec_BigIntOk_yes b1 A1 c1 x l1 _ (Row.below (B := w.heap.size) h1 O (Nat.le_refl _)) hx HB1.out).mono ?_
  rintro e w1 ⟨rfl, o1⟩
  replace B_x := Bx.old B_x o1
  replace B_y := Bx.old B_y o1
  replace B_r := Bx.old B_r o1
  replace O := Old.trans O o1
  have zw1 := o1.size
  obtain ⟨q_x_0, q_x_1, f_x_0, f_x_1, q_x⟩ := B_x.all2
  obtain ⟨q_y_0, q_y_1, f_y_0, f_y_1, q_y⟩ := B_y.all2
  obtain ⟨q_r_0, q_r_1, q_r_2, f_r_0, f_r_1, f_r_2, q_r⟩ := B_r.all3
  go_wp2_with fail
  refine callsNamed ?_
  intro p2 hp
  clear q_x_0 q_x_1 f_x_0 f_x_1 q_x q_y_0 q_y_1 f_y_0 f_y_1 q_y q_r_0 q_r_1 q_r_2 f_r_0 f_r_1 f_r_2 q_r
  have O' : Old w p2 := (by rw [hp]; exact Below.trans (b := w1) O oldA)
  replace B_x : Bx p2 (w.heap.size) #[.bool b1, .slice A1 (len x) c1] := (bxK B_x hp)
  replace B_y : Bx p2 (w.heap.size + 1) #[.bool b2, .slice A2 n2 c2] := (bxK B_y hp)
  replace B_r : Bx p2 (w.heap.size + 1 + 1) #[.bool false, .slice none 0 0, .slice none 0 0] := (bxK B_r hp)
  have zp2 : w1.heap.size ≤ p2.heap.size := (by rw [hp]; exact leA)
  clear hp O
  have O := O'
  clear O'
  refine (spec_BigIntOk_no b2 A2 n2 c2 l2 f2 _ (Row.below (B := w.heap.size) h2 O (Nat.le_refl _)) hn2 Q2.out).mono ?_
  rintro e w2 ⟨rfl, o2⟩
  replace B_x := Bx.old B_x o2
  replace B_y := Bx.old B_y o2
  replace B_r := Bx.old B_r o2
  replace O := Old.trans O o2
  have zw2 := o2.size
  obtain ⟨q_x_0, q_x_1, f_x_0, f_x_1, q_x⟩ := B_x.all2
  obtain ⟨q_y_0, q_y_1, f_y_0, f_y_1, q_y⟩ := B_y.all2
  obtain ⟨q_r_0, q_r_1, q_r_2, f_r_0, f_r_1, f_r_2, q_r⟩ := B_r.all3
  go_wp2
  refine bodyPost_ret (v := .agg #[.bool false, .slice none 0 0, .slice none 0 0]) (by simp [results, Tryz.results96, go_sem, q_r_0, q_r_1, q_r_2]) rfl ⟨RetR.zero rfl, Below.trans (b := w2) O oldA⟩
theorem spec_RatMake (b1 : Bool) (A1 : Option Addr) (n1 c1 l1 : Nat) (f1 : Nat → Int) (b2 : Bool) (A2 : Option Addr) (n2 c2 l2 : Nat) (f2 : Nat → Int) (w : World) (h1 : Row w l1 A1 n1 c1 f1) (h2 : Row w l2 A2 n2 c2 f2) (hn1 : n1 ≤ 1048576) (hn2 : n2 ≤ 1048576) :
    Calls Tryz.prog 96 #[.agg #[.bool b1, .slice A1 n1 c1], .agg #[.bool b2, .slice A2 n2 c2]] w fun e w' => RetR e w' w.heap.size (vRatMake b1 n1 f1 b2 n2 f2) ∧ Old w w' := by
  by_cases q1 : okB b1 n1 f1
  · obtain ⟨x, e1, hx, hb1, v1, s1⟩ := okB_nat q1 h1
    by_cases q2 : okB b2 n2 f2
    · obtain ⟨y, e2, hy, hb2, v2, s2⟩ := okB_nat q2 h2
      have hv1 : natX n1 f1 = x := by have h := congrArg magZ v1; unfold bigX at h; rwa [mag_signed, mag_signed] at h
      have hv2 : natX n2 f2 = y := by have h := congrArg magZ v2; unfold bigX at h; rwa [mag_signed, mag_signed] at h
      rw [vRatMake_yes q1 q2, hv1, hv2, e1, e2]
      exact spec_RatMake_yes b1 b2 A1 A2 c1 c2 x y l1 l2 w s1 s2 hx hy hb1 hb2
    · rw [vRatMake_no2 q2, e1]
      exact spec_RatMake_no2 b1 b2 A1 A2 c1 x n2 c2 l1 l2 f2 w s1 h2 hx hb1 hn2 q2
  · rw [vRatMake_no1 q1]
    exact spec_RatMake_no1 b1 A1 n1 c1 l1 f1 b2 A2 n2 c2 l2 f2 w h1 hn1 q1
/-- The fraction of two ints. -/
noncomputable def vRatOf (a b : Int) : Fr := vRatMake (sgnZ (zBigIntOf a)) (len (magZ (zBigIntOf a))) (digI (magZ (zBigIntOf a))) (sgnZ (zBigIntOf b)) (len (magZ (zBigIntOf b))) (digI (magZ (zBigIntOf b)))
set_option maxRecDepth 100000 in
set_option maxHeartbeats 1000000 in
theorem spec_RatOf (a b : Int) (w : World) (ha : -9223372036854775808 ≤ a ∧ a ≤ 9223372036854775807) (hb : -9223372036854775808 ≤ b ∧ b ≤ 9223372036854775807) :
    Calls Tryz.prog 65 #[.int .i64 a, .int .i64 b] w fun e w' => RetR e w' w.heap.size (vRatOf a b) ∧ Old w w' := by
  unfold vRatOf
  have hl1 := zBigIntOf_len a
  have hl2 := zBigIntOf_len b
  obtain ⟨y, hy⟩ : ∃ y, y = zBigIntOf a := ⟨_, rfl⟩
  obtain ⟨z, hz⟩ : ∃ z, z = zBigIntOf b := ⟨_, rfl⟩
  rw [← hy] at hl1 ⊢
  rw [← hz] at hl2 ⊢
  have HY := Lib.hid hy.symm
  have HZ := Lib.hid hz.symm
  have HA := Lib.hid ha
  have HB := Lib.hid hb
  clear ha hb hy hz
  have O : Old w (w.alloc (.cells #[.bool false, .slice none 0 0, .slice none 0 0] 26)) := oldA
  have B_r : Bx (w.alloc (.cells #[.bool false, .slice none 0 0, .slice none 0 0] 26)) (w.heap.size) #[.bool false, .slice none 0 0, .slice none 0 0] := by have h := (Bx.new w #[.bool false, .slice none 0 0, .slice none 0 0] 26); simpa using h
  have ze : w.heap.size + 1 ≤ (w.alloc (.cells #[.bool false, .slice none 0 0, .slice none 0 0] 26)).heap.size := (by simp)
  go_enter Tryz.func65, Tryz.ntmps65
  go_wp2_with fail
  refine callsNamed ?_
  intro p1 hp
  have O' : Old w p1 := (by rw [hp]; exact Below.trans (b := (w.alloc (.cells #[.bool false, .slice none 0 0, .slice none 0 0] 26))) O oldA)
  replace B_r : Bx p1 (w.heap.size) #[.bool false, .slice none 0 0, .slice none 0 0] := (bxK B_r hp)
  have zp1 : (w.alloc (.cells #[.bool false, .slice none 0 0, .slice none 0 0] 26)).heap.size ≤ p1.heap.size := (by rw [hp]; exact leA)
  clear hp O
  have O := O'
  clear O'
  refine (retB_to HY.out (spec_BigIntOf a _ HA.out)).mono ?_
  rintro e w1 ⟨⟨A5, c5, rfl, r5⟩, o1⟩
  replace B_r := Bx.old B_r o1
  replace O := Old.trans O o1
  have zw1 := o1.size
  replace r5 := Row.more (lo' := p1.heap.size) r5 leA
  have lim_r5 := Row.lim r5
  obtain ⟨q_r_0, q_r_1, q_r_2, f_r_0, f_r_1, f_r_2, q_r⟩ := B_r.all3
  go_wp2_with fail
  refine callsNamed ?_
  intro p2 hp
  clear q_r_0 q_r_1 q_r_2 f_r_0 f_r_1 f_r_2 q_r
  have O' : Old w p2 := (by rw [hp]; exact Below.trans (b := w1) O oldA)
  replace B_r : Bx p2 (w.heap.size) #[.bool false, .slice none 0 0, .slice none 0 0] := (bxK B_r hp)
  replace r5 := rowK r5 hp
  have zp2 : w1.heap.size ≤ p2.heap.size := (by rw [hp]; exact leA)
  clear hp O
  have O := O'
  clear O'
  refine (retB_to HZ.out (spec_BigIntOf b _ HB.out)).mono ?_
  rintro e w2 ⟨⟨A6, c6, rfl, r6⟩, o2⟩
  replace B_r := Bx.old B_r o2
  replace r5 := Row.below r5 o2 (Nat.le_refl _)
  replace O := Old.trans O o2
  have zw2 := o2.size
  replace r6 := Row.more (lo' := p2.heap.size) r6 leA
  have lim_r6 := Row.lim r6
  obtain ⟨q_r_0, q_r_1, q_r_2, f_r_0, f_r_1, f_r_2, q_r⟩ := B_r.all3
  go_wp2_with fail
  refine callsNamed ?_
  intro p3 hp
  clear q_r_0 q_r_1 q_r_2 f_r_0 f_r_1 f_r_2 q_r
  have O' : Old w p3 := (by rw [hp]; exact Below.trans (b := w2) O oldA)
  replace B_r : Bx p3 (w.heap.size) #[.bool false, .slice none 0 0, .slice none 0 0] := (bxK B_r hp)
  replace r5 := rowK r5 hp
  replace r6 := rowK r6 hp
  have zp3 : w2.heap.size ≤ p3.heap.size := (by rw [hp]; exact leA)
  clear hp O
  have O := O'
  clear O'
  refine (spec_RatMake (sgnZ y) A5 (len (magZ y)) c5 _ (digI (magZ y)) (sgnZ z) A6 (len (magZ z)) c6 _ (digI (magZ z)) _ r5 r6 (by omega) (by omega)).mono ?_
  rintro e w3 ⟨⟨z9, d9, A9, c9, D9, e9, hv, rfl, r9, s9, ap⟩, o3⟩
  replace B_r := Bx.old B_r o3
  replace r5 := Row.below r5 o3 (Nat.le_refl _)
  replace r6 := Row.below r6 o3 (Nat.le_refl _)
  replace O := Old.trans O o3
  have zw3 := o3.size
  replace r9 := Row.more (lo' := p3.heap.size) r9 leA
  replace s9 := Row.more (lo' := p3.heap.size) s9 leA
  have lim_r9 := Row.lim r9
  have lim_s9 := Row.lim s9
  have HV := Lib.hid hv
  have AP := Lib.hid ap
  clear hv ap
  obtain ⟨q_r_0, q_r_1, q_r_2, f_r_0, f_r_1, f_r_2, q_r⟩ := B_r.all3
  go_wp2
  refine bodyPost_ret (v := .agg #[.bool (sgnZ z9), .slice A9 (len (magZ z9)) c9, .slice D9 (len d9) e9]) (by simp [results, Tryz.results65, go_sem, q_r_0, q_r_1, q_r_2]) rfl ⟨⟨z9, d9, A9, c9, D9, e9, HV.out, rfl, ?_, ?_, AP.out⟩, ?_⟩
  · refine Row.more (lo := p3.heap.size) ?_ leA
    repeat' (first | (with_reducible exact r9) | (with_reducible refine Row.far_set ?_ (by first | (simp <;> done) | (simp; omega) | omega) _))
  · refine Row.more (lo := p3.heap.size) ?_ leA
    repeat' (first | (with_reducible exact s9) | (with_reducible refine Row.far_set ?_ (by first | (simp <;> done) | (simp; omega) | omega) _))
  · exact Below.trans (b := w3) O oldA
end Go.Proofs.YtgchbbjhdeobpaaGreatDoor

namespace Go.Proofs.YtgchbbjhdeobpaaGreatDoor
set_option linter.unusedVariables false
open Go.RowKit Num
def few : List Fr := (List.range 21).flatMap fun (x : Nat) => [mkF ((x : Int) - 10) 1, mkF ((x : Int) - 10) 2, mkF ((x : Int) - 10) 3]
def lawR (r s : Fr) : Bool :=
  decide (0 < r.2) && decide (0 < s.2) && decide (subF (addF r s) s = r) && decide (cmpF r s = sgnF (subF r s)) && decide (addF (minF r s) (maxF r s) = addF r s) && (decide (sgnF s = 0) || decide (mulF (divF r s) s = r))
theorem few_all : (few.all fun r => few.all fun s => lawR r s) = true := by decide +kernel
theorem few_mem {x m : Nat} (hx : x < 21) (hm : m = 1 ∨ m = 2 ∨ m = 3) : mkF ((x : Int) - 10) m ∈ few := by
  unfold few
  refine List.mem_flatMap.2 ⟨x, List.mem_range.2 hx, ?_⟩
  rcases hm with rfl | rfl | rfl <;> simp
theorem few_law {r s : Fr} (hr : r ∈ few) (hs : s ∈ few) : 0 < r.2 ∧ 0 < s.2 ∧ subF (addF r s) s = r ∧ cmpF r s = sgnF (subF r s) ∧ addF (minF r s) (maxF r s) = addF r s ∧ (sgnF s = 0 ∨ mulF (divF r s) s = r) := by
  have h := List.all_eq_true.1 (List.all_eq_true.1 few_all r hr) s hs
  simp only [lawR, Bool.and_eq_true, Bool.or_eq_true, decide_eq_true_eq] at h
  obtain ⟨⟨⟨⟨⟨h1, h2⟩, h3⟩, h4⟩, h5⟩, h6⟩ := h
  exact ⟨h1, h2, h3, h4, h5, h6⟩
end Go.Proofs.YtgchbbjhdeobpaaGreatDoor

namespace Go.Proofs.YtgchbbjhdeobpaaGreatDoor
set_option linter.unusedVariables false
open Go.RowKit Num
theorem oldB {B : Nat} {a w : World} (h : Below B a w := by repeat' (first | (with_reducible exact Below.refl _ _) | (with_reducible assumption) | (with_reducible refine below_drewN ?_ _) | (with_reducible refine Below.drew ?_) | (with_reducible refine Below.alloc ?_ (by first | omega | (simp <;> omega)) _) | (with_reducible refine Below.setCell ?_ (by first | (simp <;> omega) | (simp <;> done) | omega) _))) : Below B a w := h
end Go.Proofs.YtgchbbjhdeobpaaGreatDoor

namespace Go.Proofs.YtgchbbjhdeobpaaGreatDoor
set_option linter.unusedVariables false
open Go.RowKit Num
attribute [local go_sem ↓] Go.wp_at_zero Go.wp_at_succ
def eqL (n : Nat) (f : Nat → Int) (m : Nat) (g : Nat → Int) : Prop := n = m ∧ ∀ j, j < n → f j = g j
open Classical in
noncomputable def rEqL (n : Nat) (f : Nat → Int) (m : Nat) (g : Nat → Int) : Bool := decide (eqL n f m g)
theorem rEqL_yes {n m : Nat} {f g : Nat → Int} (h : eqL n f m g) : rEqL n f m g = true := by simp [rEqL, h]
theorem ret_bool {e : Ending} {b b' : Bool} {P : Prop} (h : b = b') (k : e = .returned (.bool b') ∧ P) : e = .returned (.bool b) ∧ P := h ▸ k
theorem rEqL_no {n m : Nat} {f g : Nat → Int} (h : ¬ eqL n f m g) : rEqL n f m g = false := by simp [rEqL, h]
set_option maxRecDepth 100000 in
set_option maxHeartbeats 1000000 in
theorem slEqual_any (A1 A2 : Option Addr) (n c1 m c2 : Nat) (f g : Nat → Int) (lo1 lo2 : Nat) (w : World) (h1 : Row w lo1 A1 n c1 f) (h2 : Row w lo2 A2 m c2 g) (hn : n ≤ 1048576) (hm : m ≤ 1048576) :
    Calls Tryz.prog 38 #[.slice A1 n c1, .slice A2 m c2] w fun e w' => e = .returned (.bool (rEqL n f m g)) ∧ Old w w' := by
  by_cases hnm : n = m
  · subst hnm
    go_enter Tryz.func38, Tryz.ntmps38
    go_wp2
    go_loopw [13] (fun i wr => ∃ (k q : Nat), k ≤ n ∧ i = .int .i64 (k : Int) ∧ wr = w.drewN q ∧ Hid (∀ j, j < k → f j = g j)) (fun i _ => n - (intOf i).toNat)
    case atStart => exact ⟨0, 0, Nat.zero_le _, rfl, rfl, Lib.hid fun j h => absurd h (Nat.not_lt_zero j)⟩
    case round =>
      obtain ⟨k, q, hk, rfl, rfl, He⟩ := hrel
      by_cases hlt : k < n
      · obtain ⟨b1, o1, rfl, _, _, _, hc1⟩ := h1.2 (by omega)
        obtain ⟨b2, o2, rfl, _, _, _, hc2⟩ := h2.2 (by omega)
        have hx1 := hc1 k hlt
        have hx2 := hc2 k hlt
        by_cases hfg : f k = g k
        · rw [← hfg] at hx2
          have He2 : Hid (∀ j, j < k + 1 → f j = g j) := Lib.hid fun j hj => by
            rcases Nat.lt_or_ge j k with h | h
            · exact He.out j h
            · obtain rfl : j = k := by omega
              exact hfg
          clear hc1 hc2 hfg
          go_wp2
          go_quiet (fail)
          go_wp2
          go_roundw
          case rel => exact ⟨k + 1, _, by omega, by go_num, rfl, He2⟩
          case measure => simp [intOf]; omega
        · have Hr : Hid (rEqL n f n g = false) := Lib.hid (rEqL_no fun h => hfg (h.2 k hlt))
          have hne : (f k == g k) = false := by simpa using hfg
          have hne' : (f k != g k) = true := by simpa using hfg
          clear hc1 hc2 hfg
          go_wp2
          go_quiet (fail)
          go_wp2
          go_ret
          exact ret_bool Hr.out ⟨rfl, oldA⟩
      · obtain rfl : k = n := by omega
        have Hr : Hid (rEqL k f k g = true) := Lib.hid (rEqL_yes ⟨rfl, He.out⟩)
        go_wp2
        go_ret
        exact ret_bool Hr.out ⟨rfl, oldA⟩
  · have Hr : Hid (rEqL n f m g = false) := Lib.hid (rEqL_no fun h => hnm h.1)
    have hx : ((n : Int) == (m : Int)) = false := by simp; omega
    have hx' : ((n : Int) != (m : Int)) = true := by simp; omega
    rw [Hr.out]
    clear hnm
    go_enter Tryz.func38, Tryz.ntmps38
    go_wp2
    go_ret
    exact ⟨rfl, oldA⟩
noncomputable def rRatEqual (b1 : Bool) (n1 : Nat) (f1 : Nat → Int) (m1 : Nat) (g1 : Nat → Int) (b2 : Bool) (n2 : Nat) (f2 : Nat → Int) (m2 : Nat) (g2 : Nat → Int) : Bool := (b1 == b2) && (rEqL n1 f1 n2 f2 && rEqL m1 g1 m2 g2)
set_option maxRecDepth 100000 in
set_option maxHeartbeats 1000000 in
theorem impl_RatEqual (b1 : Bool) (A1 : Option Addr) (n1 c1 l1 : Nat) (f1 : Nat → Int) (D1 : Option Addr) (m1 e1 u1 : Nat) (g1 : Nat → Int) (b2 : Bool) (A2 : Option Addr) (n2 c2 l2 : Nat) (f2 : Nat → Int) (D2 : Option Addr) (m2 e2 u2 : Nat) (g2 : Nat → Int) (w : World) (h1 : Row w l1 A1 n1 c1 f1) (k1 : Row w u1 D1 m1 e1 g1) (h2 : Row w l2 A2 n2 c2 f2) (k2 : Row w u2 D2 m2 e2 g2) (hn1 : n1 ≤ 1048576) (hm1 : m1 ≤ 1048576) (hn2 : n2 ≤ 1048576) (hm2 : m2 ≤ 1048576) :
    Calls Tryz.prog 12 #[.agg #[.bool b1, .slice A1 n1 c1, .slice D1 m1 e1], .agg #[.bool b2, .slice A2 n2 c2, .slice D2 m2 e2]] w fun e w' => e = .returned (.bool (rRatEqual b1 n1 f1 m1 g1 b2 n2 f2 m2 g2)) ∧ Old w w' := by
  unfold rRatEqual
  by_cases hb : b1 = b2
  case neg =>
    have hb' : (b1 == b2) = false := by simpa using hb
    clear hb
    have O : Old w ((w.alloc (.cells #[.bool b1, .slice A1 n1 c1, .slice D1 m1 e1] 26)).alloc (.cells #[.bool b2, .slice A2 n2 c2, .slice D2 m2 e2] 26)) := oldA
    have B_x : Bx ((w.alloc (.cells #[.bool b1, .slice A1 n1 c1, .slice D1 m1 e1] 26)).alloc (.cells #[.bool b2, .slice A2 n2 c2, .slice D2 m2 e2] 26)) (w.heap.size) #[.bool b1, .slice A1 n1 c1, .slice D1 m1 e1] := by have h := (Bx.alloc (Bx.new w #[.bool b1, .slice A1 n1 c1, .slice D1 m1 e1] 26) (.cells #[.bool b2, .slice A2 n2 c2, .slice D2 m2 e2] 26)); simpa using h
    have B_y : Bx ((w.alloc (.cells #[.bool b1, .slice A1 n1 c1, .slice D1 m1 e1] 26)).alloc (.cells #[.bool b2, .slice A2 n2 c2, .slice D2 m2 e2] 26)) (w.heap.size + 1) #[.bool b2, .slice A2 n2 c2, .slice D2 m2 e2] := by have h := (Bx.new (w.alloc (.cells #[.bool b1, .slice A1 n1 c1, .slice D1 m1 e1] 26)) #[.bool b2, .slice A2 n2 c2, .slice D2 m2 e2] 26); simpa using h
    have ne_0_1 : ¬ (w.heap.size = w.heap.size + 1) := by omega
    have ne_1_0 : ¬ (w.heap.size + 1 = w.heap.size) := by omega
    have ze : w.heap.size + 2 ≤ ((w.alloc (.cells #[.bool b1, .slice A1 n1 c1, .slice D1 m1 e1] 26)).alloc (.cells #[.bool b2, .slice A2 n2 c2, .slice D2 m2 e2] 26)).heap.size := (by simp)
    go_enter Tryz.func12, Tryz.ntmps12
    go_wp2
    go_ret
    exact ret_bool (by rw [hb']; rfl) ⟨rfl, oldA⟩
  subst hb
  have hb' : (b1 == b1) = true := by simp
  by_cases hl : eqL n1 f1 n2 f2
  case neg =>
    have Hl := Lib.hid (rEqL_no hl)
    clear hl
    have O : Old w ((w.alloc (.cells #[.bool b1, .slice A1 n1 c1, .slice D1 m1 e1] 26)).alloc (.cells #[.bool b1, .slice A2 n2 c2, .slice D2 m2 e2] 26)) := oldA
    have B_x : Bx ((w.alloc (.cells #[.bool b1, .slice A1 n1 c1, .slice D1 m1 e1] 26)).alloc (.cells #[.bool b1, .slice A2 n2 c2, .slice D2 m2 e2] 26)) (w.heap.size) #[.bool b1, .slice A1 n1 c1, .slice D1 m1 e1] := by have h := (Bx.alloc (Bx.new w #[.bool b1, .slice A1 n1 c1, .slice D1 m1 e1] 26) (.cells #[.bool b1, .slice A2 n2 c2, .slice D2 m2 e2] 26)); simpa using h
    have B_y : Bx ((w.alloc (.cells #[.bool b1, .slice A1 n1 c1, .slice D1 m1 e1] 26)).alloc (.cells #[.bool b1, .slice A2 n2 c2, .slice D2 m2 e2] 26)) (w.heap.size + 1) #[.bool b1, .slice A2 n2 c2, .slice D2 m2 e2] := by have h := (Bx.new (w.alloc (.cells #[.bool b1, .slice A1 n1 c1, .slice D1 m1 e1] 26)) #[.bool b1, .slice A2 n2 c2, .slice D2 m2 e2] 26); simpa using h
    have ne_0_1 : ¬ (w.heap.size = w.heap.size + 1) := by omega
    have ne_1_0 : ¬ (w.heap.size + 1 = w.heap.size) := by omega
    have ze : w.heap.size + 2 ≤ ((w.alloc (.cells #[.bool b1, .slice A1 n1 c1, .slice D1 m1 e1] 26)).alloc (.cells #[.bool b1, .slice A2 n2 c2, .slice D2 m2 e2] 26)).heap.size := (by simp)
    go_enter Tryz.func12, Tryz.ntmps12
    go_wp2_with fail
    refine callsNamed ?_
    intro p1 hp
    have O' : Old w p1 := (by rw [hp]; exact Below.trans (b := ((w.alloc (.cells #[.bool b1, .slice A1 n1 c1, .slice D1 m1 e1] 26)).alloc (.cells #[.bool b1, .slice A2 n2 c2, .slice D2 m2 e2] 26))) O oldA)
    replace B_x : Bx p1 (w.heap.size) #[.bool b1, .slice A1 n1 c1, .slice D1 m1 e1] := (bxK B_x hp)
    replace B_y : Bx p1 (w.heap.size + 1) #[.bool b1, .slice A2 n2 c2, .slice D2 m2 e2] := (bxK B_y hp)
    have zp1 : ((w.alloc (.cells #[.bool b1, .slice A1 n1 c1, .slice D1 m1 e1] 26)).alloc (.cells #[.bool b1, .slice A2 n2 c2, .slice D2 m2 e2] 26)).heap.size ≤ p1.heap.size := (by rw [hp]; exact leA)
    clear hp O
    have O := O'
    clear O'
    refine (plain_to (by rw [Hl.out]) (slEqual_any A1 A2 n1 c1 n2 c2 f1 f2 l1 l2 _ (Row.below (B := w.heap.size) h1 O (Nat.le_refl _)) (Row.below (B := w.heap.size) h2 O (Nat.le_refl _)) hn1 hn2)).mono ?_
    rintro e w1 ⟨rfl, o1⟩
    replace B_x := Bx.old B_x o1
    replace B_y := Bx.old B_y o1
    replace O := Old.trans O o1
    have zw1 := o1.size
    obtain ⟨q_x_0, q_x_1, q_x_2, f_x_0, f_x_1, f_x_2, q_x⟩ := B_x.all3
    obtain ⟨q_y_0, q_y_1, q_y_2, f_y_0, f_y_1, f_y_2, q_y⟩ := B_y.all3
    go_wp2
    go_ret
    exact ret_bool (by rw [hb', Hl.out]; rfl) ⟨rfl, Below.trans (b := w1) O oldA⟩
  have Hl := Lib.hid (rEqL_yes hl)
  clear hl
  have O : Old w ((w.alloc (.cells #[.bool b1, .slice A1 n1 c1, .slice D1 m1 e1] 26)).alloc (.cells #[.bool b1, .slice A2 n2 c2, .slice D2 m2 e2] 26)) := oldA
  have B_x : Bx ((w.alloc (.cells #[.bool b1, .slice A1 n1 c1, .slice D1 m1 e1] 26)).alloc (.cells #[.bool b1, .slice A2 n2 c2, .slice D2 m2 e2] 26)) (w.heap.size) #[.bool b1, .slice A1 n1 c1, .slice D1 m1 e1] := by have h := (Bx.alloc (Bx.new w #[.bool b1, .slice A1 n1 c1, .slice D1 m1 e1] 26) (.cells #[.bool b1, .slice A2 n2 c2, .slice D2 m2 e2] 26)); simpa using h
  have B_y : Bx ((w.alloc (.cells #[.bool b1, .slice A1 n1 c1, .slice D1 m1 e1] 26)).alloc (.cells #[.bool b1, .slice A2 n2 c2, .slice D2 m2 e2] 26)) (w.heap.size + 1) #[.bool b1, .slice A2 n2 c2, .slice D2 m2 e2] := by have h := (Bx.new (w.alloc (.cells #[.bool b1, .slice A1 n1 c1, .slice D1 m1 e1] 26)) #[.bool b1, .slice A2 n2 c2, .slice D2 m2 e2] 26); simpa using h
  have ne_0_1 : ¬ (w.heap.size = w.heap.size + 1) := by omega
  have ne_1_0 : ¬ (w.heap.size + 1 = w.heap.size) := by omega
  have ze : w.heap.size + 2 ≤ ((w.alloc (.cells #[.bool b1, .slice A1 n1 c1, .slice D1 m1 e1] 26)).alloc (.cells #[.bool b1, .slice A2 n2 c2, .slice D2 m2 e2] 26)).heap.size := (by simp)
  go_enter Tryz.func12, Tryz.ntmps12
  go_wp2_with fail
  refine callsNamed ?_
  intro p1 hp
  have O' : Old w p1 := (by rw [hp]; exact Below.trans (b := ((w.alloc (.cells #[.bool b1, .slice A1 n1 c1, .slice D1 m1 e1] 26)).alloc (.cells #[.bool b1, .slice A2 n2 c2, .slice D2 m2 e2] 26))) O oldA)
  replace B_x : Bx p1 (w.heap.size) #[.bool b1, .slice A1 n1 c1, .slice D1 m1 e1] := (bxK B_x hp)
  replace B_y : Bx p1 (w.heap.size + 1) #[.bool b1, .slice A2 n2 c2, .slice D2 m2 e2] := (bxK B_y hp)
  have zp1 : ((w.alloc (.cells #[.bool b1, .slice A1 n1 c1, .slice D1 m1 e1] 26)).alloc (.cells #[.bool b1, .slice A2 n2 c2, .slice D2 m2 e2] 26)).heap.size ≤ p1.heap.size := (by rw [hp]; exact leA)
  clear hp O
  have O := O'
  clear O'
  refine (plain_to (by rw [Hl.out]) (slEqual_any A1 A2 n1 c1 n2 c2 f1 f2 l1 l2 _ (Row.below (B := w.heap.size) h1 O (Nat.le_refl _)) (Row.below (B := w.heap.size) h2 O (Nat.le_refl _)) hn1 hn2)).mono ?_
  rintro e w1 ⟨rfl, o1⟩
  replace B_x := Bx.old B_x o1
  replace B_y := Bx.old B_y o1
  replace O := Old.trans O o1
  have zw1 := o1.size
  obtain ⟨q_x_0, q_x_1, q_x_2, f_x_0, f_x_1, f_x_2, q_x⟩ := B_x.all3
  obtain ⟨q_y_0, q_y_1, q_y_2, f_y_0, f_y_1, f_y_2, q_y⟩ := B_y.all3
  go_wp2_with fail
  refine callsNamed ?_
  intro p2 hp
  clear q_x_0 q_x_1 q_x_2 f_x_0 f_x_1 f_x_2 q_x q_y_0 q_y_1 q_y_2 f_y_0 f_y_1 f_y_2 q_y
  have O' : Old w p2 := (by rw [hp]; exact Below.trans (b := w1) O oldA)
  replace B_x : Bx p2 (w.heap.size) #[.bool b1, .slice A1 n1 c1, .slice D1 m1 e1] := (bxK B_x hp)
  replace B_y : Bx p2 (w.heap.size + 1) #[.bool b1, .slice A2 n2 c2, .slice D2 m2 e2] := (bxK B_y hp)
  have zp2 : w1.heap.size ≤ p2.heap.size := (by rw [hp]; exact leA)
  clear hp O
  have O := O'
  clear O'
  refine (slEqual_any D1 D2 m1 e1 m2 e2 g1 g2 u1 u2 _ (Row.below (B := w.heap.size) k1 O (Nat.le_refl _)) (Row.below (B := w.heap.size) k2 O (Nat.le_refl _)) hm1 hm2).mono ?_
  rintro e w2 ⟨rfl, o2⟩
  replace B_x := Bx.old B_x o2
  replace B_y := Bx.old B_y o2
  replace O := Old.trans O o2
  have zw2 := o2.size
  obtain ⟨q_x_0, q_x_1, q_x_2, f_x_0, f_x_1, f_x_2, q_x⟩ := B_x.all3
  obtain ⟨q_y_0, q_y_1, q_y_2, f_y_0, f_y_1, f_y_2, q_y⟩ := B_y.all3
  go_wp2
  go_ret
  exact ret_bool (by rw [hb', Hl.out]; rfl) ⟨rfl, Below.trans (b := w2) O oldA⟩
end Go.Proofs.YtgchbbjhdeobpaaGreatDoor

namespace Go.Proofs.YtgchbbjhdeobpaaGreatDoor
set_option linter.unusedVariables false
open Go.RowKit Num
attribute [local go_sem ↓] Go.wp_at_zero Go.wp_at_succ
theorem sgn_mul_pos {z : Int} {d : Nat} (h : 0 < d) : sgnZ (z * (d : Int)) = sgnZ z := by
  rw [← signed_mul_nat, sgn_signed]
  by_cases hs : sgnZ z = true
  · rw [hs, decide_eq_true (Nat.mul_pos (sgn_pos hs) h)]; rfl
  · rw [show sgnZ z = false by simpa using hs]; rfl
theorem div_val {z1 z2 M : Int} {d1 d2 : Nat} (h : 0 < d2) (hM : M = z1 * (d2 : Int)) : divF (z1, d1) (z2, d2) = mkF (signed (sgnZ M != sgnZ z2) (magZ M)) (d1 * magZ z2) := by
  subst hM
  rw [sgn_mul_pos h, mul_mag]; rfl
theorem zero_len_beq {x : Nat} (h : x = 0) : (((len x : Nat) : Int) == 0) = true := by rw [h, len_zero]; rfl
theorem mul_len2 {z : Int} {d : Nat} (h1 : len (magZ z) ≤ 24) (h2 : len d ≤ 24) : len (magZ (z * (d : Int))) ≤ 48 := by rw [mul_mag]; exact mul_fit h1 h2
end Go.Proofs.YtgchbbjhdeobpaaGreatDoor

namespace Go.Proofs.YtgchbbjhdeobpaaGreatDoor
set_option linter.unusedVariables false
open Go.RowKit Num
attribute [local go_sem ↓] Go.wp_at_zero Go.wp_at_succ
end Go.Proofs.YtgchbbjhdeobpaaGreatDoor

namespace Go.Proofs.YtgchbbjhdeobpaaGreatDoor
set_option linter.unusedVariables false
open Go.RowKit Num
attribute [local go_sem ↓] Go.wp_at_zero Go.wp_at_succ
set_option maxRecDepth 100000 in
set_option maxHeartbeats 1000000 in
theorem ratAdd_yes (z1 : Int) (d1 : Nat) (A1 D1 : Option Addr) (c1 e1 l1 m1 : Nat) (z2 : Int) (d2 : Nat) (A2 D2 : Option Addr) (c2 e2 l2 m2 : Nat) (w : World) (h1 : NatS w l1 A1 c1 (magZ z1)) (k1 : NatS w m1 D1 e1 d1) (n1 : normF (z1, d1)) (h2 : NatS w l2 A2 c2 (magZ z2)) (k2 : NatS w m2 D2 e2 d2) (n2 : normF (z2, d2)) (p1 : 0 < d1) (p2 : 0 < d2) :
    Calls Tryz.prog 41 #[.agg #[.bool (sgnZ z1), .slice A1 (len (magZ z1)) c1, .slice D1 (len d1) e1], .agg #[.bool (sgnZ z2), .slice A2 (len (magZ z2)) c2, .slice D2 (len d2) e2]] w fun e w' => RetR e w' w.heap.size (addF (z1, d1) (z2, d2)) ∧ Old w w' := by
  have N1 := Lib.hid n1
  have LN1 := norm_len n1
  have La1 : len (magZ z1) ≤ 24 := LN1.1
  have Lb1 : len d1 ≤ 24 := LN1.2
  clear n1 LN1
  have N2 := Lib.hid n2
  have LN2 := norm_len n2
  have La2 : len (magZ z2) ≤ 24 := LN2.1
  have Lb2 : len d2 ≤ 24 := LN2.2
  clear n2 LN2
  obtain ⟨M1, hM1⟩ : ∃ M, M = z1 * (d2 : Int) := ⟨_, rfl⟩
  obtain ⟨M2, hM2⟩ : ∃ M, M = z2 * (d1 : Int) := ⟨_, rfl⟩
  have HM1 := Lib.hid hM1.symm
  have HM2 := Lib.hid hM2.symm
  have LM1 : len (magZ M1) ≤ 48 := by rw [hM1]; exact mul_len2 La1 Lb2
  have LM2 : len (magZ M2) ≤ 48 := by rw [hM2]; exact mul_len2 La2 Lb1
  obtain ⟨S, hS⟩ : ∃ S, S = M1 + M2 := ⟨_, rfl⟩
  have HS := Lib.hid hS.symm
  have LS : len (magZ S) ≤ 49 := by rw [hS]; exact add_fit LM1 LM2
  have HC : Hid (addF (z1, d1) (z2, d2) = mkF S (d1 * d2)) := Lib.hid (by rw [hS, hM1, hM2]; rfl)
  have LQ : len (d1 * d2) ≤ 48 := mul_fit Lb1 Lb2
  have PQ : Hid (0 < d1 * d2) := Lib.hid (Nat.mul_pos p1 p2)
  clear hM1 hM2 hS
  have P1 := Lib.hid p1
  have P2 := Lib.hid p2
  clear p1 p2
  have O : Old w (((w.alloc (.cells #[.bool (sgnZ z1), .slice A1 (len (magZ z1)) c1, .slice D1 (len d1) e1] 26)).alloc (.cells #[.bool (sgnZ z2), .slice A2 (len (magZ z2)) c2, .slice D2 (len d2) e2] 26)).alloc (.cells #[.bool false, .slice none 0 0, .slice none 0 0] 26)) := oldA
  have B_x : Bx (((w.alloc (.cells #[.bool (sgnZ z1), .slice A1 (len (magZ z1)) c1, .slice D1 (len d1) e1] 26)).alloc (.cells #[.bool (sgnZ z2), .slice A2 (len (magZ z2)) c2, .slice D2 (len d2) e2] 26)).alloc (.cells #[.bool false, .slice none 0 0, .slice none 0 0] 26)) (w.heap.size) #[.bool (sgnZ z1), .slice A1 (len (magZ z1)) c1, .slice D1 (len d1) e1] := by have h := (Bx.alloc (Bx.alloc (Bx.new w #[.bool (sgnZ z1), .slice A1 (len (magZ z1)) c1, .slice D1 (len d1) e1] 26) (.cells #[.bool (sgnZ z2), .slice A2 (len (magZ z2)) c2, .slice D2 (len d2) e2] 26)) (.cells #[.bool false, .slice none 0 0, .slice none 0 0] 26)); simpa using h
  have B_y : Bx (((w.alloc (.cells #[.bool (sgnZ z1), .slice A1 (len (magZ z1)) c1, .slice D1 (len d1) e1] 26)).alloc (.cells #[.bool (sgnZ z2), .slice A2 (len (magZ z2)) c2, .slice D2 (len d2) e2] 26)).alloc (.cells #[.bool false, .slice none 0 0, .slice none 0 0] 26)) (w.heap.size + 1) #[.bool (sgnZ z2), .slice A2 (len (magZ z2)) c2, .slice D2 (len d2) e2] := by have h := (Bx.alloc (Bx.new (w.alloc (.cells #[.bool (sgnZ z1), .slice A1 (len (magZ z1)) c1, .slice D1 (len d1) e1] 26)) #[.bool (sgnZ z2), .slice A2 (len (magZ z2)) c2, .slice D2 (len d2) e2] 26) (.cells #[.bool false, .slice none 0 0, .slice none 0 0] 26)); simpa using h
  have B_r : Bx (((w.alloc (.cells #[.bool (sgnZ z1), .slice A1 (len (magZ z1)) c1, .slice D1 (len d1) e1] 26)).alloc (.cells #[.bool (sgnZ z2), .slice A2 (len (magZ z2)) c2, .slice D2 (len d2) e2] 26)).alloc (.cells #[.bool false, .slice none 0 0, .slice none 0 0] 26)) (w.heap.size + 1 + 1) #[.bool false, .slice none 0 0, .slice none 0 0] := by have h := (Bx.new ((w.alloc (.cells #[.bool (sgnZ z1), .slice A1 (len (magZ z1)) c1, .slice D1 (len d1) e1] 26)).alloc (.cells #[.bool (sgnZ z2), .slice A2 (len (magZ z2)) c2, .slice D2 (len d2) e2] 26)) #[.bool false, .slice none 0 0, .slice none 0 0] 26); simpa using h
  have ne_0_1 : ¬ (w.heap.size = w.heap.size + 1) := by omega
  have ne_0_2 : ¬ (w.heap.size = w.heap.size + 1 + 1) := by omega
  have ne_1_0 : ¬ (w.heap.size + 1 = w.heap.size) := by omega
  have ne_1_2 : ¬ (w.heap.size + 1 = w.heap.size + 1 + 1) := by omega
  have ne_2_0 : ¬ (w.heap.size + 1 + 1 = w.heap.size) := by omega
  have ne_2_1 : ¬ (w.heap.size + 1 + 1 = w.heap.size + 1) := by omega
  have ze : w.heap.size + 3 ≤ (((w.alloc (.cells #[.bool (sgnZ z1), .slice A1 (len (magZ z1)) c1, .slice D1 (len d1) e1] 26)).alloc (.cells #[.bool (sgnZ z2), .slice A2 (len (magZ z2)) c2, .slice D2 (len d2) e2] 26)).alloc (.cells #[.bool false, .slice none 0 0, .slice none 0 0] 26)).heap.size := (by simp)
  go_enter Tryz.func41, Tryz.ntmps41
  go_wp2_with fail
  refine callsNamed ?_
  intro p1 hp
  have O' : Old w p1 := (by rw [hp]; exact Below.trans (b := (((w.alloc (.cells #[.bool (sgnZ z1), .slice A1 (len (magZ z1)) c1, .slice D1 (len d1) e1] 26)).alloc (.cells #[.bool (sgnZ z2), .slice A2 (len (magZ z2)) c2, .slice D2 (len d2) e2] 26)).alloc (.cells #[.bool false, .slice none 0 0, .slice none 0 0] 26))) O oldA)
  replace B_x : Bx p1 (w.heap.size) #[.bool (sgnZ z1), .slice A1 (len (magZ z1)) c1, .slice D1 (len d1) e1] := (bxK B_x hp)
  replace B_y : Bx p1 (w.heap.size + 1) #[.bool (sgnZ z2), .slice A2 (len (magZ z2)) c2, .slice D2 (len d2) e2] := (bxK B_y hp)
  replace B_r : Bx p1 (w.heap.size + 1 + 1) #[.bool false, .slice none 0 0, .slice none 0 0] := (bxK B_r hp)
  have zp1 : (((w.alloc (.cells #[.bool (sgnZ z1), .slice A1 (len (magZ z1)) c1, .slice D1 (len d1) e1] 26)).alloc (.cells #[.bool (sgnZ z2), .slice A2 (len (magZ z2)) c2, .slice D2 (len d2) e2] 26)).alloc (.cells #[.bool false, .slice none 0 0, .slice none 0 0] 26)).heap.size ≤ p1.heap.size := (by rw [hp]; exact leA)
  clear hp O
  have O := O'
  clear O'
  refine (isGood_yes (sgnZ z1) A1 D1 (len (magZ z1)) c1 d1 e1 _ P1.out).mono ?_
  rintro e w1 ⟨rfl, o1⟩
  replace B_x := Bx.old B_x o1
  replace B_y := Bx.old B_y o1
  replace B_r := Bx.old B_r o1
  replace O := Old.trans O o1
  have zw1 := o1.size
  obtain ⟨q_x_0, q_x_1, q_x_2, f_x_0, f_x_1, f_x_2, q_x⟩ := B_x.all3
  obtain ⟨q_y_0, q_y_1, q_y_2, f_y_0, f_y_1, f_y_2, q_y⟩ := B_y.all3
  obtain ⟨q_r_0, q_r_1, q_r_2, f_r_0, f_r_1, f_r_2, q_r⟩ := B_r.all3
  go_wp2_with fail
  refine callsNamed ?_
  intro p2 hp
  clear q_x_0 q_x_1 q_x_2 f_x_0 f_x_1 f_x_2 q_x q_y_0 q_y_1 q_y_2 f_y_0 f_y_1 f_y_2 q_y q_r_0 q_r_1 q_r_2 f_r_0 f_r_1 f_r_2 q_r
  have O' : Old w p2 := (by rw [hp]; exact Below.trans (b := w1) O oldA)
  replace B_x : Bx p2 (w.heap.size) #[.bool (sgnZ z1), .slice A1 (len (magZ z1)) c1, .slice D1 (len d1) e1] := (bxK B_x hp)
  replace B_y : Bx p2 (w.heap.size + 1) #[.bool (sgnZ z2), .slice A2 (len (magZ z2)) c2, .slice D2 (len d2) e2] := (bxK B_y hp)
  replace B_r : Bx p2 (w.heap.size + 1 + 1) #[.bool false, .slice none 0 0, .slice none 0 0] := (bxK B_r hp)
  have zp2 : w1.heap.size ≤ p2.heap.size := (by rw [hp]; exact leA)
  clear hp O
  have O := O'
  clear O'
  refine (isGood_yes (sgnZ z2) A2 D2 (len (magZ z2)) c2 d2 e2 _ P2.out).mono ?_
  rintro e w2 ⟨rfl, o2⟩
  replace B_x := Bx.old B_x o2
  replace B_y := Bx.old B_y o2
  replace B_r := Bx.old B_r o2
  replace O := Old.trans O o2
  have zw2 := o2.size
  obtain ⟨q_x_0, q_x_1, q_x_2, f_x_0, f_x_1, f_x_2, q_x⟩ := B_x.all3
  obtain ⟨q_y_0, q_y_1, q_y_2, f_y_0, f_y_1, f_y_2, q_y⟩ := B_y.all3
  obtain ⟨q_r_0, q_r_1, q_r_2, f_r_0, f_r_1, f_r_2, q_r⟩ := B_r.all3
  have ne_w2_x : ¬ (w2.heap.size = w.heap.size) := (by omega)
  have ne_w2_y : ¬ (w2.heap.size = w.heap.size + 1) := (by omega)
  have en_w2_x : ¬ (w.heap.size = w2.heap.size) := (by omega)
  have en_w2_y : ¬ (w.heap.size + 1 = w2.heap.size) := (by omega)
  go_upto_region 3 with fail
  go_cut [5] (fun sl wx => ∃ (g : Nat) (A7 : Option Addr) (c7 : Nat), sl = .pointer (some ⟨g, 0, none⟩) ∧ w2.heap.size ≤ g ∧ Bx wx g #[.bool (sgnZ S), .slice A7 (len (magZ S)) c7] ∧ Row wx w2.heap.size A7 (len (magZ S)) c7 (digI (magZ S)) ∧ Old w2 wx)
  case first =>
    have OP : Old w2 w2 := Old.refl _
    go_region_held3 (fun w' => w'.cell? ⟨w.heap.size, 0, none⟩ = some (.bool (sgnZ z1)) ∧ w'.cell? ⟨w.heap.size, 1, none⟩ = some (.slice A1 (len (magZ z1)) c1) ∧ w'.cell? ⟨w.heap.size, 2, none⟩ = some (.slice D1 (len d1) e1) ∧ w'.cell? ⟨w.heap.size + 1, 0, none⟩ = some (.bool (sgnZ z2)) ∧ w'.cell? ⟨w.heap.size + 1, 1, none⟩ = some (.slice A2 (len (magZ z2)) c2) ∧ w'.cell? ⟨w.heap.size + 1, 2, none⟩ = some (.slice D2 (len d2) e2)) (go_keep)
      (first
       | (go_at_call 73; refine callsNamed ?_; intro p3 hp; clear q_x_0 q_x_1 q_x_2 f_x_0 f_x_1 f_x_2 q_x q_y_0 q_y_1 q_y_2 f_y_0 f_y_1 f_y_2 q_y q_r_0 q_r_1 q_r_2 f_r_0 f_r_1 f_r_2 q_r; have O' : Old w p3 := (by rw [hp]; exact Below.trans (b := w2) O oldA); replace B_x : Bx p3 (w.heap.size) #[.bool (sgnZ z1), .slice A1 (len (magZ z1)) c1, .slice D1 (len d1) e1] := (bxK B_x hp); replace B_y : Bx p3 (w.heap.size + 1) #[.bool (sgnZ z2), .slice A2 (len (magZ z2)) c2, .slice D2 (len d2) e2] := (bxK B_y hp); replace B_r : Bx p3 (w.heap.size + 1 + 1) #[.bool false, .slice none 0 0, .slice none 0 0] := (bxK B_r hp); replace OP : Old w2 p3 := (by rw [hp]; exact Below.trans (b := w2) OP oldA); (first | (replace E := bxK E hp) | (have E : Bx p3 w2.heap.size #[.bool false, .slice none 0 0] := (eNew hp); have nE_x : ¬ (w2.heap.size = w.heap.size) := (by omega); have eN_x : ¬ (w.heap.size = w2.heap.size) := (by omega); have nE_y : ¬ (w2.heap.size = w.heap.size + 1) := (by omega); have eN_y : ¬ (w.heap.size + 1 = w2.heap.size) := (by omega); have nE_r : ¬ (w2.heap.size = w.heap.size + 1 + 1) := (by omega); have eN_r : ¬ (w.heap.size + 1 + 1 = w2.heap.size) := (by omega); have ltE := Bx.lt E) | skip); have zp3 : w2.heap.size ≤ p3.heap.size := (by rw [hp]; exact leA); clear hp O; have O := O'; clear O'; (with_reducible refine (retB_to HM1.out (bigMul_nat z1 d2 A1 D2 c1 e2 l1 m2 _ (Row.below (B := w.heap.size) h1 O (Nat.le_refl _)) (Row.below (B := w.heap.size) k2 O (Nat.le_refl _)) La1 Lb2)).mono ?_); rintro e w3 ⟨⟨A5, c5, rfl, r5⟩, o3⟩; replace B_x := Bx.old B_x o3; replace B_y := Bx.old B_y o3; replace B_r := Bx.old B_r o3; replace O := Old.trans O o3; replace OP := Old.trans OP o3; (first | (replace E := Bx.old E o3) | skip); have zw3 := o3.size; replace r5 := Row.more (lo' := p3.heap.size) r5 leA; have lim_r5 := Row.lim r5; obtain ⟨q_x_0, q_x_1, q_x_2, f_x_0, f_x_1, f_x_2, q_x⟩ := B_x.all3; obtain ⟨q_y_0, q_y_1, q_y_2, f_y_0, f_y_1, f_y_2, q_y⟩ := B_y.all3; obtain ⟨q_r_0, q_r_1, q_r_2, f_r_0, f_r_1, f_r_2, q_r⟩ := B_r.all3; have ne_w3_x : ¬ (w3.heap.size = w.heap.size) := (by omega); have ne_w3_y : ¬ (w3.heap.size = w.heap.size + 1) := (by omega); have en_w3_x : ¬ (w.heap.size = w3.heap.size) := (by omega); have en_w3_y : ¬ (w.heap.size + 1 = w3.heap.size) := (by omega); (first | (have qE0 := E.cell 0 rfl; have qE1 := E.cell 1 rfl; have fE0 := E.frozen 0; have fE1 := E.frozen 1; have qE := E.lt) | skip))
       | (go_at_call 73; (first | (clear qE0 qE1 fE0 fE1 qE) | skip); refine callsNamed ?_; intro p4 hp; clear q_x_0 q_x_1 q_x_2 f_x_0 f_x_1 f_x_2 q_x q_y_0 q_y_1 q_y_2 f_y_0 f_y_1 f_y_2 q_y q_r_0 q_r_1 q_r_2 f_r_0 f_r_1 f_r_2 q_r; have O' : Old w p4 := (by rw [hp]; exact Below.trans (b := w3) O oldA); replace B_x : Bx p4 (w.heap.size) #[.bool (sgnZ z1), .slice A1 (len (magZ z1)) c1, .slice D1 (len d1) e1] := (bxK B_x hp); replace B_y : Bx p4 (w.heap.size + 1) #[.bool (sgnZ z2), .slice A2 (len (magZ z2)) c2, .slice D2 (len d2) e2] := (bxK B_y hp); replace B_r : Bx p4 (w.heap.size + 1 + 1) #[.bool false, .slice none 0 0, .slice none 0 0] := (bxK B_r hp); replace r5 := rowK r5 hp; replace OP : Old w2 p4 := (by rw [hp]; exact Below.trans (b := w3) OP oldA); (first | (replace E := bxK E hp) | (have E : Bx p4 w3.heap.size #[.bool false, .slice none 0 0] := (eNew hp); have nE_x : ¬ (w3.heap.size = w.heap.size) := (by omega); have eN_x : ¬ (w.heap.size = w3.heap.size) := (by omega); have nE_y : ¬ (w3.heap.size = w.heap.size + 1) := (by omega); have eN_y : ¬ (w.heap.size + 1 = w3.heap.size) := (by omega); have nE_r : ¬ (w3.heap.size = w.heap.size + 1 + 1) := (by omega); have eN_r : ¬ (w.heap.size + 1 + 1 = w3.heap.size) := (by omega); have ltE := Bx.lt E) | skip); have zp4 : w3.heap.size ≤ p4.heap.size := (by rw [hp]; exact leA); clear hp O; have O := O'; clear O'; (with_reducible refine (retB_to HM2.out (bigMul_nat z2 d1 A2 D1 c2 e1 l2 m1 _ (Row.below (B := w.heap.size) h2 O (Nat.le_refl _)) (Row.below (B := w.heap.size) k1 O (Nat.le_refl _)) La2 Lb1)).mono ?_); rintro e w4 ⟨⟨A6, c6, rfl, r6⟩, o4⟩; replace B_x := Bx.old B_x o4; replace B_y := Bx.old B_y o4; replace B_r := Bx.old B_r o4; replace r5 := Row.below r5 o4 (Nat.le_refl _); replace O := Old.trans O o4; replace OP := Old.trans OP o4; (first | (replace E := Bx.old E o4) | skip); have zw4 := o4.size; replace r6 := Row.more (lo' := p4.heap.size) r6 leA; have lim_r6 := Row.lim r6; obtain ⟨q_x_0, q_x_1, q_x_2, f_x_0, f_x_1, f_x_2, q_x⟩ := B_x.all3; obtain ⟨q_y_0, q_y_1, q_y_2, f_y_0, f_y_1, f_y_2, q_y⟩ := B_y.all3; obtain ⟨q_r_0, q_r_1, q_r_2, f_r_0, f_r_1, f_r_2, q_r⟩ := B_r.all3; have ne_w4_x : ¬ (w4.heap.size = w.heap.size) := (by omega); have ne_w4_y : ¬ (w4.heap.size = w.heap.size + 1) := (by omega); have en_w4_x : ¬ (w.heap.size = w4.heap.size) := (by omega); have en_w4_y : ¬ (w.heap.size + 1 = w4.heap.size) := (by omega); (first | (have qE0 := E.cell 0 rfl; have qE1 := E.cell 1 rfl; have fE0 := E.frozen 0; have fE1 := E.frozen 1; have qE := E.lt) | skip))
       | (go_at_call 72; (first | (clear qE0 qE1 fE0 fE1 qE) | skip); refine callsNamed ?_; intro p5 hp; clear q_x_0 q_x_1 q_x_2 f_x_0 f_x_1 f_x_2 q_x q_y_0 q_y_1 q_y_2 f_y_0 f_y_1 f_y_2 q_y q_r_0 q_r_1 q_r_2 f_r_0 f_r_1 f_r_2 q_r; have O' : Old w p5 := (by rw [hp]; exact Below.trans (b := w4) O oldA); replace B_x : Bx p5 (w.heap.size) #[.bool (sgnZ z1), .slice A1 (len (magZ z1)) c1, .slice D1 (len d1) e1] := (bxK B_x hp); replace B_y : Bx p5 (w.heap.size + 1) #[.bool (sgnZ z2), .slice A2 (len (magZ z2)) c2, .slice D2 (len d2) e2] := (bxK B_y hp); replace B_r : Bx p5 (w.heap.size + 1 + 1) #[.bool false, .slice none 0 0, .slice none 0 0] := (bxK B_r hp); replace r5 := rowK r5 hp; replace r6 := rowK r6 hp; replace OP : Old w2 p5 := (by rw [hp]; exact Below.trans (b := w4) OP oldA); (first | (replace E := bxK E hp) | (have E : Bx p5 w4.heap.size #[.bool false, .slice none 0 0] := (eNew hp); have nE_x : ¬ (w4.heap.size = w.heap.size) := (by omega); have eN_x : ¬ (w.heap.size = w4.heap.size) := (by omega); have nE_y : ¬ (w4.heap.size = w.heap.size + 1) := (by omega); have eN_y : ¬ (w.heap.size + 1 = w4.heap.size) := (by omega); have nE_r : ¬ (w4.heap.size = w.heap.size + 1 + 1) := (by omega); have eN_r : ¬ (w.heap.size + 1 + 1 = w4.heap.size) := (by omega); have ltE := Bx.lt E) | skip); have zp5 : w4.heap.size ≤ p5.heap.size := (by rw [hp]; exact leA); clear hp O; have O := O'; clear O'; refine (retB_to HS.out (bigAdd_fit M1 M2 A5 A6 c5 c6 _ _ _ r5 r6 LM1 LM2)).mono ?_; rintro e w5 ⟨⟨A7, c7, rfl, r7⟩, o5⟩; replace B_x := Bx.old B_x o5; replace B_y := Bx.old B_y o5; replace B_r := Bx.old B_r o5; replace r5 := Row.below r5 o5 (Nat.le_refl _); replace r6 := Row.below r6 o5 (Nat.le_refl _); replace O := Old.trans O o5; replace OP := Old.trans OP o5; (first | (replace E := Bx.old E o5) | skip); have zw5 := o5.size; replace r7 := Row.more (lo' := p5.heap.size) r7 leA; have lim_r7 := Row.lim r7; obtain ⟨q_x_0, q_x_1, q_x_2, f_x_0, f_x_1, f_x_2, q_x⟩ := B_x.all3; obtain ⟨q_y_0, q_y_1, q_y_2, f_y_0, f_y_1, f_y_2, q_y⟩ := B_y.all3; obtain ⟨q_r_0, q_r_1, q_r_2, f_r_0, f_r_1, f_r_2, q_r⟩ := B_r.all3; have ne_w5_x : ¬ (w5.heap.size = w.heap.size) := (by omega); have ne_w5_y : ¬ (w5.heap.size = w.heap.size + 1) := (by omega); have en_w5_x : ¬ (w.heap.size = w5.heap.size) := (by omega); have en_w5_y : ¬ (w.heap.size + 1 = w5.heap.size) := (by omega); (first | (have qE0 := E.cell 0 rfl; have qE1 := E.cell 1 rfl; have fE0 := E.frozen 0; have fE1 := E.frozen 1; have qE := E.lt) | skip)))
    all_goals (go_wp2_with fail; go_meet; exact ⟨_, A7, c7, rfl, leA, (by first | exact Bx.new _ _ _ | exact Bx.put2 E _ _ | exact Bx.put2 (Bx.new _ _ _) _ _ | exact Bx.put2 (Bx.drew (Bx.new _ _ _)) _ _), (by refine Row.more (lo := p5.heap.size) ?_ leA; first | exact (Row.far_set (Row.far_set r7 (by first | (simp <;> done) | (simp; omega) | omega) _) (by first | (simp <;> done) | (simp; omega) | omega) _) | exact Row.below (B := w5.heap.size) r7 oldA (Nat.le_refl _)), Below.trans (b := w5) OP oldA⟩)
  case rest =>
  obtain ⟨g_n, A7, c7, rfl, hg_n, B_n, r7, o6⟩ := hcut
  obtain ⟨w6, hw⟩ : ∃ x, x = wc := ⟨_, rfl⟩
  subst hw
  clear q_x_0 q_x_1 q_x_2 f_x_0 f_x_1 f_x_2 q_x q_y_0 q_y_1 q_y_2 f_y_0 f_y_1 f_y_2 q_y q_r_0 q_r_1 q_r_2 f_r_0 f_r_1 f_r_2 q_r
  clear ne_w2_x en_w2_x ne_w2_y en_w2_y
  replace B_x := Bx.old B_x o6
  replace B_y := Bx.old B_y o6
  replace B_r := Bx.old B_r o6
  replace O := Old.trans O o6
  have zw6 := o6.size
  have lt_n := B_n.lt
  have ne_n_x : ¬ (g_n = w.heap.size) := by omega
  have en_n_x : ¬ (w.heap.size = g_n) := by omega
  have ne_n_y : ¬ (g_n = w.heap.size + 1) := by omega
  have en_n_y : ¬ (w.heap.size + 1 = g_n) := by omega
  have ne_n_r : ¬ (g_n = w.heap.size + 1 + 1) := by omega
  have en_n_r : ¬ (w.heap.size + 1 + 1 = g_n) := by omega
  have lim_r7 := Row.lim r7
  obtain ⟨q_x_0, q_x_1, q_x_2, f_x_0, f_x_1, f_x_2, q_x⟩ := B_x.all3
  obtain ⟨q_y_0, q_y_1, q_y_2, f_y_0, f_y_1, f_y_2, q_y⟩ := B_y.all3
  obtain ⟨q_r_0, q_r_1, q_r_2, f_r_0, f_r_1, f_r_2, q_r⟩ := B_r.all3
  obtain ⟨q_n_0, q_n_1, f_n_0, f_n_1, q_n⟩ := B_n.all2
  go_wp2_with fail
  go_region_held3 (fun w' => w'.cell? ⟨w.heap.size, 0, none⟩ = some (.bool (sgnZ z1)) ∧ w'.cell? ⟨w.heap.size, 1, none⟩ = some (.slice A1 (len (magZ z1)) c1) ∧ w'.cell? ⟨w.heap.size, 2, none⟩ = some (.slice D1 (len d1) e1) ∧ w'.cell? ⟨w.heap.size + 1, 0, none⟩ = some (.bool (sgnZ z2)) ∧ w'.cell? ⟨w.heap.size + 1, 1, none⟩ = some (.slice A2 (len (magZ z2)) c2) ∧ w'.cell? ⟨w.heap.size + 1, 2, none⟩ = some (.slice D2 (len d2) e2) ∧ w'.cell? ⟨g_n, 0, none⟩ = some (.bool (sgnZ S)) ∧ w'.cell? ⟨g_n, 1, none⟩ = some (.slice A7 (len (magZ S)) c7)) (go_keep)
    (first
     | (go_at_call 75; refine callsNamed ?_; intro p7 hp; clear q_x_0 q_x_1 q_x_2 f_x_0 f_x_1 f_x_2 q_x q_y_0 q_y_1 q_y_2 f_y_0 f_y_1 f_y_2 q_y q_r_0 q_r_1 q_r_2 f_r_0 f_r_1 f_r_2 q_r q_n_0 q_n_1 f_n_0 f_n_1 q_n; have O' : Old w p7 := (by rw [hp]; exact Below.trans (b := w6) O oldA); replace B_x : Bx p7 (w.heap.size) #[.bool (sgnZ z1), .slice A1 (len (magZ z1)) c1, .slice D1 (len d1) e1] := (bxK B_x hp); replace B_y : Bx p7 (w.heap.size + 1) #[.bool (sgnZ z2), .slice A2 (len (magZ z2)) c2, .slice D2 (len d2) e2] := (bxK B_y hp); replace B_r : Bx p7 (w.heap.size + 1 + 1) #[.bool false, .slice none 0 0, .slice none 0 0] := (bxK B_r hp); replace B_n : Bx p7 (g_n) #[.bool (sgnZ S), .slice A7 (len (magZ S)) c7] := (bxK B_n hp); replace r7 := rowK r7 hp; have zp7 : w6.heap.size ≤ p7.heap.size := (by rw [hp]; exact leA); clear hp O; have O := O'; clear O'; refine (natMul_any D1 D2 e1 e2 d1 d2 m1 m2 _ (Row.below (B := w.heap.size) k1 O (Nat.le_refl _)) (Row.below (B := w.heap.size) k2 O (Nat.le_refl _)) (by omega) (by omega)).mono ?_; rintro e w7 ⟨A8, c8, rfl, r8, o7⟩; replace B_x := Bx.old B_x o7; replace B_y := Bx.old B_y o7; replace B_r := Bx.old B_r o7; replace B_n := Bx.old B_n o7; replace r7 := Row.below r7 o7 (Nat.le_refl _); replace O := Old.trans O o7; have zw7 := o7.size; replace r8 := Row.more (lo' := p7.heap.size) r8 leA; have lim_r8 := Row.lim r8; obtain ⟨q_x_0, q_x_1, q_x_2, f_x_0, f_x_1, f_x_2, q_x⟩ := B_x.all3; obtain ⟨q_y_0, q_y_1, q_y_2, f_y_0, f_y_1, f_y_2, q_y⟩ := B_y.all3; obtain ⟨q_r_0, q_r_1, q_r_2, f_r_0, f_r_1, f_r_2, q_r⟩ := B_r.all3; obtain ⟨q_n_0, q_n_1, f_n_0, f_n_1, q_n⟩ := B_n.all2)
     | (go_at_call 74; refine callsNamed ?_; intro p8 hp; clear q_x_0 q_x_1 q_x_2 f_x_0 f_x_1 f_x_2 q_x q_y_0 q_y_1 q_y_2 f_y_0 f_y_1 f_y_2 q_y q_r_0 q_r_1 q_r_2 f_r_0 f_r_1 f_r_2 q_r q_n_0 q_n_1 f_n_0 f_n_1 q_n; have O' : Old w p8 := (by rw [hp]; exact Below.trans (b := w7) O oldA); replace B_x : Bx p8 (w.heap.size) #[.bool (sgnZ z1), .slice A1 (len (magZ z1)) c1, .slice D1 (len d1) e1] := (bxK B_x hp); replace B_y : Bx p8 (w.heap.size + 1) #[.bool (sgnZ z2), .slice A2 (len (magZ z2)) c2, .slice D2 (len d2) e2] := (bxK B_y hp); replace B_r : Bx p8 (w.heap.size + 1 + 1) #[.bool false, .slice none 0 0, .slice none 0 0] := (bxK B_r hp); replace B_n : Bx p8 (g_n) #[.bool (sgnZ S), .slice A7 (len (magZ S)) c7] := (bxK B_n hp); replace r7 := rowK r7 hp; replace r8 := rowK r8 hp; have zp8 : w7.heap.size ≤ p8.heap.size := (by rw [hp]; exact leA); clear hp O; have O := O'; clear O'; refine (ratMake_any S (d1 * d2) A7 A8 c7 c8 _ _ _ r7 r8 (by omega) (by omega) PQ.out).mono ?_; rintro e w8 ⟨⟨z9, d9, A9, c9, D9, e9, hv, rfl, r9, s9, ap⟩, o8⟩; replace B_x := Bx.old B_x o8; replace B_y := Bx.old B_y o8; replace B_r := Bx.old B_r o8; replace B_n := Bx.old B_n o8; replace r7 := Row.below r7 o8 (Nat.le_refl _); replace r8 := Row.below r8 o8 (Nat.le_refl _); replace O := Old.trans O o8; have zw8 := o8.size; replace r9 := Row.more (lo' := p8.heap.size) r9 leA; replace s9 := Row.more (lo' := p8.heap.size) s9 leA; have lim_r9 := Row.lim r9; have lim_s9 := Row.lim s9; have HV := Lib.hid hv; have AP := Lib.hid ap; clear hv ap; obtain ⟨q_x_0, q_x_1, q_x_2, f_x_0, f_x_1, f_x_2, q_x⟩ := B_x.all3; obtain ⟨q_y_0, q_y_1, q_y_2, f_y_0, f_y_1, f_y_2, q_y⟩ := B_y.all3; obtain ⟨q_r_0, q_r_1, q_r_2, f_r_0, f_r_1, f_r_2, q_r⟩ := B_r.all3; obtain ⟨q_n_0, q_n_1, f_n_0, f_n_1, q_n⟩ := B_n.all2))
  go_wp2
  refine bodyPost_ret (v := .agg #[.bool (sgnZ z9), .slice A9 (len (magZ z9)) c9, .slice D9 (len d9) e9]) (by simp [results, Tryz.results41, go_sem, q_r_0, q_r_1, q_r_2]) rfl ⟨⟨z9, d9, A9, c9, D9, e9, HC.out.trans HV.out, rfl, ?_, ?_, AP.out⟩, ?_⟩
  · refine Row.more (lo := p8.heap.size) ?_ leA
    repeat' (first | exact r9 | refine Row.far_set ?_ (by first | (simp <;> done) | (simp; omega) | omega) _)
  · refine Row.more (lo := p8.heap.size) ?_ leA
    repeat' (first | exact s9 | refine Row.far_set ?_ (by first | (simp <;> done) | (simp; omega) | omega) _)
  · exact Below.trans (b := w8) O oldA
set_option maxRecDepth 100000 in
set_option maxHeartbeats 1000000 in
theorem ratAdd_no1 (z1 : Int) (d1 : Nat) (A1 D1 : Option Addr) (c1 e1 l1 m1 : Nat) (z2 : Int) (d2 : Nat) (A2 D2 : Option Addr) (c2 e2 l2 m2 : Nat) (w : World) (h1 : NatS w l1 A1 c1 (magZ z1)) (k1 : NatS w m1 D1 e1 d1) (n1 : normF (z1, d1)) (h2 : NatS w l2 A2 c2 (magZ z2)) (k2 : NatS w m2 D2 e2 d2) (n2 : normF (z2, d2)) (p1 : ¬ 0 < d1) :
    Calls Tryz.prog 41 #[.agg #[.bool (sgnZ z1), .slice A1 (len (magZ z1)) c1, .slice D1 (len d1) e1], .agg #[.bool (sgnZ z2), .slice A2 (len (magZ z2)) c2, .slice D2 (len d2) e2]] w fun e w' => RetR e w' w.heap.size (0, 0) ∧ Old w w' := by
  have N1 := Lib.hid n1
  have LN1 := norm_len n1
  have La1 : len (magZ z1) ≤ 24 := LN1.1
  have Lb1 : len d1 ≤ 24 := LN1.2
  clear n1 LN1
  have N2 := Lib.hid n2
  have LN2 := norm_len n2
  have La2 : len (magZ z2) ≤ 24 := LN2.1
  have Lb2 : len d2 ≤ 24 := LN2.2
  clear n2 LN2
  have P1 := Lib.hid p1
  clear p1
  have O : Old w (((w.alloc (.cells #[.bool (sgnZ z1), .slice A1 (len (magZ z1)) c1, .slice D1 (len d1) e1] 26)).alloc (.cells #[.bool (sgnZ z2), .slice A2 (len (magZ z2)) c2, .slice D2 (len d2) e2] 26)).alloc (.cells #[.bool false, .slice none 0 0, .slice none 0 0] 26)) := oldA
  have B_x : Bx (((w.alloc (.cells #[.bool (sgnZ z1), .slice A1 (len (magZ z1)) c1, .slice D1 (len d1) e1] 26)).alloc (.cells #[.bool (sgnZ z2), .slice A2 (len (magZ z2)) c2, .slice D2 (len d2) e2] 26)).alloc (.cells #[.bool false, .slice none 0 0, .slice none 0 0] 26)) (w.heap.size) #[.bool (sgnZ z1), .slice A1 (len (magZ z1)) c1, .slice D1 (len d1) e1] := by have h := (Bx.alloc (Bx.alloc (Bx.new w #[.bool (sgnZ z1), .slice A1 (len (magZ z1)) c1, .slice D1 (len d1) e1] 26) (.cells #[.bool (sgnZ z2), .slice A2 (len (magZ z2)) c2, .slice D2 (len d2) e2] 26)) (.cells #[.bool false, .slice none 0 0, .slice none 0 0] 26)); simpa using h
  have B_y : Bx (((w.alloc (.cells #[.bool (sgnZ z1), .slice A1 (len (magZ z1)) c1, .slice D1 (len d1) e1] 26)).alloc (.cells #[.bool (sgnZ z2), .slice A2 (len (magZ z2)) c2, .slice D2 (len d2) e2] 26)).alloc (.cells #[.bool false, .slice none 0 0, .slice none 0 0] 26)) (w.heap.size + 1) #[.bool (sgnZ z2), .slice A2 (len (magZ z2)) c2, .slice D2 (len d2) e2] := by have h := (Bx.alloc (Bx.new (w.alloc (.cells #[.bool (sgnZ z1), .slice A1 (len (magZ z1)) c1, .slice D1 (len d1) e1] 26)) #[.bool (sgnZ z2), .slice A2 (len (magZ z2)) c2, .slice D2 (len d2) e2] 26) (.cells #[.bool false, .slice none 0 0, .slice none 0 0] 26)); simpa using h
  have B_r : Bx (((w.alloc (.cells #[.bool (sgnZ z1), .slice A1 (len (magZ z1)) c1, .slice D1 (len d1) e1] 26)).alloc (.cells #[.bool (sgnZ z2), .slice A2 (len (magZ z2)) c2, .slice D2 (len d2) e2] 26)).alloc (.cells #[.bool false, .slice none 0 0, .slice none 0 0] 26)) (w.heap.size + 1 + 1) #[.bool false, .slice none 0 0, .slice none 0 0] := by have h := (Bx.new ((w.alloc (.cells #[.bool (sgnZ z1), .slice A1 (len (magZ z1)) c1, .slice D1 (len d1) e1] 26)).alloc (.cells #[.bool (sgnZ z2), .slice A2 (len (magZ z2)) c2, .slice D2 (len d2) e2] 26)) #[.bool false, .slice none 0 0, .slice none 0 0] 26); simpa using h
  have ne_0_1 : ¬ (w.heap.size = w.heap.size + 1) := by omega
  have ne_0_2 : ¬ (w.heap.size = w.heap.size + 1 + 1) := by omega
  have ne_1_0 : ¬ (w.heap.size + 1 = w.heap.size) := by omega
  have ne_1_2 : ¬ (w.heap.size + 1 = w.heap.size + 1 + 1) := by omega
  have ne_2_0 : ¬ (w.heap.size + 1 + 1 = w.heap.size) := by omega
  have ne_2_1 : ¬ (w.heap.size + 1 + 1 = w.heap.size + 1) := by omega
  have ze : w.heap.size + 3 ≤ (((w.alloc (.cells #[.bool (sgnZ z1), .slice A1 (len (magZ z1)) c1, .slice D1 (len d1) e1] 26)).alloc (.cells #[.bool (sgnZ z2), .slice A2 (len (magZ z2)) c2, .slice D2 (len d2) e2] 26)).alloc (.cells #[.bool false, .slice none 0 0, .slice none 0 0] 26)).heap.size := (by simp)
  go_enter Tryz.func41, Tryz.ntmps41
  go_wp2_with fail
  refine callsNamed ?_
  intro p1 hp
  have O' : Old w p1 := (by rw [hp]; exact Below.trans (b := (((w.alloc (.cells #[.bool (sgnZ z1), .slice A1 (len (magZ z1)) c1, .slice D1 (len d1) e1] 26)).alloc (.cells #[.bool (sgnZ z2), .slice A2 (len (magZ z2)) c2, .slice D2 (len d2) e2] 26)).alloc (.cells #[.bool false, .slice none 0 0, .slice none 0 0] 26))) O oldA)
  replace B_x : Bx p1 (w.heap.size) #[.bool (sgnZ z1), .slice A1 (len (magZ z1)) c1, .slice D1 (len d1) e1] := (bxK B_x hp)
  replace B_y : Bx p1 (w.heap.size + 1) #[.bool (sgnZ z2), .slice A2 (len (magZ z2)) c2, .slice D2 (len d2) e2] := (bxK B_y hp)
  replace B_r : Bx p1 (w.heap.size + 1 + 1) #[.bool false, .slice none 0 0, .slice none 0 0] := (bxK B_r hp)
  have zp1 : (((w.alloc (.cells #[.bool (sgnZ z1), .slice A1 (len (magZ z1)) c1, .slice D1 (len d1) e1] 26)).alloc (.cells #[.bool (sgnZ z2), .slice A2 (len (magZ z2)) c2, .slice D2 (len d2) e2] 26)).alloc (.cells #[.bool false, .slice none 0 0, .slice none 0 0] 26)).heap.size ≤ p1.heap.size := (by rw [hp]; exact leA)
  clear hp O
  have O := O'
  clear O'
  refine (isGood_no (sgnZ z1) A1 D1 (len (magZ z1)) c1 d1 e1 _ P1.out).mono ?_
  rintro e w1 ⟨rfl, o1⟩
  replace B_x := Bx.old B_x o1
  replace B_y := Bx.old B_y o1
  replace B_r := Bx.old B_r o1
  replace O := Old.trans O o1
  have zw1 := o1.size
  obtain ⟨q_x_0, q_x_1, q_x_2, f_x_0, f_x_1, f_x_2, q_x⟩ := B_x.all3
  obtain ⟨q_y_0, q_y_1, q_y_2, f_y_0, f_y_1, f_y_2, q_y⟩ := B_y.all3
  obtain ⟨q_r_0, q_r_1, q_r_2, f_r_0, f_r_1, f_r_2, q_r⟩ := B_r.all3
  go_wp2
  refine bodyPost_ret (v := .agg #[.bool false, .slice none 0 0, .slice none 0 0]) (by simp [results, Tryz.results41, go_sem, q_r_0, q_r_1, q_r_2]) rfl ⟨RetR.zero rfl, Below.trans (b := w1) O oldA⟩
set_option maxRecDepth 100000 in
set_option maxHeartbeats 1000000 in
theorem ratAdd_no2 (z1 : Int) (d1 : Nat) (A1 D1 : Option Addr) (c1 e1 l1 m1 : Nat) (z2 : Int) (d2 : Nat) (A2 D2 : Option Addr) (c2 e2 l2 m2 : Nat) (w : World) (h1 : NatS w l1 A1 c1 (magZ z1)) (k1 : NatS w m1 D1 e1 d1) (n1 : normF (z1, d1)) (h2 : NatS w l2 A2 c2 (magZ z2)) (k2 : NatS w m2 D2 e2 d2) (n2 : normF (z2, d2)) (p1 : 0 < d1) (p2 : ¬ 0 < d2) :
    Calls Tryz.prog 41 #[.agg #[.bool (sgnZ z1), .slice A1 (len (magZ z1)) c1, .slice D1 (len d1) e1], .agg #[.bool (sgnZ z2), .slice A2 (len (magZ z2)) c2, .slice D2 (len d2) e2]] w fun e w' => RetR e w' w.heap.size (0, 0) ∧ Old w w' := by
  have N1 := Lib.hid n1
  have LN1 := norm_len n1
  have La1 : len (magZ z1) ≤ 24 := LN1.1
  have Lb1 : len d1 ≤ 24 := LN1.2
  clear n1 LN1
  have N2 := Lib.hid n2
  have LN2 := norm_len n2
  have La2 : len (magZ z2) ≤ 24 := LN2.1
  have Lb2 : len d2 ≤ 24 := LN2.2
  clear n2 LN2
  have P1 := Lib.hid p1
  have P2 := Lib.hid p2
  clear p1 p2
  have O : Old w (((w.alloc (.cells #[.bool (sgnZ z1), .slice A1 (len (magZ z1)) c1, .slice D1 (len d1) e1] 26)).alloc (.cells #[.bool (sgnZ z2), .slice A2 (len (magZ z2)) c2, .slice D2 (len d2) e2] 26)).alloc (.cells #[.bool false, .slice none 0 0, .slice none 0 0] 26)) := oldA
  have B_x : Bx (((w.alloc (.cells #[.bool (sgnZ z1), .slice A1 (len (magZ z1)) c1, .slice D1 (len d1) e1] 26)).alloc (.cells #[.bool (sgnZ z2), .slice A2 (len (magZ z2)) c2, .slice D2 (len d2) e2] 26)).alloc (.cells #[.bool false, .slice none 0 0, .slice none 0 0] 26)) (w.heap.size) #[.bool (sgnZ z1), .slice A1 (len (magZ z1)) c1, .slice D1 (len d1) e1] := by have h := (Bx.alloc (Bx.alloc (Bx.new w #[.bool (sgnZ z1), .slice A1 (len (magZ z1)) c1, .slice D1 (len d1) e1] 26) (.cells #[.bool (sgnZ z2), .slice A2 (len (magZ z2)) c2, .slice D2 (len d2) e2] 26)) (.cells #[.bool false, .slice none 0 0, .slice none 0 0] 26)); simpa using h
  have B_y : Bx (((w.alloc (.cells #[.bool (sgnZ z1), .slice A1 (len (magZ z1)) c1, .slice D1 (len d1) e1] 26)).alloc (.cells #[.bool (sgnZ z2), .slice A2 (len (magZ z2)) c2, .slice D2 (len d2) e2] 26)).alloc (.cells #[.bool false, .slice none 0 0, .slice none 0 0] 26)) (w.heap.size + 1) #[.bool (sgnZ z2), .slice A2 (len (magZ z2)) c2, .slice D2 (len d2) e2] := by have h := (Bx.alloc (Bx.new (w.alloc (.cells #[.bool (sgnZ z1), .slice A1 (len (magZ z1)) c1, .slice D1 (len d1) e1] 26)) #[.bool (sgnZ z2), .slice A2 (len (magZ z2)) c2, .slice D2 (len d2) e2] 26) (.cells #[.bool false, .slice none 0 0, .slice none 0 0] 26)); simpa using h
  have B_r : Bx (((w.alloc (.cells #[.bool (sgnZ z1), .slice A1 (len (magZ z1)) c1, .slice D1 (len d1) e1] 26)).alloc (.cells #[.bool (sgnZ z2), .slice A2 (len (magZ z2)) c2, .slice D2 (len d2) e2] 26)).alloc (.cells #[.bool false, .slice none 0 0, .slice none 0 0] 26)) (w.heap.size + 1 + 1) #[.bool false, .slice none 0 0, .slice none 0 0] := by have h := (Bx.new ((w.alloc (.cells #[.bool (sgnZ z1), .slice A1 (len (magZ z1)) c1, .slice D1 (len d1) e1] 26)).alloc (.cells #[.bool (sgnZ z2), .slice A2 (len (magZ z2)) c2, .slice D2 (len d2) e2] 26)) #[.bool false, .slice none 0 0, .slice none 0 0] 26); simpa using h
  have ne_0_1 : ¬ (w.heap.size = w.heap.size + 1) := by omega
  have ne_0_2 : ¬ (w.heap.size = w.heap.size + 1 + 1) := by omega
  have ne_1_0 : ¬ (w.heap.size + 1 = w.heap.size) := by omega
  have ne_1_2 : ¬ (w.heap.size + 1 = w.heap.size + 1 + 1) := by omega
  have ne_2_0 : ¬ (w.heap.size + 1 + 1 = w.heap.size) := by omega
  have ne_2_1 : ¬ (w.heap.size + 1 + 1 = w.heap.size + 1) := by omega
  have ze : w.heap.size + 3 ≤ (((w.alloc (.cells #[.bool (sgnZ z1), .slice A1 (len (magZ z1)) c1, .slice D1 (len d1) e1] 26)).alloc (.cells #[.bool (sgnZ z2), .slice A2 (len (magZ z2)) c2, .slice D2 (len d2) e2] 26)).alloc (.cells #[.bool false, .slice none 0 0, .slice none 0 0] 26)).heap.size := (by simp)
  go_enter Tryz.func41, Tryz.ntmps41
  go_wp2_with fail
  refine callsNamed ?_
  intro p1 hp
  have O' : Old w p1 := (by rw [hp]; exact Below.trans (b := (((w.alloc (.cells #[.bool (sgnZ z1), .slice A1 (len (magZ z1)) c1, .slice D1 (len d1) e1] 26)).alloc (.cells #[.bool (sgnZ z2), .slice A2 (len (magZ z2)) c2, .slice D2 (len d2) e2] 26)).alloc (.cells #[.bool false, .slice none 0 0, .slice none 0 0] 26))) O oldA)
  replace B_x : Bx p1 (w.heap.size) #[.bool (sgnZ z1), .slice A1 (len (magZ z1)) c1, .slice D1 (len d1) e1] := (bxK B_x hp)
  replace B_y : Bx p1 (w.heap.size + 1) #[.bool (sgnZ z2), .slice A2 (len (magZ z2)) c2, .slice D2 (len d2) e2] := (bxK B_y hp)
  replace B_r : Bx p1 (w.heap.size + 1 + 1) #[.bool false, .slice none 0 0, .slice none 0 0] := (bxK B_r hp)
  have zp1 : (((w.alloc (.cells #[.bool (sgnZ z1), .slice A1 (len (magZ z1)) c1, .slice D1 (len d1) e1] 26)).alloc (.cells #[.bool (sgnZ z2), .slice A2 (len (magZ z2)) c2, .slice D2 (len d2) e2] 26)).alloc (.cells #[.bool false, .slice none 0 0, .slice none 0 0] 26)).heap.size ≤ p1.heap.size := (by rw [hp]; exact leA)
  clear hp O
  have O := O'
  clear O'
  refine (isGood_yes (sgnZ z1) A1 D1 (len (magZ z1)) c1 d1 e1 _ P1.out).mono ?_
  rintro e w1 ⟨rfl, o1⟩
  replace B_x := Bx.old B_x o1
  replace B_y := Bx.old B_y o1
  replace B_r := Bx.old B_r o1
  replace O := Old.trans O o1
  have zw1 := o1.size
  obtain ⟨q_x_0, q_x_1, q_x_2, f_x_0, f_x_1, f_x_2, q_x⟩ := B_x.all3
  obtain ⟨q_y_0, q_y_1, q_y_2, f_y_0, f_y_1, f_y_2, q_y⟩ := B_y.all3
  obtain ⟨q_r_0, q_r_1, q_r_2, f_r_0, f_r_1, f_r_2, q_r⟩ := B_r.all3
  go_wp2_with fail
  refine callsNamed ?_
  intro p2 hp
  clear q_x_0 q_x_1 q_x_2 f_x_0 f_x_1 f_x_2 q_x q_y_0 q_y_1 q_y_2 f_y_0 f_y_1 f_y_2 q_y q_r_0 q_r_1 q_r_2 f_r_0 f_r_1 f_r_2 q_r
  have O' : Old w p2 := (by rw [hp]; exact Below.trans (b := w1) O oldA)
  replace B_x : Bx p2 (w.heap.size) #[.bool (sgnZ z1), .slice A1 (len (magZ z1)) c1, .slice D1 (len d1) e1] := (bxK B_x hp)
  replace B_y : Bx p2 (w.heap.size + 1) #[.bool (sgnZ z2), .slice A2 (len (magZ z2)) c2, .slice D2 (len d2) e2] := (bxK B_y hp)
  replace B_r : Bx p2 (w.heap.size + 1 + 1) #[.bool false, .slice none 0 0, .slice none 0 0] := (bxK B_r hp)
  have zp2 : w1.heap.size ≤ p2.heap.size := (by rw [hp]; exact leA)
  clear hp O
  have O := O'
  clear O'
  refine (isGood_no (sgnZ z2) A2 D2 (len (magZ z2)) c2 d2 e2 _ P2.out).mono ?_
  rintro e w2 ⟨rfl, o2⟩
  replace B_x := Bx.old B_x o2
  replace B_y := Bx.old B_y o2
  replace B_r := Bx.old B_r o2
  replace O := Old.trans O o2
  have zw2 := o2.size
  obtain ⟨q_x_0, q_x_1, q_x_2, f_x_0, f_x_1, f_x_2, q_x⟩ := B_x.all3
  obtain ⟨q_y_0, q_y_1, q_y_2, f_y_0, f_y_1, f_y_2, q_y⟩ := B_y.all3
  obtain ⟨q_r_0, q_r_1, q_r_2, f_r_0, f_r_1, f_r_2, q_r⟩ := B_r.all3
  go_wp2
  refine bodyPost_ret (v := .agg #[.bool false, .slice none 0 0, .slice none 0 0]) (by simp [results, Tryz.results41, go_sem, q_r_0, q_r_1, q_r_2]) rfl ⟨RetR.zero rfl, Below.trans (b := w2) O oldA⟩
theorem ratAdd_any (z1 : Int) (d1 : Nat) (A1 D1 : Option Addr) (c1 e1 l1 m1 : Nat) (z2 : Int) (d2 : Nat) (A2 D2 : Option Addr) (c2 e2 l2 m2 : Nat) (w : World) (h1 : NatS w l1 A1 c1 (magZ z1)) (k1 : NatS w m1 D1 e1 d1) (n1 : normF (z1, d1)) (h2 : NatS w l2 A2 c2 (magZ z2)) (k2 : NatS w m2 D2 e2 d2) (n2 : normF (z2, d2)) :
    Calls Tryz.prog 41 #[.agg #[.bool (sgnZ z1), .slice A1 (len (magZ z1)) c1, .slice D1 (len d1) e1], .agg #[.bool (sgnZ z2), .slice A2 (len (magZ z2)) c2, .slice D2 (len d2) e2]] w fun e w' => RetR e w' w.heap.size (addF (z1, d1) (z2, d2)) ∧ Old w w' := by
  by_cases p1 : 0 < d1
  · by_cases p2 : 0 < d2
    · exact ratAdd_yes z1 d1 A1 D1 c1 e1 l1 m1 z2 d2 A2 D2 c2 e2 l2 m2 w h1 k1 n1 h2 k2 n2 p1 p2
    · rw [addF_no2 (by show d2 = 0; omega)]; exact ratAdd_no2 z1 d1 A1 D1 c1 e1 l1 m1 z2 d2 A2 D2 c2 e2 l2 m2 w h1 k1 n1 h2 k2 n2 p1 p2
  · rw [addF_no1 (by show d1 = 0; omega)]; exact ratAdd_no1 z1 d1 A1 D1 c1 e1 l1 m1 z2 d2 A2 D2 c2 e2 l2 m2 w h1 k1 n1 h2 k2 n2 p1
end Go.Proofs.YtgchbbjhdeobpaaGreatDoor
