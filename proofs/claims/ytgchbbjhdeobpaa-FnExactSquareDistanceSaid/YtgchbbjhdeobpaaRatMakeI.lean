import Derived.Test.YtgchbbjhdeobpaaRatOk
import Derived.Test.YtgchbbjhdeobpaaBigNeg
/-
  The program's ratMake; a fraction in new memory; the negative.
-/
namespace Go.Proofs.Ytgchbbjhdeobpaa
set_option linter.unusedVariables false
open Go.RowKit Num
attribute [local go_sem ↓] Go.wp_at_zero Go.wp_at_succ
theorem neg_sgn (z : Int) : (!sgnZ z && decide (0 < len (magZ z))) = sgnZ (-z) := by
  rw [len_dec]
  unfold sgnZ magZ
  rcases Int.lt_trichotomy z 0 with h | h | h
  · rw [decide_eq_true h, decide_eq_false (show ¬ -z < 0 by omega)]; rfl
  · subst h; rfl
  · rw [decide_eq_false (show ¬ z < 0 by omega), decide_eq_true (show 0 < z.natAbs by omega), decide_eq_true (show -z < 0 by omega)]; rfl
theorem quo_pos {z : Int} {d : Nat} (h : sgnZ z = true) : 0 < magZ z / Nat.gcd (magZ z) d :=
  Nat.div_pos (Nat.le_of_dvd (sgn_pos h) (Nat.gcd_dvd_left _ _)) (Nat.gcd_pos_of_pos_left _ (sgn_pos h))
set_option maxRecDepth 100000 in
set_option maxHeartbeats 1000000 in
theorem ratMake_one_fit (z : Int) (d : Nat) (A1 A2 : Option Addr) (c1 c2 l1 l2 : Nat) (w : World) (h1 : NatS w l1 A1 c1 (magZ z)) (h2 : NatS w l2 A2 c2 d) (hx : len (magZ z) ≤ 100) (hy : len d ≤ 100) (hp : 0 < d) (h1' : d = 1) (hf1 : len (magZ z) ≤ 24) :
    Calls Try.prog 54 #[.agg #[.bool (sgnZ z), .slice A1 (len (magZ z)) c1], .slice A2 (len d) c2] w fun e w' => RetR e w' w.heap.size (mkF z d) ∧ Old w w' := by
  have HD := Lib.hid h1'
  have HPS : Hid (sgnZ z = true → 0 < magZ z) := Lib.hid sgn_pos
  have hf2 : len d ≤ 24 := by rw [HD.out, len_1]; omega
  have t1 : ¬ (24 : Int) < ((len (magZ z) : Nat) : Int) := by omega
  have t2 : ¬ (24 : Int) < ((len d : Nat) : Int) := by omega
  obtain ⟨q, hq⟩ : ∃ q, q = signed (sgnZ z) (magZ z) := ⟨_, rfl⟩
  have Hq : Hid (capZ (signed (sgnZ z) (magZ z)) = q) := Lib.hid (by rw [capZ_fit (by rw [mag_signed]; omega)]; exact hq.symm)
  have Hv : Hid (mkF z d = (q, d)) := Lib.hid (by rw [HD.out, mkF_yes Nat.one_pos (by rw [Nat.gcd_one_right, Nat.div_one]; exact hf1) (by rw [Nat.gcd_one_right, Nat.div_one, len_1]; omega), Nat.gcd_one_right, Nat.div_one, Nat.div_one, hq])
  clear hq
  clear h1' hp
  have O : Old w ((w.alloc (.cells #[.bool (sgnZ z), .slice A1 (len (magZ z)) c1] 30)).alloc (.cells #[.bool false, .slice none 0 0, .slice none 0 0] 32)) := oldA
  have B_x : Bx ((w.alloc (.cells #[.bool (sgnZ z), .slice A1 (len (magZ z)) c1] 30)).alloc (.cells #[.bool false, .slice none 0 0, .slice none 0 0] 32)) (w.heap.size) #[.bool (sgnZ z), .slice A1 (len (magZ z)) c1] := by have h := (Bx.alloc (Bx.new w #[.bool (sgnZ z), .slice A1 (len (magZ z)) c1] 30) (.cells #[.bool false, .slice none 0 0, .slice none 0 0] 32)); simpa using h
  have B_r : Bx ((w.alloc (.cells #[.bool (sgnZ z), .slice A1 (len (magZ z)) c1] 30)).alloc (.cells #[.bool false, .slice none 0 0, .slice none 0 0] 32)) (w.heap.size + 1) #[.bool false, .slice none 0 0, .slice none 0 0] := by have h := (Bx.new (w.alloc (.cells #[.bool (sgnZ z), .slice A1 (len (magZ z)) c1] 30)) #[.bool false, .slice none 0 0, .slice none 0 0] 32); simpa using h
  have ne_0_1 : ¬ (w.heap.size = w.heap.size + 1) := by omega
  have ne_1_0 : ¬ (w.heap.size + 1 = w.heap.size) := by omega
  have ze : w.heap.size + 2 ≤ ((w.alloc (.cells #[.bool (sgnZ z), .slice A1 (len (magZ z)) c1] 30)).alloc (.cells #[.bool false, .slice none 0 0, .slice none 0 0] 32)).heap.size := (by simp)
  go_enter Try.func54, Try.ntmps54
  go_wp2_with fail
  refine callsNamed ?_
  intro p1 hp
  have O' : Old w p1 := (by rw [hp]; exact Below.trans (b := ((w.alloc (.cells #[.bool (sgnZ z), .slice A1 (len (magZ z)) c1] 30)).alloc (.cells #[.bool false, .slice none 0 0, .slice none 0 0] 32))) O oldA)
  replace B_x : Bx p1 (w.heap.size) #[.bool (sgnZ z), .slice A1 (len (magZ z)) c1] := (bxK B_x hp)
  replace B_r : Bx p1 (w.heap.size + 1) #[.bool false, .slice none 0 0, .slice none 0 0] := (bxK B_r hp)
  have zp1 : ((w.alloc (.cells #[.bool (sgnZ z), .slice A1 (len (magZ z)) c1] 30)).alloc (.cells #[.bool false, .slice none 0 0, .slice none 0 0] 32)).heap.size ≤ p1.heap.size := (by rw [hp]; exact leA)
  clear hp O
  have O := O'
  clear O'
  refine (plain_to (by rw [decide_eq_true HD.out]) (isOne_any A2 c2 d l2 _ (Row.below (B := w.heap.size) h2 O (Nat.le_refl _)))).mono ?_
  rintro e w1 ⟨rfl, o1⟩
  replace B_x := Bx.old B_x o1
  replace B_r := Bx.old B_r o1
  replace O := Old.trans O o1
  have zw1 := o1.size
  obtain ⟨q_x_0, q_x_1, f_x_0, f_x_1, q_x⟩ := B_x.all2
  obtain ⟨q_r_0, q_r_1, q_r_2, f_r_0, f_r_1, f_r_2, q_r⟩ := B_r.all3
  go_wp2_with fail
  refine callsNamed ?_
  intro p2 hp
  clear q_x_0 q_x_1 f_x_0 f_x_1 q_x q_r_0 q_r_1 q_r_2 f_r_0 f_r_1 f_r_2 q_r
  have O' : Old w p2 := (by rw [hp]; exact Below.trans (b := w1) O oldA)
  replace B_x : Bx p2 (w.heap.size) #[.bool (sgnZ z), .slice A1 (len (magZ z)) c1] := (bxK B_x hp)
  replace B_r : Bx p2 (w.heap.size + 1) #[.bool false, .slice none 0 0, .slice none 0 0] := (bxK B_r hp)
  have zp2 : w1.heap.size ≤ p2.heap.size := (by rw [hp]; exact leA)
  clear hp O
  have O := O'
  clear O'
  refine (retB_to Hq.out (ownBig_any (sgnZ z) A1 c1 (magZ z) _ _ (Row.below (B := w.heap.size) h1 O (Nat.le_refl _)) HPS.out (by omega))).mono ?_
  rintro e w2 ⟨⟨A5, c5, rfl, r5⟩, o2⟩
  replace B_x := Bx.old B_x o2
  replace B_r := Bx.old B_r o2
  replace O := Old.trans O o2
  have zw2 := o2.size
  replace r5 := Row.more (lo' := p2.heap.size) r5 leA
  have lim_r5 := Row.lim r5
  obtain ⟨q_x_0, q_x_1, f_x_0, f_x_1, q_x⟩ := B_x.all2
  obtain ⟨q_r_0, q_r_1, q_r_2, f_r_0, f_r_1, f_r_2, q_r⟩ := B_r.all3
  go_wp2_with fail
  refine callsNamed ?_
  intro p3 hp
  clear q_x_0 q_x_1 f_x_0 f_x_1 q_x q_r_0 q_r_1 q_r_2 f_r_0 f_r_1 f_r_2 q_r
  have O' : Old w p3 := (by rw [hp]; exact Below.trans (b := w2) O oldA)
  replace B_x : Bx p3 (w.heap.size) #[.bool (sgnZ z), .slice A1 (len (magZ z)) c1] := (bxK B_x hp)
  replace B_r : Bx p3 (w.heap.size + 1) #[.bool false, .slice none 0 0, .slice none 0 0] := (bxK B_r hp)
  replace r5 := rowK r5 hp
  have zp3 : w2.heap.size ≤ p3.heap.size := (by rw [hp]; exact leA)
  clear hp O
  have O := O'
  clear O'
  refine (clone_any A2 (len d) c2 _ (digI d) _ (Row.below (B := w.heap.size) h2 O (Nat.le_refl _)) (by omega)).mono ?_
  rintro e w3 ⟨A6, c6, rfl, r6, o3⟩
  replace B_x := Bx.old B_x o3
  replace B_r := Bx.old B_r o3
  replace r5 := Row.below r5 o3 (Nat.le_refl _)
  replace O := Old.trans O o3
  have zw3 := o3.size
  replace r6 := Row.more (lo' := p3.heap.size) r6 leA
  have lim_r6 := Row.lim r6
  obtain ⟨q_x_0, q_x_1, f_x_0, f_x_1, q_x⟩ := B_x.all2
  obtain ⟨q_r_0, q_r_1, q_r_2, f_r_0, f_r_1, f_r_2, q_r⟩ := B_r.all3
  have AP := Apart.of lim_r5 r6 (by omega)
  have AP' := Lib.hid AP
  clear AP
  go_wp2
  refine bodyPost_ret (v := .agg #[.bool (sgnZ q), .slice A5 (len (magZ q)) c5, .slice A6 (len d) c6]) (by simp [results, Try.results54, go_sem, q_r_0, q_r_1, q_r_2]) rfl ⟨⟨q, d, A5, c5, A6, c6, Hv.out, rfl, ?_, ?_, AP'.out⟩, ?_⟩
  · refine Row.more (lo := p2.heap.size) ?_ leA
    repeat' (first | exact r5 | refine Row.far_set ?_ (by first | (simp <;> done) | (simp; omega) | omega) _)
  · refine Row.more (lo := p3.heap.size) ?_ leA
    repeat' (first | exact r6 | refine Row.far_set ?_ (by first | (simp <;> done) | (simp; omega) | omega) _)
  · exact Below.trans (b := w3) O oldA
set_option maxRecDepth 100000 in
set_option maxHeartbeats 1000000 in
theorem ratMake_one_longx (z : Int) (d : Nat) (A1 A2 : Option Addr) (c1 c2 l1 l2 : Nat) (w : World) (h1 : NatS w l1 A1 c1 (magZ z)) (h2 : NatS w l2 A2 c2 d) (hx : len (magZ z) ≤ 100) (hy : len d ≤ 100) (hp : 0 < d) (h1' : d = 1) (hf1 : ¬ len (magZ z) ≤ 24) :
    Calls Try.prog 54 #[.agg #[.bool (sgnZ z), .slice A1 (len (magZ z)) c1], .slice A2 (len d) c2] w fun e w' => RetR e w' w.heap.size ((0, 0)) ∧ Old w w' := by
  have HD := Lib.hid h1'
  have HPS : Hid (sgnZ z = true → 0 < magZ z) := Lib.hid sgn_pos
  have hf2 : len d ≤ 24 := by rw [HD.out, len_1]; omega
  have t1 : (24 : Int) < ((len (magZ z) : Nat) : Int) := by omega
  clear h1' hp
  have O : Old w ((w.alloc (.cells #[.bool (sgnZ z), .slice A1 (len (magZ z)) c1] 30)).alloc (.cells #[.bool false, .slice none 0 0, .slice none 0 0] 32)) := oldA
  have B_x : Bx ((w.alloc (.cells #[.bool (sgnZ z), .slice A1 (len (magZ z)) c1] 30)).alloc (.cells #[.bool false, .slice none 0 0, .slice none 0 0] 32)) (w.heap.size) #[.bool (sgnZ z), .slice A1 (len (magZ z)) c1] := by have h := (Bx.alloc (Bx.new w #[.bool (sgnZ z), .slice A1 (len (magZ z)) c1] 30) (.cells #[.bool false, .slice none 0 0, .slice none 0 0] 32)); simpa using h
  have B_r : Bx ((w.alloc (.cells #[.bool (sgnZ z), .slice A1 (len (magZ z)) c1] 30)).alloc (.cells #[.bool false, .slice none 0 0, .slice none 0 0] 32)) (w.heap.size + 1) #[.bool false, .slice none 0 0, .slice none 0 0] := by have h := (Bx.new (w.alloc (.cells #[.bool (sgnZ z), .slice A1 (len (magZ z)) c1] 30)) #[.bool false, .slice none 0 0, .slice none 0 0] 32); simpa using h
  have ne_0_1 : ¬ (w.heap.size = w.heap.size + 1) := by omega
  have ne_1_0 : ¬ (w.heap.size + 1 = w.heap.size) := by omega
  have ze : w.heap.size + 2 ≤ ((w.alloc (.cells #[.bool (sgnZ z), .slice A1 (len (magZ z)) c1] 30)).alloc (.cells #[.bool false, .slice none 0 0, .slice none 0 0] 32)).heap.size := (by simp)
  go_enter Try.func54, Try.ntmps54
  go_wp2_with fail
  refine callsNamed ?_
  intro p1 hp
  have O' : Old w p1 := (by rw [hp]; exact Below.trans (b := ((w.alloc (.cells #[.bool (sgnZ z), .slice A1 (len (magZ z)) c1] 30)).alloc (.cells #[.bool false, .slice none 0 0, .slice none 0 0] 32))) O oldA)
  replace B_x : Bx p1 (w.heap.size) #[.bool (sgnZ z), .slice A1 (len (magZ z)) c1] := (bxK B_x hp)
  replace B_r : Bx p1 (w.heap.size + 1) #[.bool false, .slice none 0 0, .slice none 0 0] := (bxK B_r hp)
  have zp1 : ((w.alloc (.cells #[.bool (sgnZ z), .slice A1 (len (magZ z)) c1] 30)).alloc (.cells #[.bool false, .slice none 0 0, .slice none 0 0] 32)).heap.size ≤ p1.heap.size := (by rw [hp]; exact leA)
  clear hp O
  have O := O'
  clear O'
  refine (plain_to (by rw [decide_eq_true HD.out]) (isOne_any A2 c2 d l2 _ (Row.below (B := w.heap.size) h2 O (Nat.le_refl _)))).mono ?_
  rintro e w1 ⟨rfl, o1⟩
  replace B_x := Bx.old B_x o1
  replace B_r := Bx.old B_r o1
  replace O := Old.trans O o1
  have zw1 := o1.size
  obtain ⟨q_x_0, q_x_1, f_x_0, f_x_1, q_x⟩ := B_x.all2
  obtain ⟨q_r_0, q_r_1, q_r_2, f_r_0, f_r_1, f_r_2, q_r⟩ := B_r.all3
  go_wp2
  refine bodyPost_ret (v := .agg #[.bool false, .slice none 0 0, .slice none 0 0]) (by simp [results, Try.results54, go_sem, q_r_0, q_r_1, q_r_2]) rfl ⟨RetR.zero rfl, Below.trans (b := w1) O oldA⟩
set_option maxRecDepth 100000 in
set_option maxHeartbeats 1000000 in
theorem ratMake_low_fit (z : Int) (d : Nat) (A1 A2 : Option Addr) (c1 c2 l1 l2 : Nat) (w : World) (h1 : NatS w l1 A1 c1 (magZ z)) (h2 : NatS w l2 A2 c2 d) (hx : len (magZ z) ≤ 100) (hy : len d ≤ 100) (hp : 0 < d) (h1' : d ≠ 1) (hg : Nat.gcd (magZ z) d = 1) (hf1 : len (magZ z) ≤ 24) (hf2 : len (d) ≤ 24) :
    Calls Try.prog 54 #[.agg #[.bool (sgnZ z), .slice A1 (len (magZ z)) c1], .slice A2 (len d) c2] w fun e w' => RetR e w' w.heap.size (mkF z d) ∧ Old w w' := by
  have HD := Lib.hid h1'
  obtain ⟨G, hG⟩ : ∃ G, G = Nat.gcd (magZ z) d := ⟨_, rfl⟩
  have hps : sgnZ z = true → 0 < magZ z / Nat.gcd (magZ z) d := quo_pos
  rw [← hG] at hg hps
  have hGp : 0 < G := by rw [hG]; exact gcd_pos hp
  have hGl : len G ≤ 100 := by rw [hG]; exact gcd_len hx hy
  have HGE := Lib.hid hg
  have HGP := Lib.hid hGp
  have HPS : Hid (sgnZ z = true → 0 < magZ z) := Lib.hid sgn_pos
  clear hps
  have t1 : ¬ (24 : Int) < ((len (magZ z) : Nat) : Int) := by omega
  have t2 : ¬ (24 : Int) < ((len d : Nat) : Int) := by omega
  obtain ⟨q, hq⟩ : ∃ q, q = signed (sgnZ z) (magZ z) := ⟨_, rfl⟩
  have Hq : Hid (capZ (signed (sgnZ z) (magZ z)) = q) := Lib.hid (by rw [capZ_fit (by rw [mag_signed]; omega)]; exact hq.symm)
  have Hv : Hid (mkF z d = (q, d)) := Lib.hid (by rw [mkF_yes hp (by rw [← hG, HGE.out, Nat.div_one]; exact hf1) (by rw [← hG, HGE.out, Nat.div_one]; exact hf2), ← hG, HGE.out, Nat.div_one, Nat.div_one, hq])
  clear hq
  have HG := Lib.hid hG
  clear hG h1' hg hGp hp
  have O : Old w ((w.alloc (.cells #[.bool (sgnZ z), .slice A1 (len (magZ z)) c1] 30)).alloc (.cells #[.bool false, .slice none 0 0, .slice none 0 0] 32)) := oldA
  have B_x : Bx ((w.alloc (.cells #[.bool (sgnZ z), .slice A1 (len (magZ z)) c1] 30)).alloc (.cells #[.bool false, .slice none 0 0, .slice none 0 0] 32)) (w.heap.size) #[.bool (sgnZ z), .slice A1 (len (magZ z)) c1] := by have h := (Bx.alloc (Bx.new w #[.bool (sgnZ z), .slice A1 (len (magZ z)) c1] 30) (.cells #[.bool false, .slice none 0 0, .slice none 0 0] 32)); simpa using h
  have B_r : Bx ((w.alloc (.cells #[.bool (sgnZ z), .slice A1 (len (magZ z)) c1] 30)).alloc (.cells #[.bool false, .slice none 0 0, .slice none 0 0] 32)) (w.heap.size + 1) #[.bool false, .slice none 0 0, .slice none 0 0] := by have h := (Bx.new (w.alloc (.cells #[.bool (sgnZ z), .slice A1 (len (magZ z)) c1] 30)) #[.bool false, .slice none 0 0, .slice none 0 0] 32); simpa using h
  have ne_0_1 : ¬ (w.heap.size = w.heap.size + 1) := by omega
  have ne_1_0 : ¬ (w.heap.size + 1 = w.heap.size) := by omega
  have ze : w.heap.size + 2 ≤ ((w.alloc (.cells #[.bool (sgnZ z), .slice A1 (len (magZ z)) c1] 30)).alloc (.cells #[.bool false, .slice none 0 0, .slice none 0 0] 32)).heap.size := (by simp)
  go_enter Try.func54, Try.ntmps54
  go_wp2_with fail
  refine callsNamed ?_
  intro p1 hp
  have O' : Old w p1 := (by rw [hp]; exact Below.trans (b := ((w.alloc (.cells #[.bool (sgnZ z), .slice A1 (len (magZ z)) c1] 30)).alloc (.cells #[.bool false, .slice none 0 0, .slice none 0 0] 32))) O oldA)
  replace B_x : Bx p1 (w.heap.size) #[.bool (sgnZ z), .slice A1 (len (magZ z)) c1] := (bxK B_x hp)
  replace B_r : Bx p1 (w.heap.size + 1) #[.bool false, .slice none 0 0, .slice none 0 0] := (bxK B_r hp)
  have zp1 : ((w.alloc (.cells #[.bool (sgnZ z), .slice A1 (len (magZ z)) c1] 30)).alloc (.cells #[.bool false, .slice none 0 0, .slice none 0 0] 32)).heap.size ≤ p1.heap.size := (by rw [hp]; exact leA)
  clear hp O
  have O := O'
  clear O'
  refine (plain_to (by rw [decide_eq_false HD.out]) (isOne_any A2 c2 d l2 _ (Row.below (B := w.heap.size) h2 O (Nat.le_refl _)))).mono ?_
  rintro e w1 ⟨rfl, o1⟩
  replace B_x := Bx.old B_x o1
  replace B_r := Bx.old B_r o1
  replace O := Old.trans O o1
  have zw1 := o1.size
  obtain ⟨q_x_0, q_x_1, f_x_0, f_x_1, q_x⟩ := B_x.all2
  obtain ⟨q_r_0, q_r_1, q_r_2, f_r_0, f_r_1, f_r_2, q_r⟩ := B_r.all3
  go_wp2_with fail
  refine callsNamed ?_
  intro p2 hp
  clear q_x_0 q_x_1 f_x_0 f_x_1 q_x q_r_0 q_r_1 q_r_2 f_r_0 f_r_1 f_r_2 q_r
  have O' : Old w p2 := (by rw [hp]; exact Below.trans (b := w1) O oldA)
  replace B_x : Bx p2 (w.heap.size) #[.bool (sgnZ z), .slice A1 (len (magZ z)) c1] := (bxK B_x hp)
  replace B_r : Bx p2 (w.heap.size + 1) #[.bool false, .slice none 0 0, .slice none 0 0] := (bxK B_r hp)
  have zp2 : w1.heap.size ≤ p2.heap.size := (by rw [hp]; exact leA)
  clear hp O
  have O := O'
  clear O'
  refine (natGcd_any A1 A2 c1 c2 (magZ z) d l1 l2 _ (Row.below (B := w.heap.size) h1 O (Nat.le_refl _)) (Row.below (B := w.heap.size) h2 O (Nat.le_refl _)) (by omega) (by omega)).mono ?_
  rintro e w2 ⟨⟨A3, c3, he, r3⟩, o2⟩
  replace B_x := Bx.old B_x o2
  replace B_r := Bx.old B_r o2
  replace O := Old.trans O o2
  have zw2 := o2.size
  have lim_r3 := Row.lim r3
  rw [← HG.out] at he r3 lim_r3
  subst he
  have off3 := Row.off r3 B_x (no_int2 _ _ _ _)
  obtain ⟨q_x_0, q_x_1, f_x_0, f_x_1, q_x⟩ := B_x.all2
  obtain ⟨q_r_0, q_r_1, q_r_2, f_r_0, f_r_1, f_r_2, q_r⟩ := B_r.all3
  go_wp2_with fail
  refine callsNamed ?_
  intro p3 hp
  clear q_x_0 q_x_1 f_x_0 f_x_1 q_x q_r_0 q_r_1 q_r_2 f_r_0 f_r_1 f_r_2 q_r
  have O' : Old w p3 := (by rw [hp]; exact Below.trans (b := w2) O oldA)
  replace B_x : Bx p3 (w.heap.size) #[.bool (sgnZ z), .slice A1 (len (magZ z)) c1] := (bxK B_x hp)
  replace B_r : Bx p3 (w.heap.size + 1) #[.bool false, .slice none 0 0, .slice none 0 0] := (bxK B_r hp)
  replace r3 := rowK r3 hp
  have zp3 : w2.heap.size ≤ p3.heap.size := (by rw [hp]; exact leA)
  clear hp O
  have O := O'
  clear O'
  refine (plain_to (by rw [decide_eq_true HGE.out]) (isOne_any A3 c3 G _ _ r3)).mono ?_
  rintro e w3 ⟨rfl, o3⟩
  replace B_x := Bx.old B_x o3
  replace B_r := Bx.old B_r o3
  replace r3 := Row.below r3 o3 (Nat.le_refl _)
  replace O := Old.trans O o3
  have zw3 := o3.size
  obtain ⟨q_x_0, q_x_1, f_x_0, f_x_1, q_x⟩ := B_x.all2
  obtain ⟨q_r_0, q_r_1, q_r_2, f_r_0, f_r_1, f_r_2, q_r⟩ := B_r.all3
  go_wp2_with fail
  refine callsNamed ?_
  intro p4 hp
  clear q_x_0 q_x_1 f_x_0 f_x_1 q_x q_r_0 q_r_1 q_r_2 f_r_0 f_r_1 f_r_2 q_r
  have O' : Old w p4 := (by rw [hp]; exact Below.trans (b := w3) O oldA)
  replace B_x : Bx p4 (w.heap.size) #[.bool (sgnZ z), .slice A1 (len (magZ z)) c1] := (bxK B_x hp)
  replace B_r : Bx p4 (w.heap.size + 1) #[.bool false, .slice none 0 0, .slice none 0 0] := (bxK B_r hp)
  replace r3 := rowK r3 hp
  have zp4 : w3.heap.size ≤ p4.heap.size := (by rw [hp]; exact leA)
  clear hp O
  have O := O'
  clear O'
  refine (retB_to Hq.out (ownBig_any (sgnZ z) A1 c1 (magZ z) _ _ (Row.below (B := w.heap.size) h1 O (Nat.le_refl _)) HPS.out (by omega))).mono ?_
  rintro e w4 ⟨⟨A5, c5, rfl, r5⟩, o4⟩
  replace B_x := Bx.old B_x o4
  replace B_r := Bx.old B_r o4
  replace r3 := Row.below r3 o4 (Nat.le_refl _)
  replace O := Old.trans O o4
  have zw4 := o4.size
  replace r5 := Row.more (lo' := p4.heap.size) r5 leA
  have lim_r5 := Row.lim r5
  obtain ⟨q_x_0, q_x_1, f_x_0, f_x_1, q_x⟩ := B_x.all2
  obtain ⟨q_r_0, q_r_1, q_r_2, f_r_0, f_r_1, f_r_2, q_r⟩ := B_r.all3
  go_wp2_with fail
  refine callsNamed ?_
  intro p5 hp
  clear q_x_0 q_x_1 f_x_0 f_x_1 q_x q_r_0 q_r_1 q_r_2 f_r_0 f_r_1 f_r_2 q_r
  have O' : Old w p5 := (by rw [hp]; exact Below.trans (b := w4) O oldA)
  replace B_x : Bx p5 (w.heap.size) #[.bool (sgnZ z), .slice A1 (len (magZ z)) c1] := (bxK B_x hp)
  replace B_r : Bx p5 (w.heap.size + 1) #[.bool false, .slice none 0 0, .slice none 0 0] := (bxK B_r hp)
  replace r3 := rowK r3 hp
  replace r5 := rowK r5 hp
  have zp5 : w4.heap.size ≤ p5.heap.size := (by rw [hp]; exact leA)
  clear hp O
  have O := O'
  clear O'
  refine (clone_any A2 (len d) c2 _ (digI d) _ (Row.below (B := w.heap.size) h2 O (Nat.le_refl _)) (by omega)).mono ?_
  rintro e w5 ⟨A6, c6, rfl, r6, o5⟩
  replace B_x := Bx.old B_x o5
  replace B_r := Bx.old B_r o5
  replace r3 := Row.below r3 o5 (Nat.le_refl _)
  replace r5 := Row.below r5 o5 (Nat.le_refl _)
  replace O := Old.trans O o5
  have zw5 := o5.size
  replace r6 := Row.more (lo' := p5.heap.size) r6 leA
  have lim_r6 := Row.lim r6
  obtain ⟨q_x_0, q_x_1, f_x_0, f_x_1, q_x⟩ := B_x.all2
  obtain ⟨q_r_0, q_r_1, q_r_2, f_r_0, f_r_1, f_r_2, q_r⟩ := B_r.all3
  have AP := Apart.of lim_r5 r6 (by omega)
  have AP' := Lib.hid AP
  clear AP
  go_wp2
  refine bodyPost_ret (v := .agg #[.bool (sgnZ q), .slice A5 (len (magZ q)) c5, .slice A6 (len d) c6]) (by simp [results, Try.results54, go_sem, q_r_0, q_r_1, q_r_2]) rfl ⟨⟨q, d, A5, c5, A6, c6, Hv.out, rfl, ?_, ?_, AP'.out⟩, ?_⟩
  · refine Row.more (lo := p4.heap.size) ?_ leA
    repeat' (first | exact r5 | refine Row.far_set ?_ (by first | (simp <;> done) | (simp; omega) | omega) _)
  · refine Row.more (lo := p5.heap.size) ?_ leA
    repeat' (first | exact r6 | refine Row.far_set ?_ (by first | (simp <;> done) | (simp; omega) | omega) _)
  · exact Below.trans (b := w5) O oldA
set_option maxRecDepth 100000 in
set_option maxHeartbeats 1000000 in
theorem ratMake_low_longx (z : Int) (d : Nat) (A1 A2 : Option Addr) (c1 c2 l1 l2 : Nat) (w : World) (h1 : NatS w l1 A1 c1 (magZ z)) (h2 : NatS w l2 A2 c2 d) (hx : len (magZ z) ≤ 100) (hy : len d ≤ 100) (hp : 0 < d) (h1' : d ≠ 1) (hg : Nat.gcd (magZ z) d = 1) (hf1 : ¬ len (magZ z) ≤ 24) :
    Calls Try.prog 54 #[.agg #[.bool (sgnZ z), .slice A1 (len (magZ z)) c1], .slice A2 (len d) c2] w fun e w' => RetR e w' w.heap.size ((0, 0)) ∧ Old w w' := by
  have HD := Lib.hid h1'
  obtain ⟨G, hG⟩ : ∃ G, G = Nat.gcd (magZ z) d := ⟨_, rfl⟩
  have hps : sgnZ z = true → 0 < magZ z / Nat.gcd (magZ z) d := quo_pos
  rw [← hG] at hg hps
  have hGp : 0 < G := by rw [hG]; exact gcd_pos hp
  have hGl : len G ≤ 100 := by rw [hG]; exact gcd_len hx hy
  have HGE := Lib.hid hg
  have HGP := Lib.hid hGp
  have HPS : Hid (sgnZ z = true → 0 < magZ z) := Lib.hid sgn_pos
  clear hps
  have t1 : (24 : Int) < ((len (magZ z) : Nat) : Int) := by omega
  have HG := Lib.hid hG
  clear hG h1' hg hGp hp
  have O : Old w ((w.alloc (.cells #[.bool (sgnZ z), .slice A1 (len (magZ z)) c1] 30)).alloc (.cells #[.bool false, .slice none 0 0, .slice none 0 0] 32)) := oldA
  have B_x : Bx ((w.alloc (.cells #[.bool (sgnZ z), .slice A1 (len (magZ z)) c1] 30)).alloc (.cells #[.bool false, .slice none 0 0, .slice none 0 0] 32)) (w.heap.size) #[.bool (sgnZ z), .slice A1 (len (magZ z)) c1] := by have h := (Bx.alloc (Bx.new w #[.bool (sgnZ z), .slice A1 (len (magZ z)) c1] 30) (.cells #[.bool false, .slice none 0 0, .slice none 0 0] 32)); simpa using h
  have B_r : Bx ((w.alloc (.cells #[.bool (sgnZ z), .slice A1 (len (magZ z)) c1] 30)).alloc (.cells #[.bool false, .slice none 0 0, .slice none 0 0] 32)) (w.heap.size + 1) #[.bool false, .slice none 0 0, .slice none 0 0] := by have h := (Bx.new (w.alloc (.cells #[.bool (sgnZ z), .slice A1 (len (magZ z)) c1] 30)) #[.bool false, .slice none 0 0, .slice none 0 0] 32); simpa using h
  have ne_0_1 : ¬ (w.heap.size = w.heap.size + 1) := by omega
  have ne_1_0 : ¬ (w.heap.size + 1 = w.heap.size) := by omega
  have ze : w.heap.size + 2 ≤ ((w.alloc (.cells #[.bool (sgnZ z), .slice A1 (len (magZ z)) c1] 30)).alloc (.cells #[.bool false, .slice none 0 0, .slice none 0 0] 32)).heap.size := (by simp)
  go_enter Try.func54, Try.ntmps54
  go_wp2_with fail
  refine callsNamed ?_
  intro p1 hp
  have O' : Old w p1 := (by rw [hp]; exact Below.trans (b := ((w.alloc (.cells #[.bool (sgnZ z), .slice A1 (len (magZ z)) c1] 30)).alloc (.cells #[.bool false, .slice none 0 0, .slice none 0 0] 32))) O oldA)
  replace B_x : Bx p1 (w.heap.size) #[.bool (sgnZ z), .slice A1 (len (magZ z)) c1] := (bxK B_x hp)
  replace B_r : Bx p1 (w.heap.size + 1) #[.bool false, .slice none 0 0, .slice none 0 0] := (bxK B_r hp)
  have zp1 : ((w.alloc (.cells #[.bool (sgnZ z), .slice A1 (len (magZ z)) c1] 30)).alloc (.cells #[.bool false, .slice none 0 0, .slice none 0 0] 32)).heap.size ≤ p1.heap.size := (by rw [hp]; exact leA)
  clear hp O
  have O := O'
  clear O'
  refine (plain_to (by rw [decide_eq_false HD.out]) (isOne_any A2 c2 d l2 _ (Row.below (B := w.heap.size) h2 O (Nat.le_refl _)))).mono ?_
  rintro e w1 ⟨rfl, o1⟩
  replace B_x := Bx.old B_x o1
  replace B_r := Bx.old B_r o1
  replace O := Old.trans O o1
  have zw1 := o1.size
  obtain ⟨q_x_0, q_x_1, f_x_0, f_x_1, q_x⟩ := B_x.all2
  obtain ⟨q_r_0, q_r_1, q_r_2, f_r_0, f_r_1, f_r_2, q_r⟩ := B_r.all3
  go_wp2_with fail
  refine callsNamed ?_
  intro p2 hp
  clear q_x_0 q_x_1 f_x_0 f_x_1 q_x q_r_0 q_r_1 q_r_2 f_r_0 f_r_1 f_r_2 q_r
  have O' : Old w p2 := (by rw [hp]; exact Below.trans (b := w1) O oldA)
  replace B_x : Bx p2 (w.heap.size) #[.bool (sgnZ z), .slice A1 (len (magZ z)) c1] := (bxK B_x hp)
  replace B_r : Bx p2 (w.heap.size + 1) #[.bool false, .slice none 0 0, .slice none 0 0] := (bxK B_r hp)
  have zp2 : w1.heap.size ≤ p2.heap.size := (by rw [hp]; exact leA)
  clear hp O
  have O := O'
  clear O'
  refine (natGcd_any A1 A2 c1 c2 (magZ z) d l1 l2 _ (Row.below (B := w.heap.size) h1 O (Nat.le_refl _)) (Row.below (B := w.heap.size) h2 O (Nat.le_refl _)) (by omega) (by omega)).mono ?_
  rintro e w2 ⟨⟨A3, c3, he, r3⟩, o2⟩
  replace B_x := Bx.old B_x o2
  replace B_r := Bx.old B_r o2
  replace O := Old.trans O o2
  have zw2 := o2.size
  have lim_r3 := Row.lim r3
  rw [← HG.out] at he r3 lim_r3
  subst he
  have off3 := Row.off r3 B_x (no_int2 _ _ _ _)
  obtain ⟨q_x_0, q_x_1, f_x_0, f_x_1, q_x⟩ := B_x.all2
  obtain ⟨q_r_0, q_r_1, q_r_2, f_r_0, f_r_1, f_r_2, q_r⟩ := B_r.all3
  go_wp2_with fail
  refine callsNamed ?_
  intro p3 hp
  clear q_x_0 q_x_1 f_x_0 f_x_1 q_x q_r_0 q_r_1 q_r_2 f_r_0 f_r_1 f_r_2 q_r
  have O' : Old w p3 := (by rw [hp]; exact Below.trans (b := w2) O oldA)
  replace B_x : Bx p3 (w.heap.size) #[.bool (sgnZ z), .slice A1 (len (magZ z)) c1] := (bxK B_x hp)
  replace B_r : Bx p3 (w.heap.size + 1) #[.bool false, .slice none 0 0, .slice none 0 0] := (bxK B_r hp)
  replace r3 := rowK r3 hp
  have zp3 : w2.heap.size ≤ p3.heap.size := (by rw [hp]; exact leA)
  clear hp O
  have O := O'
  clear O'
  refine (plain_to (by rw [decide_eq_true HGE.out]) (isOne_any A3 c3 G _ _ r3)).mono ?_
  rintro e w3 ⟨rfl, o3⟩
  replace B_x := Bx.old B_x o3
  replace B_r := Bx.old B_r o3
  replace r3 := Row.below r3 o3 (Nat.le_refl _)
  replace O := Old.trans O o3
  have zw3 := o3.size
  obtain ⟨q_x_0, q_x_1, f_x_0, f_x_1, q_x⟩ := B_x.all2
  obtain ⟨q_r_0, q_r_1, q_r_2, f_r_0, f_r_1, f_r_2, q_r⟩ := B_r.all3
  go_wp2
  refine bodyPost_ret (v := .agg #[.bool false, .slice none 0 0, .slice none 0 0]) (by simp [results, Try.results54, go_sem, q_r_0, q_r_1, q_r_2]) rfl ⟨RetR.zero rfl, Below.trans (b := w3) O oldA⟩
set_option maxRecDepth 100000 in
set_option maxHeartbeats 1000000 in
theorem ratMake_low_longy (z : Int) (d : Nat) (A1 A2 : Option Addr) (c1 c2 l1 l2 : Nat) (w : World) (h1 : NatS w l1 A1 c1 (magZ z)) (h2 : NatS w l2 A2 c2 d) (hx : len (magZ z) ≤ 100) (hy : len d ≤ 100) (hp : 0 < d) (h1' : d ≠ 1) (hg : Nat.gcd (magZ z) d = 1) (hf1 : len (magZ z) ≤ 24) (hf2 : ¬ len (d) ≤ 24) :
    Calls Try.prog 54 #[.agg #[.bool (sgnZ z), .slice A1 (len (magZ z)) c1], .slice A2 (len d) c2] w fun e w' => RetR e w' w.heap.size ((0, 0)) ∧ Old w w' := by
  have HD := Lib.hid h1'
  obtain ⟨G, hG⟩ : ∃ G, G = Nat.gcd (magZ z) d := ⟨_, rfl⟩
  have hps : sgnZ z = true → 0 < magZ z / Nat.gcd (magZ z) d := quo_pos
  rw [← hG] at hg hps
  have hGp : 0 < G := by rw [hG]; exact gcd_pos hp
  have hGl : len G ≤ 100 := by rw [hG]; exact gcd_len hx hy
  have HGE := Lib.hid hg
  have HGP := Lib.hid hGp
  have HPS : Hid (sgnZ z = true → 0 < magZ z) := Lib.hid sgn_pos
  clear hps
  have t1 : ¬ (24 : Int) < ((len (magZ z) : Nat) : Int) := by omega
  have t2 : (24 : Int) < ((len d : Nat) : Int) := by omega
  have HG := Lib.hid hG
  clear hG h1' hg hGp hp
  have O : Old w ((w.alloc (.cells #[.bool (sgnZ z), .slice A1 (len (magZ z)) c1] 30)).alloc (.cells #[.bool false, .slice none 0 0, .slice none 0 0] 32)) := oldA
  have B_x : Bx ((w.alloc (.cells #[.bool (sgnZ z), .slice A1 (len (magZ z)) c1] 30)).alloc (.cells #[.bool false, .slice none 0 0, .slice none 0 0] 32)) (w.heap.size) #[.bool (sgnZ z), .slice A1 (len (magZ z)) c1] := by have h := (Bx.alloc (Bx.new w #[.bool (sgnZ z), .slice A1 (len (magZ z)) c1] 30) (.cells #[.bool false, .slice none 0 0, .slice none 0 0] 32)); simpa using h
  have B_r : Bx ((w.alloc (.cells #[.bool (sgnZ z), .slice A1 (len (magZ z)) c1] 30)).alloc (.cells #[.bool false, .slice none 0 0, .slice none 0 0] 32)) (w.heap.size + 1) #[.bool false, .slice none 0 0, .slice none 0 0] := by have h := (Bx.new (w.alloc (.cells #[.bool (sgnZ z), .slice A1 (len (magZ z)) c1] 30)) #[.bool false, .slice none 0 0, .slice none 0 0] 32); simpa using h
  have ne_0_1 : ¬ (w.heap.size = w.heap.size + 1) := by omega
  have ne_1_0 : ¬ (w.heap.size + 1 = w.heap.size) := by omega
  have ze : w.heap.size + 2 ≤ ((w.alloc (.cells #[.bool (sgnZ z), .slice A1 (len (magZ z)) c1] 30)).alloc (.cells #[.bool false, .slice none 0 0, .slice none 0 0] 32)).heap.size := (by simp)
  go_enter Try.func54, Try.ntmps54
  go_wp2_with fail
  refine callsNamed ?_
  intro p1 hp
  have O' : Old w p1 := (by rw [hp]; exact Below.trans (b := ((w.alloc (.cells #[.bool (sgnZ z), .slice A1 (len (magZ z)) c1] 30)).alloc (.cells #[.bool false, .slice none 0 0, .slice none 0 0] 32))) O oldA)
  replace B_x : Bx p1 (w.heap.size) #[.bool (sgnZ z), .slice A1 (len (magZ z)) c1] := (bxK B_x hp)
  replace B_r : Bx p1 (w.heap.size + 1) #[.bool false, .slice none 0 0, .slice none 0 0] := (bxK B_r hp)
  have zp1 : ((w.alloc (.cells #[.bool (sgnZ z), .slice A1 (len (magZ z)) c1] 30)).alloc (.cells #[.bool false, .slice none 0 0, .slice none 0 0] 32)).heap.size ≤ p1.heap.size := (by rw [hp]; exact leA)
  clear hp O
  have O := O'
  clear O'
  refine (plain_to (by rw [decide_eq_false HD.out]) (isOne_any A2 c2 d l2 _ (Row.below (B := w.heap.size) h2 O (Nat.le_refl _)))).mono ?_
  rintro e w1 ⟨rfl, o1⟩
  replace B_x := Bx.old B_x o1
  replace B_r := Bx.old B_r o1
  replace O := Old.trans O o1
  have zw1 := o1.size
  obtain ⟨q_x_0, q_x_1, f_x_0, f_x_1, q_x⟩ := B_x.all2
  obtain ⟨q_r_0, q_r_1, q_r_2, f_r_0, f_r_1, f_r_2, q_r⟩ := B_r.all3
  go_wp2_with fail
  refine callsNamed ?_
  intro p2 hp
  clear q_x_0 q_x_1 f_x_0 f_x_1 q_x q_r_0 q_r_1 q_r_2 f_r_0 f_r_1 f_r_2 q_r
  have O' : Old w p2 := (by rw [hp]; exact Below.trans (b := w1) O oldA)
  replace B_x : Bx p2 (w.heap.size) #[.bool (sgnZ z), .slice A1 (len (magZ z)) c1] := (bxK B_x hp)
  replace B_r : Bx p2 (w.heap.size + 1) #[.bool false, .slice none 0 0, .slice none 0 0] := (bxK B_r hp)
  have zp2 : w1.heap.size ≤ p2.heap.size := (by rw [hp]; exact leA)
  clear hp O
  have O := O'
  clear O'
  refine (natGcd_any A1 A2 c1 c2 (magZ z) d l1 l2 _ (Row.below (B := w.heap.size) h1 O (Nat.le_refl _)) (Row.below (B := w.heap.size) h2 O (Nat.le_refl _)) (by omega) (by omega)).mono ?_
  rintro e w2 ⟨⟨A3, c3, he, r3⟩, o2⟩
  replace B_x := Bx.old B_x o2
  replace B_r := Bx.old B_r o2
  replace O := Old.trans O o2
  have zw2 := o2.size
  have lim_r3 := Row.lim r3
  rw [← HG.out] at he r3 lim_r3
  subst he
  have off3 := Row.off r3 B_x (no_int2 _ _ _ _)
  obtain ⟨q_x_0, q_x_1, f_x_0, f_x_1, q_x⟩ := B_x.all2
  obtain ⟨q_r_0, q_r_1, q_r_2, f_r_0, f_r_1, f_r_2, q_r⟩ := B_r.all3
  go_wp2_with fail
  refine callsNamed ?_
  intro p3 hp
  clear q_x_0 q_x_1 f_x_0 f_x_1 q_x q_r_0 q_r_1 q_r_2 f_r_0 f_r_1 f_r_2 q_r
  have O' : Old w p3 := (by rw [hp]; exact Below.trans (b := w2) O oldA)
  replace B_x : Bx p3 (w.heap.size) #[.bool (sgnZ z), .slice A1 (len (magZ z)) c1] := (bxK B_x hp)
  replace B_r : Bx p3 (w.heap.size + 1) #[.bool false, .slice none 0 0, .slice none 0 0] := (bxK B_r hp)
  replace r3 := rowK r3 hp
  have zp3 : w2.heap.size ≤ p3.heap.size := (by rw [hp]; exact leA)
  clear hp O
  have O := O'
  clear O'
  refine (plain_to (by rw [decide_eq_true HGE.out]) (isOne_any A3 c3 G _ _ r3)).mono ?_
  rintro e w3 ⟨rfl, o3⟩
  replace B_x := Bx.old B_x o3
  replace B_r := Bx.old B_r o3
  replace r3 := Row.below r3 o3 (Nat.le_refl _)
  replace O := Old.trans O o3
  have zw3 := o3.size
  obtain ⟨q_x_0, q_x_1, f_x_0, f_x_1, q_x⟩ := B_x.all2
  obtain ⟨q_r_0, q_r_1, q_r_2, f_r_0, f_r_1, f_r_2, q_r⟩ := B_r.all3
  go_wp2
  refine bodyPost_ret (v := .agg #[.bool false, .slice none 0 0, .slice none 0 0]) (by simp [results, Try.results54, go_sem, q_r_0, q_r_1, q_r_2]) rfl ⟨RetR.zero rfl, Below.trans (b := w3) O oldA⟩
set_option maxRecDepth 100000 in
set_option maxHeartbeats 1000000 in
theorem ratMake_red_fit (z : Int) (d : Nat) (A1 A2 : Option Addr) (c1 c2 l1 l2 : Nat) (w : World) (h1 : NatS w l1 A1 c1 (magZ z)) (h2 : NatS w l2 A2 c2 d) (hx : len (magZ z) ≤ 100) (hy : len d ≤ 100) (hp : 0 < d) (h1' : d ≠ 1) (hg : Nat.gcd (magZ z) d ≠ 1) (hf1 : len (magZ z / Nat.gcd (magZ z) d) ≤ 24) (hf2 : len (d / Nat.gcd (magZ z) d) ≤ 24) :
    Calls Try.prog 54 #[.agg #[.bool (sgnZ z), .slice A1 (len (magZ z)) c1], .slice A2 (len d) c2] w fun e w' => RetR e w' w.heap.size (mkF z d) ∧ Old w w' := by
  have HD := Lib.hid h1'
  obtain ⟨G, hG⟩ : ∃ G, G = Nat.gcd (magZ z) d := ⟨_, rfl⟩
  have hps : sgnZ z = true → 0 < magZ z / Nat.gcd (magZ z) d := quo_pos
  rw [← hG] at hg hps
  have hGp : 0 < G := by rw [hG]; exact gcd_pos hp
  have hGl : len G ≤ 100 := by rw [hG]; exact gcd_len hx hy
  have HGE := Lib.hid hg
  have HGP := Lib.hid hGp
  obtain ⟨X, hX⟩ : ∃ X, X = magZ z / G := ⟨_, rfl⟩
  obtain ⟨Y, hY⟩ : ∃ Y, Y = d / G := ⟨_, rfl⟩
  rw [← hX] at hps
  have HPS := Lib.hid hps
  clear hps
  have hXl : len X ≤ 100 := by rw [hX]; have := quo_len (magZ z) G; omega
  have hYl : len Y ≤ 100 := by rw [hY]; have := quo_len d G; omega
  have HX := Lib.hid hX
  have HY := Lib.hid hY
  rw [← hG, ← hX] at hf1
  rw [← hG, ← hY] at hf2
  have t1 : ¬ (24 : Int) < ((len X : Nat) : Int) := by omega
  have t2 : ¬ (24 : Int) < ((len Y : Nat) : Int) := by omega
  obtain ⟨q, hq⟩ : ∃ q, q = signed (sgnZ z) X := ⟨_, rfl⟩
  have Hq : Hid (capZ (signed (sgnZ z) X) = q) := Lib.hid (by rw [capZ_fit (by rw [mag_signed]; omega)]; exact hq.symm)
  have Hv : Hid (mkF z d = (q, Y)) := Lib.hid (by rw [mkF_yes hp (by rw [← hG, ← hX]; exact hf1) (by rw [← hG, ← hY]; exact hf2), ← hG, ← hX, ← hY, hq])
  clear hq
  have HG := Lib.hid hG
  clear hG h1' hg hGp hp hX hY
  have O : Old w ((w.alloc (.cells #[.bool (sgnZ z), .slice A1 (len (magZ z)) c1] 30)).alloc (.cells #[.bool false, .slice none 0 0, .slice none 0 0] 32)) := oldA
  have B_x : Bx ((w.alloc (.cells #[.bool (sgnZ z), .slice A1 (len (magZ z)) c1] 30)).alloc (.cells #[.bool false, .slice none 0 0, .slice none 0 0] 32)) (w.heap.size) #[.bool (sgnZ z), .slice A1 (len (magZ z)) c1] := by have h := (Bx.alloc (Bx.new w #[.bool (sgnZ z), .slice A1 (len (magZ z)) c1] 30) (.cells #[.bool false, .slice none 0 0, .slice none 0 0] 32)); simpa using h
  have B_r : Bx ((w.alloc (.cells #[.bool (sgnZ z), .slice A1 (len (magZ z)) c1] 30)).alloc (.cells #[.bool false, .slice none 0 0, .slice none 0 0] 32)) (w.heap.size + 1) #[.bool false, .slice none 0 0, .slice none 0 0] := by have h := (Bx.new (w.alloc (.cells #[.bool (sgnZ z), .slice A1 (len (magZ z)) c1] 30)) #[.bool false, .slice none 0 0, .slice none 0 0] 32); simpa using h
  have ne_0_1 : ¬ (w.heap.size = w.heap.size + 1) := by omega
  have ne_1_0 : ¬ (w.heap.size + 1 = w.heap.size) := by omega
  have ze : w.heap.size + 2 ≤ ((w.alloc (.cells #[.bool (sgnZ z), .slice A1 (len (magZ z)) c1] 30)).alloc (.cells #[.bool false, .slice none 0 0, .slice none 0 0] 32)).heap.size := (by simp)
  go_enter Try.func54, Try.ntmps54
  go_wp2_with fail
  refine callsNamed ?_
  intro p1 hp
  have O' : Old w p1 := (by rw [hp]; exact Below.trans (b := ((w.alloc (.cells #[.bool (sgnZ z), .slice A1 (len (magZ z)) c1] 30)).alloc (.cells #[.bool false, .slice none 0 0, .slice none 0 0] 32))) O oldA)
  replace B_x : Bx p1 (w.heap.size) #[.bool (sgnZ z), .slice A1 (len (magZ z)) c1] := (bxK B_x hp)
  replace B_r : Bx p1 (w.heap.size + 1) #[.bool false, .slice none 0 0, .slice none 0 0] := (bxK B_r hp)
  have zp1 : ((w.alloc (.cells #[.bool (sgnZ z), .slice A1 (len (magZ z)) c1] 30)).alloc (.cells #[.bool false, .slice none 0 0, .slice none 0 0] 32)).heap.size ≤ p1.heap.size := (by rw [hp]; exact leA)
  clear hp O
  have O := O'
  clear O'
  refine (plain_to (by rw [decide_eq_false HD.out]) (isOne_any A2 c2 d l2 _ (Row.below (B := w.heap.size) h2 O (Nat.le_refl _)))).mono ?_
  rintro e w1 ⟨rfl, o1⟩
  replace B_x := Bx.old B_x o1
  replace B_r := Bx.old B_r o1
  replace O := Old.trans O o1
  have zw1 := o1.size
  obtain ⟨q_x_0, q_x_1, f_x_0, f_x_1, q_x⟩ := B_x.all2
  obtain ⟨q_r_0, q_r_1, q_r_2, f_r_0, f_r_1, f_r_2, q_r⟩ := B_r.all3
  go_wp2_with fail
  refine callsNamed ?_
  intro p2 hp
  clear q_x_0 q_x_1 f_x_0 f_x_1 q_x q_r_0 q_r_1 q_r_2 f_r_0 f_r_1 f_r_2 q_r
  have O' : Old w p2 := (by rw [hp]; exact Below.trans (b := w1) O oldA)
  replace B_x : Bx p2 (w.heap.size) #[.bool (sgnZ z), .slice A1 (len (magZ z)) c1] := (bxK B_x hp)
  replace B_r : Bx p2 (w.heap.size + 1) #[.bool false, .slice none 0 0, .slice none 0 0] := (bxK B_r hp)
  have zp2 : w1.heap.size ≤ p2.heap.size := (by rw [hp]; exact leA)
  clear hp O
  have O := O'
  clear O'
  refine (natGcd_any A1 A2 c1 c2 (magZ z) d l1 l2 _ (Row.below (B := w.heap.size) h1 O (Nat.le_refl _)) (Row.below (B := w.heap.size) h2 O (Nat.le_refl _)) (by omega) (by omega)).mono ?_
  rintro e w2 ⟨⟨A3, c3, he, r3⟩, o2⟩
  replace B_x := Bx.old B_x o2
  replace B_r := Bx.old B_r o2
  replace O := Old.trans O o2
  have zw2 := o2.size
  have lim_r3 := Row.lim r3
  rw [← HG.out] at he r3 lim_r3
  subst he
  have off3 := Row.off r3 B_x (no_int2 _ _ _ _)
  obtain ⟨q_x_0, q_x_1, f_x_0, f_x_1, q_x⟩ := B_x.all2
  obtain ⟨q_r_0, q_r_1, q_r_2, f_r_0, f_r_1, f_r_2, q_r⟩ := B_r.all3
  go_wp2_with fail
  refine callsNamed ?_
  intro p3 hp
  clear q_x_0 q_x_1 f_x_0 f_x_1 q_x q_r_0 q_r_1 q_r_2 f_r_0 f_r_1 f_r_2 q_r
  have O' : Old w p3 := (by rw [hp]; exact Below.trans (b := w2) O oldA)
  replace B_x : Bx p3 (w.heap.size) #[.bool (sgnZ z), .slice A1 (len (magZ z)) c1] := (bxK B_x hp)
  replace B_r : Bx p3 (w.heap.size + 1) #[.bool false, .slice none 0 0, .slice none 0 0] := (bxK B_r hp)
  replace r3 := rowK r3 hp
  have zp3 : w2.heap.size ≤ p3.heap.size := (by rw [hp]; exact leA)
  clear hp O
  have O := O'
  clear O'
  refine (plain_to (by rw [decide_eq_false HGE.out]) (isOne_any A3 c3 G _ _ r3)).mono ?_
  rintro e w3 ⟨rfl, o3⟩
  replace B_x := Bx.old B_x o3
  replace B_r := Bx.old B_r o3
  replace r3 := Row.below r3 o3 (Nat.le_refl _)
  replace O := Old.trans O o3
  have zw3 := o3.size
  obtain ⟨q_x_0, q_x_1, f_x_0, f_x_1, q_x⟩ := B_x.all2
  obtain ⟨q_r_0, q_r_1, q_r_2, f_r_0, f_r_1, f_r_2, q_r⟩ := B_r.all3
  go_wp2_with fail
  refine callsNamed ?_
  intro p4 hp
  clear q_x_0 q_x_1 f_x_0 f_x_1 q_x q_r_0 q_r_1 q_r_2 f_r_0 f_r_1 f_r_2 q_r
  have O' : Old w p4 := (by rw [hp]; exact Below.trans (b := w3) O oldA)
  replace B_x : Bx p4 (w.heap.size) #[.bool (sgnZ z), .slice A1 (len (magZ z)) c1] := (bxK B_x hp)
  replace B_r : Bx p4 (w.heap.size + 1) #[.bool false, .slice none 0 0, .slice none 0 0] := (bxK B_r hp)
  replace r3 := rowK r3 hp
  have zp4 : w3.heap.size ≤ p4.heap.size := (by rw [hp]; exact leA)
  clear hp O
  have O := O'
  clear O'
  refine (natDiv_q A1 A3 c1 c3 (magZ z) G l1 _ _ (Row.below (B := w.heap.size) h1 O (Nat.le_refl _)) r3 (by omega) (by omega) HGP.out).mono ?_
  rintro e w4 ⟨A7, c7, A8, n8, c8, he, r7, o4⟩
  replace B_x := Bx.old B_x o4
  replace B_r := Bx.old B_r o4
  replace r3 := Row.below r3 o4 (Nat.le_refl _)
  replace O := Old.trans O o4
  have zw4 := o4.size
  replace r7 := Row.more (lo' := p4.heap.size) r7 leA
  have lim_r7 := Row.lim r7
  rw [← HX.out] at he r7 lim_r7
  subst he
  obtain ⟨q_x_0, q_x_1, f_x_0, f_x_1, q_x⟩ := B_x.all2
  obtain ⟨q_r_0, q_r_1, q_r_2, f_r_0, f_r_1, f_r_2, q_r⟩ := B_r.all3
  go_wp2_with fail
  refine callsNamed ?_
  intro p5 hp
  clear q_x_0 q_x_1 f_x_0 f_x_1 q_x q_r_0 q_r_1 q_r_2 f_r_0 f_r_1 f_r_2 q_r
  have O' : Old w p5 := (by rw [hp]; exact Below.trans (b := w4) O oldA)
  replace B_x : Bx p5 (w.heap.size) #[.bool (sgnZ z), .slice A7 (len X) c7] := (by rw [hp]; repeat' (first | (with_reducible exact B_x) | (with_reducible refine Bx.alloc ?_ _) | (with_reducible refine Bx.drewN ?_ _) | (with_reducible refine Bx.drew ?_) | refine Bx.set (cs := #[.bool (sgnZ z), .slice A1 (len (magZ z)) c1]) ?_ 1 _ | refine Bx.far ?_ (by first | assumption | (simp <;> done) | (simp; omega) | omega) _))
  replace B_r : Bx p5 (w.heap.size + 1) #[.bool false, .slice none 0 0, .slice none 0 0] := (bxK B_r hp)
  replace r3 := rowK r3 hp
  replace r7 := rowK r7 hp
  have zp5 : w4.heap.size ≤ p5.heap.size := (by rw [hp]; exact leA)
  clear hp O
  have O := O'
  clear O'
  refine (natDiv_q A2 A3 c2 c3 d G l2 _ _ (Row.below (B := w.heap.size) h2 O (Nat.le_refl _)) r3 (by omega) (by omega) HGP.out).mono ?_
  rintro e w5 ⟨A9, c9, A0, n0, c0, he, r9, o5⟩
  replace B_x := Bx.old B_x o5
  replace B_r := Bx.old B_r o5
  replace r3 := Row.below r3 o5 (Nat.le_refl _)
  replace r7 := Row.below r7 o5 (Nat.le_refl _)
  replace O := Old.trans O o5
  have zw5 := o5.size
  replace r9 := Row.more (lo' := p5.heap.size) r9 leA
  have lim_r9 := Row.lim r9
  rw [← HY.out] at he r9 lim_r9
  subst he
  obtain ⟨q_x_0, q_x_1, f_x_0, f_x_1, q_x⟩ := B_x.all2
  obtain ⟨q_r_0, q_r_1, q_r_2, f_r_0, f_r_1, f_r_2, q_r⟩ := B_r.all3
  go_wp2_with fail
  refine callsNamed ?_
  intro p6 hp
  clear q_x_0 q_x_1 f_x_0 f_x_1 q_x q_r_0 q_r_1 q_r_2 f_r_0 f_r_1 f_r_2 q_r
  have O' : Old w p6 := (by rw [hp]; exact Below.trans (b := w5) O oldA)
  replace B_x : Bx p6 (w.heap.size) #[.bool (sgnZ z), .slice A7 (len X) c7] := (bxK B_x hp)
  replace B_r : Bx p6 (w.heap.size + 1) #[.bool false, .slice none 0 0, .slice none 0 0] := (bxK B_r hp)
  replace r3 := rowK r3 hp
  replace r7 := rowK r7 hp
  replace r9 := rowK r9 hp
  have zp6 : w5.heap.size ≤ p6.heap.size := (by rw [hp]; exact leA)
  clear hp O
  have O := O'
  clear O'
  refine (retB_to Hq.out (ownBig_any (sgnZ z) A7 c7 X _ _ r7 HPS.out (by omega))).mono ?_
  rintro e w6 ⟨⟨A5, c5, rfl, r5⟩, o6⟩
  replace B_x := Bx.old B_x o6
  replace B_r := Bx.old B_r o6
  replace r3 := Row.below r3 o6 (Nat.le_refl _)
  replace r7 := Row.below r7 o6 (Nat.le_refl _)
  replace r9 := Row.below r9 o6 (Nat.le_refl _)
  replace O := Old.trans O o6
  have zw6 := o6.size
  replace r5 := Row.more (lo' := p6.heap.size) r5 leA
  have lim_r5 := Row.lim r5
  obtain ⟨q_x_0, q_x_1, f_x_0, f_x_1, q_x⟩ := B_x.all2
  obtain ⟨q_r_0, q_r_1, q_r_2, f_r_0, f_r_1, f_r_2, q_r⟩ := B_r.all3
  go_wp2_with fail
  refine callsNamed ?_
  intro p7 hp
  clear q_x_0 q_x_1 f_x_0 f_x_1 q_x q_r_0 q_r_1 q_r_2 f_r_0 f_r_1 f_r_2 q_r
  have O' : Old w p7 := (by rw [hp]; exact Below.trans (b := w6) O oldA)
  replace B_x : Bx p7 (w.heap.size) #[.bool (sgnZ z), .slice A7 (len X) c7] := (bxK B_x hp)
  replace B_r : Bx p7 (w.heap.size + 1) #[.bool false, .slice none 0 0, .slice none 0 0] := (bxK B_r hp)
  replace r3 := rowK r3 hp
  replace r7 := rowK r7 hp
  replace r9 := rowK r9 hp
  replace r5 := rowK r5 hp
  have zp7 : w6.heap.size ≤ p7.heap.size := (by rw [hp]; exact leA)
  clear hp O
  have O := O'
  clear O'
  refine (clone_any A9 (len Y) c9 _ (digI Y) _ r9 (by omega)).mono ?_
  rintro e w7 ⟨A6, c6, rfl, r6, o7⟩
  replace B_x := Bx.old B_x o7
  replace B_r := Bx.old B_r o7
  replace r3 := Row.below r3 o7 (Nat.le_refl _)
  replace r7 := Row.below r7 o7 (Nat.le_refl _)
  replace r9 := Row.below r9 o7 (Nat.le_refl _)
  replace r5 := Row.below r5 o7 (Nat.le_refl _)
  replace O := Old.trans O o7
  have zw7 := o7.size
  replace r6 := Row.more (lo' := p7.heap.size) r6 leA
  have lim_r6 := Row.lim r6
  obtain ⟨q_x_0, q_x_1, f_x_0, f_x_1, q_x⟩ := B_x.all2
  obtain ⟨q_r_0, q_r_1, q_r_2, f_r_0, f_r_1, f_r_2, q_r⟩ := B_r.all3
  have AP := Apart.of lim_r5 r6 (by omega)
  have AP' := Lib.hid AP
  clear AP
  go_wp2
  refine bodyPost_ret (v := .agg #[.bool (sgnZ q), .slice A5 (len (magZ q)) c5, .slice A6 (len Y) c6]) (by simp [results, Try.results54, go_sem, q_r_0, q_r_1, q_r_2]) rfl ⟨⟨q, Y, A5, c5, A6, c6, Hv.out, rfl, ?_, ?_, AP'.out⟩, ?_⟩
  · refine Row.more (lo := p6.heap.size) ?_ leA
    repeat' (first | exact r5 | refine Row.far_set ?_ (by first | (simp <;> done) | (simp; omega) | omega) _)
  · refine Row.more (lo := p7.heap.size) ?_ leA
    repeat' (first | exact r6 | refine Row.far_set ?_ (by first | (simp <;> done) | (simp; omega) | omega) _)
  · exact Below.trans (b := w7) O oldA
set_option maxRecDepth 100000 in
set_option maxHeartbeats 1000000 in
theorem ratMake_red_longx (z : Int) (d : Nat) (A1 A2 : Option Addr) (c1 c2 l1 l2 : Nat) (w : World) (h1 : NatS w l1 A1 c1 (magZ z)) (h2 : NatS w l2 A2 c2 d) (hx : len (magZ z) ≤ 100) (hy : len d ≤ 100) (hp : 0 < d) (h1' : d ≠ 1) (hg : Nat.gcd (magZ z) d ≠ 1) (hf1 : ¬ len (magZ z / Nat.gcd (magZ z) d) ≤ 24) :
    Calls Try.prog 54 #[.agg #[.bool (sgnZ z), .slice A1 (len (magZ z)) c1], .slice A2 (len d) c2] w fun e w' => RetR e w' w.heap.size ((0, 0)) ∧ Old w w' := by
  have HD := Lib.hid h1'
  obtain ⟨G, hG⟩ : ∃ G, G = Nat.gcd (magZ z) d := ⟨_, rfl⟩
  have hps : sgnZ z = true → 0 < magZ z / Nat.gcd (magZ z) d := quo_pos
  rw [← hG] at hg hps
  have hGp : 0 < G := by rw [hG]; exact gcd_pos hp
  have hGl : len G ≤ 100 := by rw [hG]; exact gcd_len hx hy
  have HGE := Lib.hid hg
  have HGP := Lib.hid hGp
  obtain ⟨X, hX⟩ : ∃ X, X = magZ z / G := ⟨_, rfl⟩
  obtain ⟨Y, hY⟩ : ∃ Y, Y = d / G := ⟨_, rfl⟩
  rw [← hX] at hps
  have HPS := Lib.hid hps
  clear hps
  have hXl : len X ≤ 100 := by rw [hX]; have := quo_len (magZ z) G; omega
  have hYl : len Y ≤ 100 := by rw [hY]; have := quo_len d G; omega
  have HX := Lib.hid hX
  have HY := Lib.hid hY
  rw [← hG, ← hX] at hf1
  have t1 : (24 : Int) < ((len X : Nat) : Int) := by omega
  have HG := Lib.hid hG
  clear hG h1' hg hGp hp hX hY
  have O : Old w ((w.alloc (.cells #[.bool (sgnZ z), .slice A1 (len (magZ z)) c1] 30)).alloc (.cells #[.bool false, .slice none 0 0, .slice none 0 0] 32)) := oldA
  have B_x : Bx ((w.alloc (.cells #[.bool (sgnZ z), .slice A1 (len (magZ z)) c1] 30)).alloc (.cells #[.bool false, .slice none 0 0, .slice none 0 0] 32)) (w.heap.size) #[.bool (sgnZ z), .slice A1 (len (magZ z)) c1] := by have h := (Bx.alloc (Bx.new w #[.bool (sgnZ z), .slice A1 (len (magZ z)) c1] 30) (.cells #[.bool false, .slice none 0 0, .slice none 0 0] 32)); simpa using h
  have B_r : Bx ((w.alloc (.cells #[.bool (sgnZ z), .slice A1 (len (magZ z)) c1] 30)).alloc (.cells #[.bool false, .slice none 0 0, .slice none 0 0] 32)) (w.heap.size + 1) #[.bool false, .slice none 0 0, .slice none 0 0] := by have h := (Bx.new (w.alloc (.cells #[.bool (sgnZ z), .slice A1 (len (magZ z)) c1] 30)) #[.bool false, .slice none 0 0, .slice none 0 0] 32); simpa using h
  have ne_0_1 : ¬ (w.heap.size = w.heap.size + 1) := by omega
  have ne_1_0 : ¬ (w.heap.size + 1 = w.heap.size) := by omega
  have ze : w.heap.size + 2 ≤ ((w.alloc (.cells #[.bool (sgnZ z), .slice A1 (len (magZ z)) c1] 30)).alloc (.cells #[.bool false, .slice none 0 0, .slice none 0 0] 32)).heap.size := (by simp)
  go_enter Try.func54, Try.ntmps54
  go_wp2_with fail
  refine callsNamed ?_
  intro p1 hp
  have O' : Old w p1 := (by rw [hp]; exact Below.trans (b := ((w.alloc (.cells #[.bool (sgnZ z), .slice A1 (len (magZ z)) c1] 30)).alloc (.cells #[.bool false, .slice none 0 0, .slice none 0 0] 32))) O oldA)
  replace B_x : Bx p1 (w.heap.size) #[.bool (sgnZ z), .slice A1 (len (magZ z)) c1] := (bxK B_x hp)
  replace B_r : Bx p1 (w.heap.size + 1) #[.bool false, .slice none 0 0, .slice none 0 0] := (bxK B_r hp)
  have zp1 : ((w.alloc (.cells #[.bool (sgnZ z), .slice A1 (len (magZ z)) c1] 30)).alloc (.cells #[.bool false, .slice none 0 0, .slice none 0 0] 32)).heap.size ≤ p1.heap.size := (by rw [hp]; exact leA)
  clear hp O
  have O := O'
  clear O'
  refine (plain_to (by rw [decide_eq_false HD.out]) (isOne_any A2 c2 d l2 _ (Row.below (B := w.heap.size) h2 O (Nat.le_refl _)))).mono ?_
  rintro e w1 ⟨rfl, o1⟩
  replace B_x := Bx.old B_x o1
  replace B_r := Bx.old B_r o1
  replace O := Old.trans O o1
  have zw1 := o1.size
  obtain ⟨q_x_0, q_x_1, f_x_0, f_x_1, q_x⟩ := B_x.all2
  obtain ⟨q_r_0, q_r_1, q_r_2, f_r_0, f_r_1, f_r_2, q_r⟩ := B_r.all3
  go_wp2_with fail
  refine callsNamed ?_
  intro p2 hp
  clear q_x_0 q_x_1 f_x_0 f_x_1 q_x q_r_0 q_r_1 q_r_2 f_r_0 f_r_1 f_r_2 q_r
  have O' : Old w p2 := (by rw [hp]; exact Below.trans (b := w1) O oldA)
  replace B_x : Bx p2 (w.heap.size) #[.bool (sgnZ z), .slice A1 (len (magZ z)) c1] := (bxK B_x hp)
  replace B_r : Bx p2 (w.heap.size + 1) #[.bool false, .slice none 0 0, .slice none 0 0] := (bxK B_r hp)
  have zp2 : w1.heap.size ≤ p2.heap.size := (by rw [hp]; exact leA)
  clear hp O
  have O := O'
  clear O'
  refine (natGcd_any A1 A2 c1 c2 (magZ z) d l1 l2 _ (Row.below (B := w.heap.size) h1 O (Nat.le_refl _)) (Row.below (B := w.heap.size) h2 O (Nat.le_refl _)) (by omega) (by omega)).mono ?_
  rintro e w2 ⟨⟨A3, c3, he, r3⟩, o2⟩
  replace B_x := Bx.old B_x o2
  replace B_r := Bx.old B_r o2
  replace O := Old.trans O o2
  have zw2 := o2.size
  have lim_r3 := Row.lim r3
  rw [← HG.out] at he r3 lim_r3
  subst he
  have off3 := Row.off r3 B_x (no_int2 _ _ _ _)
  obtain ⟨q_x_0, q_x_1, f_x_0, f_x_1, q_x⟩ := B_x.all2
  obtain ⟨q_r_0, q_r_1, q_r_2, f_r_0, f_r_1, f_r_2, q_r⟩ := B_r.all3
  go_wp2_with fail
  refine callsNamed ?_
  intro p3 hp
  clear q_x_0 q_x_1 f_x_0 f_x_1 q_x q_r_0 q_r_1 q_r_2 f_r_0 f_r_1 f_r_2 q_r
  have O' : Old w p3 := (by rw [hp]; exact Below.trans (b := w2) O oldA)
  replace B_x : Bx p3 (w.heap.size) #[.bool (sgnZ z), .slice A1 (len (magZ z)) c1] := (bxK B_x hp)
  replace B_r : Bx p3 (w.heap.size + 1) #[.bool false, .slice none 0 0, .slice none 0 0] := (bxK B_r hp)
  replace r3 := rowK r3 hp
  have zp3 : w2.heap.size ≤ p3.heap.size := (by rw [hp]; exact leA)
  clear hp O
  have O := O'
  clear O'
  refine (plain_to (by rw [decide_eq_false HGE.out]) (isOne_any A3 c3 G _ _ r3)).mono ?_
  rintro e w3 ⟨rfl, o3⟩
  replace B_x := Bx.old B_x o3
  replace B_r := Bx.old B_r o3
  replace r3 := Row.below r3 o3 (Nat.le_refl _)
  replace O := Old.trans O o3
  have zw3 := o3.size
  obtain ⟨q_x_0, q_x_1, f_x_0, f_x_1, q_x⟩ := B_x.all2
  obtain ⟨q_r_0, q_r_1, q_r_2, f_r_0, f_r_1, f_r_2, q_r⟩ := B_r.all3
  go_wp2_with fail
  refine callsNamed ?_
  intro p4 hp
  clear q_x_0 q_x_1 f_x_0 f_x_1 q_x q_r_0 q_r_1 q_r_2 f_r_0 f_r_1 f_r_2 q_r
  have O' : Old w p4 := (by rw [hp]; exact Below.trans (b := w3) O oldA)
  replace B_x : Bx p4 (w.heap.size) #[.bool (sgnZ z), .slice A1 (len (magZ z)) c1] := (bxK B_x hp)
  replace B_r : Bx p4 (w.heap.size + 1) #[.bool false, .slice none 0 0, .slice none 0 0] := (bxK B_r hp)
  replace r3 := rowK r3 hp
  have zp4 : w3.heap.size ≤ p4.heap.size := (by rw [hp]; exact leA)
  clear hp O
  have O := O'
  clear O'
  refine (natDiv_q A1 A3 c1 c3 (magZ z) G l1 _ _ (Row.below (B := w.heap.size) h1 O (Nat.le_refl _)) r3 (by omega) (by omega) HGP.out).mono ?_
  rintro e w4 ⟨A7, c7, A8, n8, c8, he, r7, o4⟩
  replace B_x := Bx.old B_x o4
  replace B_r := Bx.old B_r o4
  replace r3 := Row.below r3 o4 (Nat.le_refl _)
  replace O := Old.trans O o4
  have zw4 := o4.size
  replace r7 := Row.more (lo' := p4.heap.size) r7 leA
  have lim_r7 := Row.lim r7
  rw [← HX.out] at he r7 lim_r7
  subst he
  obtain ⟨q_x_0, q_x_1, f_x_0, f_x_1, q_x⟩ := B_x.all2
  obtain ⟨q_r_0, q_r_1, q_r_2, f_r_0, f_r_1, f_r_2, q_r⟩ := B_r.all3
  go_wp2_with fail
  refine callsNamed ?_
  intro p5 hp
  clear q_x_0 q_x_1 f_x_0 f_x_1 q_x q_r_0 q_r_1 q_r_2 f_r_0 f_r_1 f_r_2 q_r
  have O' : Old w p5 := (by rw [hp]; exact Below.trans (b := w4) O oldA)
  replace B_x : Bx p5 (w.heap.size) #[.bool (sgnZ z), .slice A7 (len X) c7] := (by rw [hp]; repeat' (first | (with_reducible exact B_x) | (with_reducible refine Bx.alloc ?_ _) | (with_reducible refine Bx.drewN ?_ _) | (with_reducible refine Bx.drew ?_) | refine Bx.set (cs := #[.bool (sgnZ z), .slice A1 (len (magZ z)) c1]) ?_ 1 _ | refine Bx.far ?_ (by first | assumption | (simp <;> done) | (simp; omega) | omega) _))
  replace B_r : Bx p5 (w.heap.size + 1) #[.bool false, .slice none 0 0, .slice none 0 0] := (bxK B_r hp)
  replace r3 := rowK r3 hp
  replace r7 := rowK r7 hp
  have zp5 : w4.heap.size ≤ p5.heap.size := (by rw [hp]; exact leA)
  clear hp O
  have O := O'
  clear O'
  refine (natDiv_q A2 A3 c2 c3 d G l2 _ _ (Row.below (B := w.heap.size) h2 O (Nat.le_refl _)) r3 (by omega) (by omega) HGP.out).mono ?_
  rintro e w5 ⟨A9, c9, A0, n0, c0, he, r9, o5⟩
  replace B_x := Bx.old B_x o5
  replace B_r := Bx.old B_r o5
  replace r3 := Row.below r3 o5 (Nat.le_refl _)
  replace r7 := Row.below r7 o5 (Nat.le_refl _)
  replace O := Old.trans O o5
  have zw5 := o5.size
  replace r9 := Row.more (lo' := p5.heap.size) r9 leA
  have lim_r9 := Row.lim r9
  rw [← HY.out] at he r9 lim_r9
  subst he
  obtain ⟨q_x_0, q_x_1, f_x_0, f_x_1, q_x⟩ := B_x.all2
  obtain ⟨q_r_0, q_r_1, q_r_2, f_r_0, f_r_1, f_r_2, q_r⟩ := B_r.all3
  go_wp2
  refine bodyPost_ret (v := .agg #[.bool false, .slice none 0 0, .slice none 0 0]) (by simp [results, Try.results54, go_sem, q_r_0, q_r_1, q_r_2]) rfl ⟨RetR.zero rfl, Below.trans (b := w5) O oldA⟩
set_option maxRecDepth 100000 in
set_option maxHeartbeats 1000000 in
theorem ratMake_red_longy (z : Int) (d : Nat) (A1 A2 : Option Addr) (c1 c2 l1 l2 : Nat) (w : World) (h1 : NatS w l1 A1 c1 (magZ z)) (h2 : NatS w l2 A2 c2 d) (hx : len (magZ z) ≤ 100) (hy : len d ≤ 100) (hp : 0 < d) (h1' : d ≠ 1) (hg : Nat.gcd (magZ z) d ≠ 1) (hf1 : len (magZ z / Nat.gcd (magZ z) d) ≤ 24) (hf2 : ¬ len (d / Nat.gcd (magZ z) d) ≤ 24) :
    Calls Try.prog 54 #[.agg #[.bool (sgnZ z), .slice A1 (len (magZ z)) c1], .slice A2 (len d) c2] w fun e w' => RetR e w' w.heap.size ((0, 0)) ∧ Old w w' := by
  have HD := Lib.hid h1'
  obtain ⟨G, hG⟩ : ∃ G, G = Nat.gcd (magZ z) d := ⟨_, rfl⟩
  have hps : sgnZ z = true → 0 < magZ z / Nat.gcd (magZ z) d := quo_pos
  rw [← hG] at hg hps
  have hGp : 0 < G := by rw [hG]; exact gcd_pos hp
  have hGl : len G ≤ 100 := by rw [hG]; exact gcd_len hx hy
  have HGE := Lib.hid hg
  have HGP := Lib.hid hGp
  obtain ⟨X, hX⟩ : ∃ X, X = magZ z / G := ⟨_, rfl⟩
  obtain ⟨Y, hY⟩ : ∃ Y, Y = d / G := ⟨_, rfl⟩
  rw [← hX] at hps
  have HPS := Lib.hid hps
  clear hps
  have hXl : len X ≤ 100 := by rw [hX]; have := quo_len (magZ z) G; omega
  have hYl : len Y ≤ 100 := by rw [hY]; have := quo_len d G; omega
  have HX := Lib.hid hX
  have HY := Lib.hid hY
  rw [← hG, ← hX] at hf1
  rw [← hG, ← hY] at hf2
  have t1 : ¬ (24 : Int) < ((len X : Nat) : Int) := by omega
  have t2 : (24 : Int) < ((len Y : Nat) : Int) := by omega
  have HG := Lib.hid hG
  clear hG h1' hg hGp hp hX hY
  have O : Old w ((w.alloc (.cells #[.bool (sgnZ z), .slice A1 (len (magZ z)) c1] 30)).alloc (.cells #[.bool false, .slice none 0 0, .slice none 0 0] 32)) := oldA
  have B_x : Bx ((w.alloc (.cells #[.bool (sgnZ z), .slice A1 (len (magZ z)) c1] 30)).alloc (.cells #[.bool false, .slice none 0 0, .slice none 0 0] 32)) (w.heap.size) #[.bool (sgnZ z), .slice A1 (len (magZ z)) c1] := by have h := (Bx.alloc (Bx.new w #[.bool (sgnZ z), .slice A1 (len (magZ z)) c1] 30) (.cells #[.bool false, .slice none 0 0, .slice none 0 0] 32)); simpa using h
  have B_r : Bx ((w.alloc (.cells #[.bool (sgnZ z), .slice A1 (len (magZ z)) c1] 30)).alloc (.cells #[.bool false, .slice none 0 0, .slice none 0 0] 32)) (w.heap.size + 1) #[.bool false, .slice none 0 0, .slice none 0 0] := by have h := (Bx.new (w.alloc (.cells #[.bool (sgnZ z), .slice A1 (len (magZ z)) c1] 30)) #[.bool false, .slice none 0 0, .slice none 0 0] 32); simpa using h
  have ne_0_1 : ¬ (w.heap.size = w.heap.size + 1) := by omega
  have ne_1_0 : ¬ (w.heap.size + 1 = w.heap.size) := by omega
  have ze : w.heap.size + 2 ≤ ((w.alloc (.cells #[.bool (sgnZ z), .slice A1 (len (magZ z)) c1] 30)).alloc (.cells #[.bool false, .slice none 0 0, .slice none 0 0] 32)).heap.size := (by simp)
  go_enter Try.func54, Try.ntmps54
  go_wp2_with fail
  refine callsNamed ?_
  intro p1 hp
  have O' : Old w p1 := (by rw [hp]; exact Below.trans (b := ((w.alloc (.cells #[.bool (sgnZ z), .slice A1 (len (magZ z)) c1] 30)).alloc (.cells #[.bool false, .slice none 0 0, .slice none 0 0] 32))) O oldA)
  replace B_x : Bx p1 (w.heap.size) #[.bool (sgnZ z), .slice A1 (len (magZ z)) c1] := (bxK B_x hp)
  replace B_r : Bx p1 (w.heap.size + 1) #[.bool false, .slice none 0 0, .slice none 0 0] := (bxK B_r hp)
  have zp1 : ((w.alloc (.cells #[.bool (sgnZ z), .slice A1 (len (magZ z)) c1] 30)).alloc (.cells #[.bool false, .slice none 0 0, .slice none 0 0] 32)).heap.size ≤ p1.heap.size := (by rw [hp]; exact leA)
  clear hp O
  have O := O'
  clear O'
  refine (plain_to (by rw [decide_eq_false HD.out]) (isOne_any A2 c2 d l2 _ (Row.below (B := w.heap.size) h2 O (Nat.le_refl _)))).mono ?_
  rintro e w1 ⟨rfl, o1⟩
  replace B_x := Bx.old B_x o1
  replace B_r := Bx.old B_r o1
  replace O := Old.trans O o1
  have zw1 := o1.size
  obtain ⟨q_x_0, q_x_1, f_x_0, f_x_1, q_x⟩ := B_x.all2
  obtain ⟨q_r_0, q_r_1, q_r_2, f_r_0, f_r_1, f_r_2, q_r⟩ := B_r.all3
  go_wp2_with fail
  refine callsNamed ?_
  intro p2 hp
  clear q_x_0 q_x_1 f_x_0 f_x_1 q_x q_r_0 q_r_1 q_r_2 f_r_0 f_r_1 f_r_2 q_r
  have O' : Old w p2 := (by rw [hp]; exact Below.trans (b := w1) O oldA)
  replace B_x : Bx p2 (w.heap.size) #[.bool (sgnZ z), .slice A1 (len (magZ z)) c1] := (bxK B_x hp)
  replace B_r : Bx p2 (w.heap.size + 1) #[.bool false, .slice none 0 0, .slice none 0 0] := (bxK B_r hp)
  have zp2 : w1.heap.size ≤ p2.heap.size := (by rw [hp]; exact leA)
  clear hp O
  have O := O'
  clear O'
  refine (natGcd_any A1 A2 c1 c2 (magZ z) d l1 l2 _ (Row.below (B := w.heap.size) h1 O (Nat.le_refl _)) (Row.below (B := w.heap.size) h2 O (Nat.le_refl _)) (by omega) (by omega)).mono ?_
  rintro e w2 ⟨⟨A3, c3, he, r3⟩, o2⟩
  replace B_x := Bx.old B_x o2
  replace B_r := Bx.old B_r o2
  replace O := Old.trans O o2
  have zw2 := o2.size
  have lim_r3 := Row.lim r3
  rw [← HG.out] at he r3 lim_r3
  subst he
  have off3 := Row.off r3 B_x (no_int2 _ _ _ _)
  obtain ⟨q_x_0, q_x_1, f_x_0, f_x_1, q_x⟩ := B_x.all2
  obtain ⟨q_r_0, q_r_1, q_r_2, f_r_0, f_r_1, f_r_2, q_r⟩ := B_r.all3
  go_wp2_with fail
  refine callsNamed ?_
  intro p3 hp
  clear q_x_0 q_x_1 f_x_0 f_x_1 q_x q_r_0 q_r_1 q_r_2 f_r_0 f_r_1 f_r_2 q_r
  have O' : Old w p3 := (by rw [hp]; exact Below.trans (b := w2) O oldA)
  replace B_x : Bx p3 (w.heap.size) #[.bool (sgnZ z), .slice A1 (len (magZ z)) c1] := (bxK B_x hp)
  replace B_r : Bx p3 (w.heap.size + 1) #[.bool false, .slice none 0 0, .slice none 0 0] := (bxK B_r hp)
  replace r3 := rowK r3 hp
  have zp3 : w2.heap.size ≤ p3.heap.size := (by rw [hp]; exact leA)
  clear hp O
  have O := O'
  clear O'
  refine (plain_to (by rw [decide_eq_false HGE.out]) (isOne_any A3 c3 G _ _ r3)).mono ?_
  rintro e w3 ⟨rfl, o3⟩
  replace B_x := Bx.old B_x o3
  replace B_r := Bx.old B_r o3
  replace r3 := Row.below r3 o3 (Nat.le_refl _)
  replace O := Old.trans O o3
  have zw3 := o3.size
  obtain ⟨q_x_0, q_x_1, f_x_0, f_x_1, q_x⟩ := B_x.all2
  obtain ⟨q_r_0, q_r_1, q_r_2, f_r_0, f_r_1, f_r_2, q_r⟩ := B_r.all3
  go_wp2_with fail
  refine callsNamed ?_
  intro p4 hp
  clear q_x_0 q_x_1 f_x_0 f_x_1 q_x q_r_0 q_r_1 q_r_2 f_r_0 f_r_1 f_r_2 q_r
  have O' : Old w p4 := (by rw [hp]; exact Below.trans (b := w3) O oldA)
  replace B_x : Bx p4 (w.heap.size) #[.bool (sgnZ z), .slice A1 (len (magZ z)) c1] := (bxK B_x hp)
  replace B_r : Bx p4 (w.heap.size + 1) #[.bool false, .slice none 0 0, .slice none 0 0] := (bxK B_r hp)
  replace r3 := rowK r3 hp
  have zp4 : w3.heap.size ≤ p4.heap.size := (by rw [hp]; exact leA)
  clear hp O
  have O := O'
  clear O'
  refine (natDiv_q A1 A3 c1 c3 (magZ z) G l1 _ _ (Row.below (B := w.heap.size) h1 O (Nat.le_refl _)) r3 (by omega) (by omega) HGP.out).mono ?_
  rintro e w4 ⟨A7, c7, A8, n8, c8, he, r7, o4⟩
  replace B_x := Bx.old B_x o4
  replace B_r := Bx.old B_r o4
  replace r3 := Row.below r3 o4 (Nat.le_refl _)
  replace O := Old.trans O o4
  have zw4 := o4.size
  replace r7 := Row.more (lo' := p4.heap.size) r7 leA
  have lim_r7 := Row.lim r7
  rw [← HX.out] at he r7 lim_r7
  subst he
  obtain ⟨q_x_0, q_x_1, f_x_0, f_x_1, q_x⟩ := B_x.all2
  obtain ⟨q_r_0, q_r_1, q_r_2, f_r_0, f_r_1, f_r_2, q_r⟩ := B_r.all3
  go_wp2_with fail
  refine callsNamed ?_
  intro p5 hp
  clear q_x_0 q_x_1 f_x_0 f_x_1 q_x q_r_0 q_r_1 q_r_2 f_r_0 f_r_1 f_r_2 q_r
  have O' : Old w p5 := (by rw [hp]; exact Below.trans (b := w4) O oldA)
  replace B_x : Bx p5 (w.heap.size) #[.bool (sgnZ z), .slice A7 (len X) c7] := (by rw [hp]; repeat' (first | (with_reducible exact B_x) | (with_reducible refine Bx.alloc ?_ _) | (with_reducible refine Bx.drewN ?_ _) | (with_reducible refine Bx.drew ?_) | refine Bx.set (cs := #[.bool (sgnZ z), .slice A1 (len (magZ z)) c1]) ?_ 1 _ | refine Bx.far ?_ (by first | assumption | (simp <;> done) | (simp; omega) | omega) _))
  replace B_r : Bx p5 (w.heap.size + 1) #[.bool false, .slice none 0 0, .slice none 0 0] := (bxK B_r hp)
  replace r3 := rowK r3 hp
  replace r7 := rowK r7 hp
  have zp5 : w4.heap.size ≤ p5.heap.size := (by rw [hp]; exact leA)
  clear hp O
  have O := O'
  clear O'
  refine (natDiv_q A2 A3 c2 c3 d G l2 _ _ (Row.below (B := w.heap.size) h2 O (Nat.le_refl _)) r3 (by omega) (by omega) HGP.out).mono ?_
  rintro e w5 ⟨A9, c9, A0, n0, c0, he, r9, o5⟩
  replace B_x := Bx.old B_x o5
  replace B_r := Bx.old B_r o5
  replace r3 := Row.below r3 o5 (Nat.le_refl _)
  replace r7 := Row.below r7 o5 (Nat.le_refl _)
  replace O := Old.trans O o5
  have zw5 := o5.size
  replace r9 := Row.more (lo' := p5.heap.size) r9 leA
  have lim_r9 := Row.lim r9
  rw [← HY.out] at he r9 lim_r9
  subst he
  obtain ⟨q_x_0, q_x_1, f_x_0, f_x_1, q_x⟩ := B_x.all2
  obtain ⟨q_r_0, q_r_1, q_r_2, f_r_0, f_r_1, f_r_2, q_r⟩ := B_r.all3
  go_wp2
  refine bodyPost_ret (v := .agg #[.bool false, .slice none 0 0, .slice none 0 0]) (by simp [results, Try.results54, go_sem, q_r_0, q_r_1, q_r_2]) rfl ⟨RetR.zero rfl, Below.trans (b := w5) O oldA⟩
theorem ratMake_any (z : Int) (d : Nat) (A1 A2 : Option Addr) (c1 c2 l1 l2 : Nat) (w : World) (h1 : NatS w l1 A1 c1 (magZ z)) (h2 : NatS w l2 A2 c2 d) (hx : len (magZ z) ≤ 100) (hy : len d ≤ 100) (hp : 0 < d) :
    Calls Try.prog 54 #[.agg #[.bool (sgnZ z), .slice A1 (len (magZ z)) c1], .slice A2 (len d) c2] w fun e w' => RetR e w' w.heap.size (mkF z d) ∧ Old w w' := by
  by_cases h1' : d = 1
  · by_cases hf : len (magZ z) ≤ 24
    · exact ratMake_one_fit z d A1 A2 c1 c2 l1 l2 w h1 h2 hx hy hp h1' hf
    · rw [mkF_no (fun h => hf (by have := h.1; rwa [h1', Nat.gcd_one_right, Nat.div_one] at this))]
      exact ratMake_one_longx z d A1 A2 c1 c2 l1 l2 w h1 h2 hx hy hp h1' hf
  · by_cases hg : Nat.gcd (magZ z) d = 1
    · by_cases hf : len (magZ z) ≤ 24
      · by_cases hf2 : len d ≤ 24
        · exact ratMake_low_fit z d A1 A2 c1 c2 l1 l2 w h1 h2 hx hy hp h1' hg hf hf2
        · rw [mkF_no (fun h => hf2 (by have := h.2; rwa [hg, Nat.div_one] at this))]
          exact ratMake_low_longy z d A1 A2 c1 c2 l1 l2 w h1 h2 hx hy hp h1' hg hf hf2
      · rw [mkF_no (fun h => hf (by have := h.1; rwa [hg, Nat.div_one] at this))]
        exact ratMake_low_longx z d A1 A2 c1 c2 l1 l2 w h1 h2 hx hy hp h1' hg hf
    · by_cases hf : len (magZ z / Nat.gcd (magZ z) d) ≤ 24
      · by_cases hf2 : len (d / Nat.gcd (magZ z) d) ≤ 24
        · exact ratMake_red_fit z d A1 A2 c1 c2 l1 l2 w h1 h2 hx hy hp h1' hg hf hf2
        · rw [mkF_no (fun h => hf2 h.2)]
          exact ratMake_red_longy z d A1 A2 c1 c2 l1 l2 w h1 h2 hx hy hp h1' hg hf hf2
      · rw [mkF_no (fun h => hf h.1)]
        exact ratMake_red_longx z d A1 A2 c1 c2 l1 l2 w h1 h2 hx hy hp h1' hg hf
set_option maxRecDepth 100000 in
set_option maxHeartbeats 1000000 in
theorem ratNeg_any (z1 : Int) (d1 : Nat) (A1 D1 : Option Addr) (c1 e1 l1 m1 : Nat) (w : World) (h1 : NatS w l1 A1 c1 (magZ z1)) :
    Calls Try.prog 50 #[.agg #[.bool (sgnZ z1), .slice A1 (len (magZ z1)) c1, .slice D1 (len d1) e1]] w fun e w' => e = .returned (.agg #[.bool (sgnZ (-z1)), .slice A1 (len (magZ z1)) c1, .slice D1 (len d1) e1]) ∧ Old w w' := by
  have HN := Lib.hid (neg_sgn z1)
  have O : Old w ((w.alloc (.cells #[.bool (sgnZ z1), .slice A1 (len (magZ z1)) c1, .slice D1 (len d1) e1] 32)).alloc (.cells #[.bool false, .slice none 0 0, .slice none 0 0] 32)) := oldA
  have B_x : Bx ((w.alloc (.cells #[.bool (sgnZ z1), .slice A1 (len (magZ z1)) c1, .slice D1 (len d1) e1] 32)).alloc (.cells #[.bool false, .slice none 0 0, .slice none 0 0] 32)) (w.heap.size) #[.bool (sgnZ z1), .slice A1 (len (magZ z1)) c1, .slice D1 (len d1) e1] := by have h := (Bx.alloc (Bx.new w #[.bool (sgnZ z1), .slice A1 (len (magZ z1)) c1, .slice D1 (len d1) e1] 32) (.cells #[.bool false, .slice none 0 0, .slice none 0 0] 32)); simpa using h
  have B_r : Bx ((w.alloc (.cells #[.bool (sgnZ z1), .slice A1 (len (magZ z1)) c1, .slice D1 (len d1) e1] 32)).alloc (.cells #[.bool false, .slice none 0 0, .slice none 0 0] 32)) (w.heap.size + 1) #[.bool false, .slice none 0 0, .slice none 0 0] := by have h := (Bx.new (w.alloc (.cells #[.bool (sgnZ z1), .slice A1 (len (magZ z1)) c1, .slice D1 (len d1) e1] 32)) #[.bool false, .slice none 0 0, .slice none 0 0] 32); simpa using h
  have ne_0_1 : ¬ (w.heap.size = w.heap.size + 1) := by omega
  have ne_1_0 : ¬ (w.heap.size + 1 = w.heap.size) := by omega
  have ze : w.heap.size + 2 ≤ ((w.alloc (.cells #[.bool (sgnZ z1), .slice A1 (len (magZ z1)) c1, .slice D1 (len d1) e1] 32)).alloc (.cells #[.bool false, .slice none 0 0, .slice none 0 0] 32)).heap.size := (by simp)
  go_enter Try.func50, Try.ntmps50
  go_wp2_with fail
  go_region_held3 (fun w' => w'.cell? ⟨w.heap.size, 0, none⟩ = some (.bool (sgnZ z1)) ∧ w'.cell? ⟨w.heap.size, 1, none⟩ = some (.slice A1 (len (magZ z1)) c1) ∧ w'.cell? ⟨w.heap.size, 2, none⟩ = some (.slice D1 (len d1) e1)) (go_keep)
    (first
     | (go_at_call 69; refine callsNamed ?_; intro p1 hp; have O' : Old w p1 := (by rw [hp]; exact Below.trans (b := ((w.alloc (.cells #[.bool (sgnZ z1), .slice A1 (len (magZ z1)) c1, .slice D1 (len d1) e1] 32)).alloc (.cells #[.bool false, .slice none 0 0, .slice none 0 0] 32))) O oldA); replace B_x : Bx p1 (w.heap.size) #[.bool (sgnZ z1), .slice A1 (len (magZ z1)) c1, .slice D1 (len d1) e1] := (bxK B_x hp); replace B_r : Bx p1 (w.heap.size + 1) #[.bool false, .slice none 0 0, .slice none 0 0] := (bxK B_r hp); have zp1 : ((w.alloc (.cells #[.bool (sgnZ z1), .slice A1 (len (magZ z1)) c1, .slice D1 (len d1) e1] 32)).alloc (.cells #[.bool false, .slice none 0 0, .slice none 0 0] 32)).heap.size ≤ p1.heap.size := (by rw [hp]; exact leA); clear hp O; have O := O'; clear O'; refine (plain_to (v' := .agg #[.bool (sgnZ (-z1)), .slice A1 (len (magZ z1)) c1]) (by rw [HN.out]) (bigNeg_any (sgnZ z1) A1 (len (magZ z1)) c1 _)).mono ?_; rintro e w1 ⟨rfl, o1⟩; replace B_x := Bx.old B_x o1; replace B_r := Bx.old B_r o1; replace O := Old.trans O o1; have zw1 := o1.size; obtain ⟨q_x_0, q_x_1, q_x_2, f_x_0, f_x_1, f_x_2, q_x⟩ := B_x.all3; obtain ⟨q_r_0, q_r_1, q_r_2, f_r_0, f_r_1, f_r_2, q_r⟩ := B_r.all3))
  go_wp2
  refine bodyPost_ret (v := .agg #[.bool (sgnZ (-z1)), .slice A1 (len (magZ z1)) c1, .slice D1 (len d1) e1]) (by simp [results, Try.results50, go_sem, q_r_0, q_r_1, q_r_2]) rfl ⟨rfl, Below.trans (b := w1) O oldA⟩
end Go.Proofs.Ytgchbbjhdeobpaa
