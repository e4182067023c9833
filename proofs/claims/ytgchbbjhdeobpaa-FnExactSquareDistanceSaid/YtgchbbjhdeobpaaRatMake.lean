import Derived.Test.YtgchbbjhdeobpaaRatOk
/-
  A fraction in lowest terms: l04Low, ratMake; a fraction in new memory.
-/
namespace Go.Proofs.Ytgchbbjhdeobpaa
set_option linter.unusedVariables false
open Go.RowKit Num
attribute [local go_sem ↓] Go.wp_at_zero Go.wp_at_succ
set_option maxRecDepth 100000 in
set_option maxHeartbeats 1000000 in
theorem l04Low_zero (b : Bool) (A1 A2 : Option Addr) (c1 c2 x y l1 l2 : Nat) (w : World) (h1 : NatS w l1 A1 c1 x) (h2 : NatS w l2 A2 c2 y) (hx : len x ≤ 100) (hy : len y ≤ 100) (hp : y = 0) :
    Calls Try.prog 45 #[.bool b, .slice A1 (len x) c1, .slice A2 (len y) c2] w fun e w' => RetR e w' w.heap.size ((0, 0)) ∧ Old w w' := by
  have hy0 : (((len y : Nat) : Int) == 0) = true := by rw [hp, len_zero]; rfl
  clear hp
  have O : Old w (w.alloc (.cells #[.bool false, .slice none 0 0, .slice none 0 0] 32)) := oldA
  have B_r : Bx (w.alloc (.cells #[.bool false, .slice none 0 0, .slice none 0 0] 32)) (w.heap.size) #[.bool false, .slice none 0 0, .slice none 0 0] := by have h := (Bx.new w #[.bool false, .slice none 0 0, .slice none 0 0] 32); simpa using h
  have ze : w.heap.size + 1 ≤ (w.alloc (.cells #[.bool false, .slice none 0 0, .slice none 0 0] 32)).heap.size := (by simp)
  go_enter Try.func45, Try.ntmps45
  go_wp2_with fail
  refine callsNamed ?_
  intro p1 hp
  have O' : Old w p1 := (by rw [hp]; exact Below.trans (b := (w.alloc (.cells #[.bool false, .slice none 0 0, .slice none 0 0] 32))) O oldA)
  replace B_r : Bx p1 (w.heap.size) #[.bool false, .slice none 0 0, .slice none 0 0] := (bxK B_r hp)
  have zp1 : (w.alloc (.cells #[.bool false, .slice none 0 0, .slice none 0 0] 32)).heap.size ≤ p1.heap.size := (by rw [hp]; exact leA)
  clear hp O
  have O := O'
  clear O'
  refine (l02Trim_any A1 _ c1 x l1 _ (Row.below (B := w.heap.size) h1 O (Nat.le_refl _)) (Nat.le_refl _) (by omega)).mono ?_
  rintro e w1 ⟨rfl, o1⟩
  replace B_r := Bx.old B_r o1
  replace O := Old.trans O o1
  have zw1 := o1.size
  obtain ⟨q_r_0, q_r_1, q_r_2, f_r_0, f_r_1, f_r_2, q_r⟩ := B_r.all3
  go_wp2_with fail
  refine callsNamed ?_
  intro p2 hp
  clear q_r_0 q_r_1 q_r_2 f_r_0 f_r_1 f_r_2 q_r
  have O' : Old w p2 := (by rw [hp]; exact Below.trans (b := w1) O oldA)
  replace B_r : Bx p2 (w.heap.size) #[.bool false, .slice none 0 0, .slice none 0 0] := (bxK B_r hp)
  have zp2 : w1.heap.size ≤ p2.heap.size := (by rw [hp]; exact leA)
  clear hp O
  have O := O'
  clear O'
  refine (l02Trim_any A2 _ c2 y l2 _ (Row.below (B := w.heap.size) h2 O (Nat.le_refl _)) (Nat.le_refl _) (by omega)).mono ?_
  rintro e w2 ⟨rfl, o2⟩
  replace B_r := Bx.old B_r o2
  replace O := Old.trans O o2
  have zw2 := o2.size
  obtain ⟨q_r_0, q_r_1, q_r_2, f_r_0, f_r_1, f_r_2, q_r⟩ := B_r.all3
  go_wp2
  refine bodyPost_ret (v := .agg #[.bool false, .slice none 0 0, .slice none 0 0]) (by simp [results, Try.results45, go_sem, q_r_0, q_r_1, q_r_2]) rfl ⟨RetR.zero rfl, Below.trans (b := w2) O oldA⟩
set_option maxRecDepth 100000 in
set_option maxHeartbeats 1000000 in
theorem l04Low_one_fit (b : Bool) (A1 A2 : Option Addr) (c1 c2 x y l1 l2 : Nat) (w : World) (h1 : NatS w l1 A1 c1 x) (h2 : NatS w l2 A2 c2 y) (hx : len x ≤ 100) (hy : len y ≤ 100) (hp : y = 1) (hf1 : len (x) ≤ 24) :
    Calls Try.prog 45 #[.bool b, .slice A1 (len x) c1, .slice A2 (len y) c2] w fun e w' => RetR e w' w.heap.size (mkF (signed b x) y) ∧ Old w w' := by
  have HD := Lib.hid hp
  have hp0 : 0 < y := by omega
  have hy0 : (((len y : Nat) : Int) == 0) = false := by have := len_pos hp0; simp; omega
  clear hp hp0
  have hf2 : len y ≤ 24 := by rw [HD.out, len_1]; omega
  have t1 : ¬ (24 : Int) < ((len x : Nat) : Int) := by omega
  have t2 : ¬ (24 : Int) < ((len y : Nat) : Int) := by omega
  obtain ⟨z, hz⟩ : ∃ z, z = signed b x := ⟨_, rfl⟩
  have Hz : Hid (signed b x = z) := Lib.hid hz.symm
  have Hv : Hid (mkF (signed b x) y = (z, y)) := Lib.hid (by rw [HD.out, mkF_signed Nat.one_pos (by rw [Nat.gcd_one_right, Nat.div_one]; exact hf1) (by rw [Nat.gcd_one_right, Nat.div_one, len_1]; omega), Nat.gcd_one_right, Nat.div_one, Nat.div_one, Hz.out])
  clear hz
  have O : Old w (w.alloc (.cells #[.bool false, .slice none 0 0, .slice none 0 0] 32)) := oldA
  have B_r : Bx (w.alloc (.cells #[.bool false, .slice none 0 0, .slice none 0 0] 32)) (w.heap.size) #[.bool false, .slice none 0 0, .slice none 0 0] := by have h := (Bx.new w #[.bool false, .slice none 0 0, .slice none 0 0] 32); simpa using h
  have ze : w.heap.size + 1 ≤ (w.alloc (.cells #[.bool false, .slice none 0 0, .slice none 0 0] 32)).heap.size := (by simp)
  go_enter Try.func45, Try.ntmps45
  go_wp2_with fail
  refine callsNamed ?_
  intro p1 hp
  have O' : Old w p1 := (by rw [hp]; exact Below.trans (b := (w.alloc (.cells #[.bool false, .slice none 0 0, .slice none 0 0] 32))) O oldA)
  replace B_r : Bx p1 (w.heap.size) #[.bool false, .slice none 0 0, .slice none 0 0] := (bxK B_r hp)
  have zp1 : (w.alloc (.cells #[.bool false, .slice none 0 0, .slice none 0 0] 32)).heap.size ≤ p1.heap.size := (by rw [hp]; exact leA)
  clear hp O
  have O := O'
  clear O'
  refine (l02Trim_any A1 _ c1 x l1 _ (Row.below (B := w.heap.size) h1 O (Nat.le_refl _)) (Nat.le_refl _) (by omega)).mono ?_
  rintro e w1 ⟨rfl, o1⟩
  replace B_r := Bx.old B_r o1
  replace O := Old.trans O o1
  have zw1 := o1.size
  obtain ⟨q_r_0, q_r_1, q_r_2, f_r_0, f_r_1, f_r_2, q_r⟩ := B_r.all3
  go_wp2_with fail
  refine callsNamed ?_
  intro p2 hp
  clear q_r_0 q_r_1 q_r_2 f_r_0 f_r_1 f_r_2 q_r
  have O' : Old w p2 := (by rw [hp]; exact Below.trans (b := w1) O oldA)
  replace B_r : Bx p2 (w.heap.size) #[.bool false, .slice none 0 0, .slice none 0 0] := (bxK B_r hp)
  have zp2 : w1.heap.size ≤ p2.heap.size := (by rw [hp]; exact leA)
  clear hp O
  have O := O'
  clear O'
  refine (l02Trim_any A2 _ c2 y l2 _ (Row.below (B := w.heap.size) h2 O (Nat.le_refl _)) (Nat.le_refl _) (by omega)).mono ?_
  rintro e w2 ⟨rfl, o2⟩
  replace B_r := Bx.old B_r o2
  replace O := Old.trans O o2
  have zw2 := o2.size
  obtain ⟨q_r_0, q_r_1, q_r_2, f_r_0, f_r_1, f_r_2, q_r⟩ := B_r.all3
  go_wp2_with fail
  refine callsNamed ?_
  intro p3 hp
  clear q_r_0 q_r_1 q_r_2 f_r_0 f_r_1 f_r_2 q_r
  have O' : Old w p3 := (by rw [hp]; exact Below.trans (b := w2) O oldA)
  replace B_r : Bx p3 (w.heap.size) #[.bool false, .slice none 0 0, .slice none 0 0] := (bxK B_r hp)
  have zp3 : w2.heap.size ≤ p3.heap.size := (by rw [hp]; exact leA)
  clear hp O
  have O := O'
  clear O'
  refine (plain_to (by rw [decide_eq_true HD.out]) (l04One_any A2 c2 y l2 _ (Row.below (B := w.heap.size) h2 O (Nat.le_refl _)))).mono ?_
  rintro e w3 ⟨rfl, o3⟩
  replace B_r := Bx.old B_r o3
  replace O := Old.trans O o3
  have zw3 := o3.size
  obtain ⟨q_r_0, q_r_1, q_r_2, f_r_0, f_r_1, f_r_2, q_r⟩ := B_r.all3
  go_wp2_with fail
  refine callsNamed ?_
  intro p4 hp
  clear q_r_0 q_r_1 q_r_2 f_r_0 f_r_1 f_r_2 q_r
  have O' : Old w p4 := (by rw [hp]; exact Below.trans (b := w3) O oldA)
  replace B_r : Bx p4 (w.heap.size) #[.bool false, .slice none 0 0, .slice none 0 0] := (bxK B_r hp)
  have zp4 : w3.heap.size ≤ p4.heap.size := (by rw [hp]; exact leA)
  clear hp O
  have O := O'
  clear O'
  refine (retB_to Hz.out (l03Make_fit b A1 c1 x _ _ (Row.below (B := w.heap.size) h1 O (Nat.le_refl _)) (by omega))).mono ?_
  rintro e w4 ⟨⟨A5, c5, rfl, r5⟩, o4⟩
  replace B_r := Bx.old B_r o4
  replace O := Old.trans O o4
  have zw4 := o4.size
  replace r5 := Row.more (lo' := p4.heap.size) r5 leA
  have lim_r5 := Row.lim r5
  obtain ⟨q_r_0, q_r_1, q_r_2, f_r_0, f_r_1, f_r_2, q_r⟩ := B_r.all3
  go_wp2_with (at_builtin; refine wpList_clone rfl (.tmp 51) (.tmp 52) rfl (base := w4.heap.size) (f := digI y) rfl (fresh_own (Nat.le_refl _)) rfl (Row.below (B := w4.heap.size) (Row.below (B := w.heap.size) h2 O (Nat.le_refl _)) oldA (Nat.le_refl _)) (by omega) (by simp) ?_; intro A6 c6 w5 r6 o5; clear q_r_0 q_r_1 q_r_2 f_r_0 f_r_1 f_r_2 q_r; replace o5 : Old w4 w5 := Below.trans (b := _) oldA o5; replace B_r := Bx.old B_r o5; replace r5 := Row.below r5 o5 (Nat.le_refl _); replace O := Old.trans O o5; have zw5 := o5.size; have lim_r6 := Row.lim r6; obtain ⟨q_r_0, q_r_1, q_r_2, f_r_0, f_r_1, f_r_2, q_r⟩ := B_r.all3)
  have AP := Apart.of lim_r5 r6 (by omega)
  have AP' := Lib.hid AP
  clear AP
  go_wp2
  refine bodyPost_ret (v := .agg #[.bool (sgnZ z), .slice A5 (len (magZ z)) c5, .slice A6 (len y) c6]) (by simp [results, Try.results45, go_sem, q_r_0, q_r_1, q_r_2]) rfl ⟨⟨z, y, A5, c5, A6, c6, Hv.out, rfl, ?_, ?_, AP'.out⟩, ?_⟩
  · refine Row.more (lo := p4.heap.size) ?_ leA
    repeat' (first | exact r5 | refine Row.far_set ?_ (by first | (simp <;> done) | (simp; omega) | omega) _)
  · refine Row.more (lo := w4.heap.size) ?_ leA
    repeat' (first | exact r6 | refine Row.far_set ?_ (by first | (simp <;> done) | (simp; omega) | omega) _)
  · exact Below.trans (b := w5) O oldA
set_option maxRecDepth 100000 in
set_option maxHeartbeats 1000000 in
theorem l04Low_one_longx (b : Bool) (A1 A2 : Option Addr) (c1 c2 x y l1 l2 : Nat) (w : World) (h1 : NatS w l1 A1 c1 x) (h2 : NatS w l2 A2 c2 y) (hx : len x ≤ 100) (hy : len y ≤ 100) (hp : y = 1) (hf1 : ¬ len (x) ≤ 24) :
    Calls Try.prog 45 #[.bool b, .slice A1 (len x) c1, .slice A2 (len y) c2] w fun e w' => RetR e w' w.heap.size ((0, 0)) ∧ Old w w' := by
  have HD := Lib.hid hp
  have hp0 : 0 < y := by omega
  have hy0 : (((len y : Nat) : Int) == 0) = false := by have := len_pos hp0; simp; omega
  clear hp hp0
  have hf2 : len y ≤ 24 := by rw [HD.out, len_1]; omega
  have t1 : (24 : Int) < ((len x : Nat) : Int) := by omega
  have O : Old w (w.alloc (.cells #[.bool false, .slice none 0 0, .slice none 0 0] 32)) := oldA
  have B_r : Bx (w.alloc (.cells #[.bool false, .slice none 0 0, .slice none 0 0] 32)) (w.heap.size) #[.bool false, .slice none 0 0, .slice none 0 0] := by have h := (Bx.new w #[.bool false, .slice none 0 0, .slice none 0 0] 32); simpa using h
  have ze : w.heap.size + 1 ≤ (w.alloc (.cells #[.bool false, .slice none 0 0, .slice none 0 0] 32)).heap.size := (by simp)
  go_enter Try.func45, Try.ntmps45
  go_wp2_with fail
  refine callsNamed ?_
  intro p1 hp
  have O' : Old w p1 := (by rw [hp]; exact Below.trans (b := (w.alloc (.cells #[.bool false, .slice none 0 0, .slice none 0 0] 32))) O oldA)
  replace B_r : Bx p1 (w.heap.size) #[.bool false, .slice none 0 0, .slice none 0 0] := (bxK B_r hp)
  have zp1 : (w.alloc (.cells #[.bool false, .slice none 0 0, .slice none 0 0] 32)).heap.size ≤ p1.heap.size := (by rw [hp]; exact leA)
  clear hp O
  have O := O'
  clear O'
  refine (l02Trim_any A1 _ c1 x l1 _ (Row.below (B := w.heap.size) h1 O (Nat.le_refl _)) (Nat.le_refl _) (by omega)).mono ?_
  rintro e w1 ⟨rfl, o1⟩
  replace B_r := Bx.old B_r o1
  replace O := Old.trans O o1
  have zw1 := o1.size
  obtain ⟨q_r_0, q_r_1, q_r_2, f_r_0, f_r_1, f_r_2, q_r⟩ := B_r.all3
  go_wp2_with fail
  refine callsNamed ?_
  intro p2 hp
  clear q_r_0 q_r_1 q_r_2 f_r_0 f_r_1 f_r_2 q_r
  have O' : Old w p2 := (by rw [hp]; exact Below.trans (b := w1) O oldA)
  replace B_r : Bx p2 (w.heap.size) #[.bool false, .slice none 0 0, .slice none 0 0] := (bxK B_r hp)
  have zp2 : w1.heap.size ≤ p2.heap.size := (by rw [hp]; exact leA)
  clear hp O
  have O := O'
  clear O'
  refine (l02Trim_any A2 _ c2 y l2 _ (Row.below (B := w.heap.size) h2 O (Nat.le_refl _)) (Nat.le_refl _) (by omega)).mono ?_
  rintro e w2 ⟨rfl, o2⟩
  replace B_r := Bx.old B_r o2
  replace O := Old.trans O o2
  have zw2 := o2.size
  obtain ⟨q_r_0, q_r_1, q_r_2, f_r_0, f_r_1, f_r_2, q_r⟩ := B_r.all3
  go_wp2_with fail
  refine callsNamed ?_
  intro p3 hp
  clear q_r_0 q_r_1 q_r_2 f_r_0 f_r_1 f_r_2 q_r
  have O' : Old w p3 := (by rw [hp]; exact Below.trans (b := w2) O oldA)
  replace B_r : Bx p3 (w.heap.size) #[.bool false, .slice none 0 0, .slice none 0 0] := (bxK B_r hp)
  have zp3 : w2.heap.size ≤ p3.heap.size := (by rw [hp]; exact leA)
  clear hp O
  have O := O'
  clear O'
  refine (plain_to (by rw [decide_eq_true HD.out]) (l04One_any A2 c2 y l2 _ (Row.below (B := w.heap.size) h2 O (Nat.le_refl _)))).mono ?_
  rintro e w3 ⟨rfl, o3⟩
  replace B_r := Bx.old B_r o3
  replace O := Old.trans O o3
  have zw3 := o3.size
  obtain ⟨q_r_0, q_r_1, q_r_2, f_r_0, f_r_1, f_r_2, q_r⟩ := B_r.all3
  go_wp2
  refine bodyPost_ret (v := .agg #[.bool false, .slice none 0 0, .slice none 0 0]) (by simp [results, Try.results45, go_sem, q_r_0, q_r_1, q_r_2]) rfl ⟨RetR.zero rfl, Below.trans (b := w3) O oldA⟩
set_option maxRecDepth 100000 in
set_option maxHeartbeats 1000000 in
theorem l04Low_low_fit (b : Bool) (A1 A2 : Option Addr) (c1 c2 x y l1 l2 : Nat) (w : World) (h1 : NatS w l1 A1 c1 x) (h2 : NatS w l2 A2 c2 y) (hx : len x ≤ 100) (hy : len y ≤ 100) (hp : 0 < y) (h1' : y ≠ 1) (hg : Nat.gcd x y = 1) (hf1 : len (x) ≤ 24) (hf2 : len (y) ≤ 24) :
    Calls Try.prog 45 #[.bool b, .slice A1 (len x) c1, .slice A2 (len y) c2] w fun e w' => RetR e w' w.heap.size (mkF (signed b x) y) ∧ Old w w' := by
  have hy0 : (((len y : Nat) : Int) == 0) = false := by have := len_pos hp; simp; omega
  have HD := Lib.hid h1'
  obtain ⟨G, hG⟩ : ∃ G, G = Nat.gcd x y := ⟨_, rfl⟩
  rw [← hG] at hg
  have hGp : 0 < G := by rw [hG]; exact gcd_pos hp
  have hGl : len G ≤ 100 := by rw [hG]; exact gcd_len hx hy
  have HGE := Lib.hid hg
  have HGP := Lib.hid hGp
  have t1 : ¬ (24 : Int) < ((len x : Nat) : Int) := by omega
  have t2 : ¬ (24 : Int) < ((len y : Nat) : Int) := by omega
  obtain ⟨z, hz⟩ : ∃ z, z = signed b x := ⟨_, rfl⟩
  have Hz : Hid (signed b x = z) := Lib.hid hz.symm
  have Hv : Hid (mkF (signed b x) y = (z, y)) := Lib.hid (by rw [mkF_signed hp (by rw [← hG, HGE.out, Nat.div_one]; exact hf1) (by rw [← hG, HGE.out, Nat.div_one]; exact hf2), ← hG, HGE.out, Nat.div_one, Nat.div_one, Hz.out])
  clear hz
  have HG := Lib.hid hG
  clear hG h1' hg hGp hp
  have O : Old w (w.alloc (.cells #[.bool false, .slice none 0 0, .slice none 0 0] 32)) := oldA
  have B_r : Bx (w.alloc (.cells #[.bool false, .slice none 0 0, .slice none 0 0] 32)) (w.heap.size) #[.bool false, .slice none 0 0, .slice none 0 0] := by have h := (Bx.new w #[.bool false, .slice none 0 0, .slice none 0 0] 32); simpa using h
  have ze : w.heap.size + 1 ≤ (w.alloc (.cells #[.bool false, .slice none 0 0, .slice none 0 0] 32)).heap.size := (by simp)
  go_enter Try.func45, Try.ntmps45
  go_wp2_with fail
  refine callsNamed ?_
  intro p1 hp
  have O' : Old w p1 := (by rw [hp]; exact Below.trans (b := (w.alloc (.cells #[.bool false, .slice none 0 0, .slice none 0 0] 32))) O oldA)
  replace B_r : Bx p1 (w.heap.size) #[.bool false, .slice none 0 0, .slice none 0 0] := (bxK B_r hp)
  have zp1 : (w.alloc (.cells #[.bool false, .slice none 0 0, .slice none 0 0] 32)).heap.size ≤ p1.heap.size := (by rw [hp]; exact leA)
  clear hp O
  have O := O'
  clear O'
  refine (l02Trim_any A1 _ c1 x l1 _ (Row.below (B := w.heap.size) h1 O (Nat.le_refl _)) (Nat.le_refl _) (by omega)).mono ?_
  rintro e w1 ⟨rfl, o1⟩
  replace B_r := Bx.old B_r o1
  replace O := Old.trans O o1
  have zw1 := o1.size
  obtain ⟨q_r_0, q_r_1, q_r_2, f_r_0, f_r_1, f_r_2, q_r⟩ := B_r.all3
  go_wp2_with fail
  refine callsNamed ?_
  intro p2 hp
  clear q_r_0 q_r_1 q_r_2 f_r_0 f_r_1 f_r_2 q_r
  have O' : Old w p2 := (by rw [hp]; exact Below.trans (b := w1) O oldA)
  replace B_r : Bx p2 (w.heap.size) #[.bool false, .slice none 0 0, .slice none 0 0] := (bxK B_r hp)
  have zp2 : w1.heap.size ≤ p2.heap.size := (by rw [hp]; exact leA)
  clear hp O
  have O := O'
  clear O'
  refine (l02Trim_any A2 _ c2 y l2 _ (Row.below (B := w.heap.size) h2 O (Nat.le_refl _)) (Nat.le_refl _) (by omega)).mono ?_
  rintro e w2 ⟨rfl, o2⟩
  replace B_r := Bx.old B_r o2
  replace O := Old.trans O o2
  have zw2 := o2.size
  obtain ⟨q_r_0, q_r_1, q_r_2, f_r_0, f_r_1, f_r_2, q_r⟩ := B_r.all3
  go_wp2_with fail
  refine callsNamed ?_
  intro p3 hp
  clear q_r_0 q_r_1 q_r_2 f_r_0 f_r_1 f_r_2 q_r
  have O' : Old w p3 := (by rw [hp]; exact Below.trans (b := w2) O oldA)
  replace B_r : Bx p3 (w.heap.size) #[.bool false, .slice none 0 0, .slice none 0 0] := (bxK B_r hp)
  have zp3 : w2.heap.size ≤ p3.heap.size := (by rw [hp]; exact leA)
  clear hp O
  have O := O'
  clear O'
  refine (plain_to (by rw [decide_eq_false HD.out]) (l04One_any A2 c2 y l2 _ (Row.below (B := w.heap.size) h2 O (Nat.le_refl _)))).mono ?_
  rintro e w3 ⟨rfl, o3⟩
  replace B_r := Bx.old B_r o3
  replace O := Old.trans O o3
  have zw3 := o3.size
  obtain ⟨q_r_0, q_r_1, q_r_2, f_r_0, f_r_1, f_r_2, q_r⟩ := B_r.all3
  go_wp2_with fail
  refine callsNamed ?_
  intro p4 hp
  clear q_r_0 q_r_1 q_r_2 f_r_0 f_r_1 f_r_2 q_r
  have O' : Old w p4 := (by rw [hp]; exact Below.trans (b := w3) O oldA)
  replace B_r : Bx p4 (w.heap.size) #[.bool false, .slice none 0 0, .slice none 0 0] := (bxK B_r hp)
  have zp4 : w3.heap.size ≤ p4.heap.size := (by rw [hp]; exact leA)
  clear hp O
  have O := O'
  clear O'
  refine (l02Gcd_any A1 A2 c1 c2 x y l1 l2 _ (Row.below (B := w.heap.size) h1 O (Nat.le_refl _)) (Row.below (B := w.heap.size) h2 O (Nat.le_refl _)) (by omega) (by omega)).mono ?_
  rintro e w4 ⟨⟨A3, c3, he, r3⟩, o4⟩
  replace B_r := Bx.old B_r o4
  replace O := Old.trans O o4
  have zw4 := o4.size
  replace r3 := Row.more (lo' := p4.heap.size) r3 leA
  have lim_r3 := Row.lim r3
  rw [← HG.out] at he r3
  subst he
  obtain ⟨q_r_0, q_r_1, q_r_2, f_r_0, f_r_1, f_r_2, q_r⟩ := B_r.all3
  go_wp2_with fail
  refine callsNamed ?_
  intro p5 hp
  clear q_r_0 q_r_1 q_r_2 f_r_0 f_r_1 f_r_2 q_r
  have O' : Old w p5 := (by rw [hp]; exact Below.trans (b := w4) O oldA)
  replace B_r : Bx p5 (w.heap.size) #[.bool false, .slice none 0 0, .slice none 0 0] := (bxK B_r hp)
  replace r3 := rowK r3 hp
  have zp5 : w4.heap.size ≤ p5.heap.size := (by rw [hp]; exact leA)
  clear hp O
  have O := O'
  clear O'
  refine (plain_to (by rw [decide_eq_true HGE.out]) (l04One_any A3 c3 G _ _ r3)).mono ?_
  rintro e w5 ⟨rfl, o5⟩
  replace B_r := Bx.old B_r o5
  replace r3 := Row.below r3 o5 (Nat.le_refl _)
  replace O := Old.trans O o5
  have zw5 := o5.size
  obtain ⟨q_r_0, q_r_1, q_r_2, f_r_0, f_r_1, f_r_2, q_r⟩ := B_r.all3
  go_wp2_with fail
  refine callsNamed ?_
  intro p6 hp
  clear q_r_0 q_r_1 q_r_2 f_r_0 f_r_1 f_r_2 q_r
  have O' : Old w p6 := (by rw [hp]; exact Below.trans (b := w5) O oldA)
  replace B_r : Bx p6 (w.heap.size) #[.bool false, .slice none 0 0, .slice none 0 0] := (bxK B_r hp)
  replace r3 := rowK r3 hp
  have zp6 : w5.heap.size ≤ p6.heap.size := (by rw [hp]; exact leA)
  clear hp O
  have O := O'
  clear O'
  refine (retB_to Hz.out (l03Make_fit b A1 c1 x _ _ (Row.below (B := w.heap.size) h1 O (Nat.le_refl _)) (by omega))).mono ?_
  rintro e w6 ⟨⟨A5, c5, rfl, r5⟩, o6⟩
  replace B_r := Bx.old B_r o6
  replace r3 := Row.below r3 o6 (Nat.le_refl _)
  replace O := Old.trans O o6
  have zw6 := o6.size
  replace r5 := Row.more (lo' := p6.heap.size) r5 leA
  have lim_r5 := Row.lim r5
  obtain ⟨q_r_0, q_r_1, q_r_2, f_r_0, f_r_1, f_r_2, q_r⟩ := B_r.all3
  go_wp2_with (at_builtin; refine wpList_clone rfl (.tmp 51) (.tmp 52) rfl (base := w6.heap.size) (f := digI y) rfl (fresh_own (Nat.le_refl _)) rfl (Row.below (B := w6.heap.size) (Row.below (B := w.heap.size) h2 O (Nat.le_refl _)) oldA (Nat.le_refl _)) (by omega) (by simp) ?_; intro A6 c6 w7 r6 o7; clear q_r_0 q_r_1 q_r_2 f_r_0 f_r_1 f_r_2 q_r; replace o7 : Old w6 w7 := Below.trans (b := _) oldA o7; replace B_r := Bx.old B_r o7; replace r3 := Row.below r3 o7 (Nat.le_refl _); replace r5 := Row.below r5 o7 (Nat.le_refl _); replace O := Old.trans O o7; have zw7 := o7.size; have lim_r6 := Row.lim r6; obtain ⟨q_r_0, q_r_1, q_r_2, f_r_0, f_r_1, f_r_2, q_r⟩ := B_r.all3)
  have AP := Apart.of lim_r5 r6 (by omega)
  have AP' := Lib.hid AP
  clear AP
  go_wp2
  refine bodyPost_ret (v := .agg #[.bool (sgnZ z), .slice A5 (len (magZ z)) c5, .slice A6 (len y) c6]) (by simp [results, Try.results45, go_sem, q_r_0, q_r_1, q_r_2]) rfl ⟨⟨z, y, A5, c5, A6, c6, Hv.out, rfl, ?_, ?_, AP'.out⟩, ?_⟩
  · refine Row.more (lo := p6.heap.size) ?_ leA
    repeat' (first | exact r5 | refine Row.far_set ?_ (by first | (simp <;> done) | (simp; omega) | omega) _)
  · refine Row.more (lo := w6.heap.size) ?_ leA
    repeat' (first | exact r6 | refine Row.far_set ?_ (by first | (simp <;> done) | (simp; omega) | omega) _)
  · exact Below.trans (b := w7) O oldA
set_option maxRecDepth 100000 in
set_option maxHeartbeats 1000000 in
theorem l04Low_low_longx (b : Bool) (A1 A2 : Option Addr) (c1 c2 x y l1 l2 : Nat) (w : World) (h1 : NatS w l1 A1 c1 x) (h2 : NatS w l2 A2 c2 y) (hx : len x ≤ 100) (hy : len y ≤ 100) (hp : 0 < y) (h1' : y ≠ 1) (hg : Nat.gcd x y = 1) (hf1 : ¬ len (x) ≤ 24) :
    Calls Try.prog 45 #[.bool b, .slice A1 (len x) c1, .slice A2 (len y) c2] w fun e w' => RetR e w' w.heap.size ((0, 0)) ∧ Old w w' := by
  have hy0 : (((len y : Nat) : Int) == 0) = false := by have := len_pos hp; simp; omega
  have HD := Lib.hid h1'
  obtain ⟨G, hG⟩ : ∃ G, G = Nat.gcd x y := ⟨_, rfl⟩
  rw [← hG] at hg
  have hGp : 0 < G := by rw [hG]; exact gcd_pos hp
  have hGl : len G ≤ 100 := by rw [hG]; exact gcd_len hx hy
  have HGE := Lib.hid hg
  have HGP := Lib.hid hGp
  have t1 : (24 : Int) < ((len x : Nat) : Int) := by omega
  have HG := Lib.hid hG
  clear hG h1' hg hGp hp
  have O : Old w (w.alloc (.cells #[.bool false, .slice none 0 0, .slice none 0 0] 32)) := oldA
  have B_r : Bx (w.alloc (.cells #[.bool false, .slice none 0 0, .slice none 0 0] 32)) (w.heap.size) #[.bool false, .slice none 0 0, .slice none 0 0] := by have h := (Bx.new w #[.bool false, .slice none 0 0, .slice none 0 0] 32); simpa using h
  have ze : w.heap.size + 1 ≤ (w.alloc (.cells #[.bool false, .slice none 0 0, .slice none 0 0] 32)).heap.size := (by simp)
  go_enter Try.func45, Try.ntmps45
  go_wp2_with fail
  refine callsNamed ?_
  intro p1 hp
  have O' : Old w p1 := (by rw [hp]; exact Below.trans (b := (w.alloc (.cells #[.bool false, .slice none 0 0, .slice none 0 0] 32))) O oldA)
  replace B_r : Bx p1 (w.heap.size) #[.bool false, .slice none 0 0, .slice none 0 0] := (bxK B_r hp)
  have zp1 : (w.alloc (.cells #[.bool false, .slice none 0 0, .slice none 0 0] 32)).heap.size ≤ p1.heap.size := (by rw [hp]; exact leA)
  clear hp O
  have O := O'
  clear O'
  refine (l02Trim_any A1 _ c1 x l1 _ (Row.below (B := w.heap.size) h1 O (Nat.le_refl _)) (Nat.le_refl _) (by omega)).mono ?_
  rintro e w1 ⟨rfl, o1⟩
  replace B_r := Bx.old B_r o1
  replace O := Old.trans O o1
  have zw1 := o1.size
  obtain ⟨q_r_0, q_r_1, q_r_2, f_r_0, f_r_1, f_r_2, q_r⟩ := B_r.all3
  go_wp2_with fail
  refine callsNamed ?_
  intro p2 hp
  clear q_r_0 q_r_1 q_r_2 f_r_0 f_r_1 f_r_2 q_r
  have O' : Old w p2 := (by rw [hp]; exact Below.trans (b := w1) O oldA)
  replace B_r : Bx p2 (w.heap.size) #[.bool false, .slice none 0 0, .slice none 0 0] := (bxK B_r hp)
  have zp2 : w1.heap.size ≤ p2.heap.size := (by rw [hp]; exact leA)
  clear hp O
  have O := O'
  clear O'
  refine (l02Trim_any A2 _ c2 y l2 _ (Row.below (B := w.heap.size) h2 O (Nat.le_refl _)) (Nat.le_refl _) (by omega)).mono ?_
  rintro e w2 ⟨rfl, o2⟩
  replace B_r := Bx.old B_r o2
  replace O := Old.trans O o2
  have zw2 := o2.size
  obtain ⟨q_r_0, q_r_1, q_r_2, f_r_0, f_r_1, f_r_2, q_r⟩ := B_r.all3
  go_wp2_with fail
  refine callsNamed ?_
  intro p3 hp
  clear q_r_0 q_r_1 q_r_2 f_r_0 f_r_1 f_r_2 q_r
  have O' : Old w p3 := (by rw [hp]; exact Below.trans (b := w2) O oldA)
  replace B_r : Bx p3 (w.heap.size) #[.bool false, .slice none 0 0, .slice none 0 0] := (bxK B_r hp)
  have zp3 : w2.heap.size ≤ p3.heap.size := (by rw [hp]; exact leA)
  clear hp O
  have O := O'
  clear O'
  refine (plain_to (by rw [decide_eq_false HD.out]) (l04One_any A2 c2 y l2 _ (Row.below (B := w.heap.size) h2 O (Nat.le_refl _)))).mono ?_
  rintro e w3 ⟨rfl, o3⟩
  replace B_r := Bx.old B_r o3
  replace O := Old.trans O o3
  have zw3 := o3.size
  obtain ⟨q_r_0, q_r_1, q_r_2, f_r_0, f_r_1, f_r_2, q_r⟩ := B_r.all3
  go_wp2_with fail
  refine callsNamed ?_
  intro p4 hp
  clear q_r_0 q_r_1 q_r_2 f_r_0 f_r_1 f_r_2 q_r
  have O' : Old w p4 := (by rw [hp]; exact Below.trans (b := w3) O oldA)
  replace B_r : Bx p4 (w.heap.size) #[.bool false, .slice none 0 0, .slice none 0 0] := (bxK B_r hp)
  have zp4 : w3.heap.size ≤ p4.heap.size := (by rw [hp]; exact leA)
  clear hp O
  have O := O'
  clear O'
  refine (l02Gcd_any A1 A2 c1 c2 x y l1 l2 _ (Row.below (B := w.heap.size) h1 O (Nat.le_refl _)) (Row.below (B := w.heap.size) h2 O (Nat.le_refl _)) (by omega) (by omega)).mono ?_
  rintro e w4 ⟨⟨A3, c3, he, r3⟩, o4⟩
  replace B_r := Bx.old B_r o4
  replace O := Old.trans O o4
  have zw4 := o4.size
  replace r3 := Row.more (lo' := p4.heap.size) r3 leA
  have lim_r3 := Row.lim r3
  rw [← HG.out] at he r3
  subst he
  obtain ⟨q_r_0, q_r_1, q_r_2, f_r_0, f_r_1, f_r_2, q_r⟩ := B_r.all3
  go_wp2_with fail
  refine callsNamed ?_
  intro p5 hp
  clear q_r_0 q_r_1 q_r_2 f_r_0 f_r_1 f_r_2 q_r
  have O' : Old w p5 := (by rw [hp]; exact Below.trans (b := w4) O oldA)
  replace B_r : Bx p5 (w.heap.size) #[.bool false, .slice none 0 0, .slice none 0 0] := (bxK B_r hp)
  replace r3 := rowK r3 hp
  have zp5 : w4.heap.size ≤ p5.heap.size := (by rw [hp]; exact leA)
  clear hp O
  have O := O'
  clear O'
  refine (plain_to (by rw [decide_eq_true HGE.out]) (l04One_any A3 c3 G _ _ r3)).mono ?_
  rintro e w5 ⟨rfl, o5⟩
  replace B_r := Bx.old B_r o5
  replace r3 := Row.below r3 o5 (Nat.le_refl _)
  replace O := Old.trans O o5
  have zw5 := o5.size
  obtain ⟨q_r_0, q_r_1, q_r_2, f_r_0, f_r_1, f_r_2, q_r⟩ := B_r.all3
  go_wp2
  refine bodyPost_ret (v := .agg #[.bool false, .slice none 0 0, .slice none 0 0]) (by simp [results, Try.results45, go_sem, q_r_0, q_r_1, q_r_2]) rfl ⟨RetR.zero rfl, Below.trans (b := w5) O oldA⟩
set_option maxRecDepth 100000 in
set_option maxHeartbeats 1000000 in
theorem l04Low_low_longy (b : Bool) (A1 A2 : Option Addr) (c1 c2 x y l1 l2 : Nat) (w : World) (h1 : NatS w l1 A1 c1 x) (h2 : NatS w l2 A2 c2 y) (hx : len x ≤ 100) (hy : len y ≤ 100) (hp : 0 < y) (h1' : y ≠ 1) (hg : Nat.gcd x y = 1) (hf1 : len (x) ≤ 24) (hf2 : ¬ len (y) ≤ 24) :
    Calls Try.prog 45 #[.bool b, .slice A1 (len x) c1, .slice A2 (len y) c2] w fun e w' => RetR e w' w.heap.size ((0, 0)) ∧ Old w w' := by
  have hy0 : (((len y : Nat) : Int) == 0) = false := by have := len_pos hp; simp; omega
  have HD := Lib.hid h1'
  obtain ⟨G, hG⟩ : ∃ G, G = Nat.gcd x y := ⟨_, rfl⟩
  rw [← hG] at hg
  have hGp : 0 < G := by rw [hG]; exact gcd_pos hp
  have hGl : len G ≤ 100 := by rw [hG]; exact gcd_len hx hy
  have HGE := Lib.hid hg
  have HGP := Lib.hid hGp
  have t1 : ¬ (24 : Int) < ((len x : Nat) : Int) := by omega
  have t2 : (24 : Int) < ((len y : Nat) : Int) := by omega
  have HG := Lib.hid hG
  clear hG h1' hg hGp hp
  have O : Old w (w.alloc (.cells #[.bool false, .slice none 0 0, .slice none 0 0] 32)) := oldA
  have B_r : Bx (w.alloc (.cells #[.bool false, .slice none 0 0, .slice none 0 0] 32)) (w.heap.size) #[.bool false, .slice none 0 0, .slice none 0 0] := by have h := (Bx.new w #[.bool false, .slice none 0 0, .slice none 0 0] 32); simpa using h
  have ze : w.heap.size + 1 ≤ (w.alloc (.cells #[.bool false, .slice none 0 0, .slice none 0 0] 32)).heap.size := (by simp)
  go_enter Try.func45, Try.ntmps45
  go_wp2_with fail
  refine callsNamed ?_
  intro p1 hp
  have O' : Old w p1 := (by rw [hp]; exact Below.trans (b := (w.alloc (.cells #[.bool false, .slice none 0 0, .slice none 0 0] 32))) O oldA)
  replace B_r : Bx p1 (w.heap.size) #[.bool false, .slice none 0 0, .slice none 0 0] := (bxK B_r hp)
  have zp1 : (w.alloc (.cells #[.bool false, .slice none 0 0, .slice none 0 0] 32)).heap.size ≤ p1.heap.size := (by rw [hp]; exact leA)
  clear hp O
  have O := O'
  clear O'
  refine (l02Trim_any A1 _ c1 x l1 _ (Row.below (B := w.heap.size) h1 O (Nat.le_refl _)) (Nat.le_refl _) (by omega)).mono ?_
  rintro e w1 ⟨rfl, o1⟩
  replace B_r := Bx.old B_r o1
  replace O := Old.trans O o1
  have zw1 := o1.size
  obtain ⟨q_r_0, q_r_1, q_r_2, f_r_0, f_r_1, f_r_2, q_r⟩ := B_r.all3
  go_wp2_with fail
  refine callsNamed ?_
  intro p2 hp
  clear q_r_0 q_r_1 q_r_2 f_r_0 f_r_1 f_r_2 q_r
  have O' : Old w p2 := (by rw [hp]; exact Below.trans (b := w1) O oldA)
  replace B_r : Bx p2 (w.heap.size) #[.bool false, .slice none 0 0, .slice none 0 0] := (bxK B_r hp)
  have zp2 : w1.heap.size ≤ p2.heap.size := (by rw [hp]; exact leA)
  clear hp O
  have O := O'
  clear O'
  refine (l02Trim_any A2 _ c2 y l2 _ (Row.below (B := w.heap.size) h2 O (Nat.le_refl _)) (Nat.le_refl _) (by omega)).mono ?_
  rintro e w2 ⟨rfl, o2⟩
  replace B_r := Bx.old B_r o2
  replace O := Old.trans O o2
  have zw2 := o2.size
  obtain ⟨q_r_0, q_r_1, q_r_2, f_r_0, f_r_1, f_r_2, q_r⟩ := B_r.all3
  go_wp2_with fail
  refine callsNamed ?_
  intro p3 hp
  clear q_r_0 q_r_1 q_r_2 f_r_0 f_r_1 f_r_2 q_r
  have O' : Old w p3 := (by rw [hp]; exact Below.trans (b := w2) O oldA)
  replace B_r : Bx p3 (w.heap.size) #[.bool false, .slice none 0 0, .slice none 0 0] := (bxK B_r hp)
  have zp3 : w2.heap.size ≤ p3.heap.size := (by rw [hp]; exact leA)
  clear hp O
  have O := O'
  clear O'
  refine (plain_to (by rw [decide_eq_false HD.out]) (l04One_any A2 c2 y l2 _ (Row.below (B := w.heap.size) h2 O (Nat.le_refl _)))).mono ?_
  rintro e w3 ⟨rfl, o3⟩
  replace B_r := Bx.old B_r o3
  replace O := Old.trans O o3
  have zw3 := o3.size
  obtain ⟨q_r_0, q_r_1, q_r_2, f_r_0, f_r_1, f_r_2, q_r⟩ := B_r.all3
  go_wp2_with fail
  refine callsNamed ?_
  intro p4 hp
  clear q_r_0 q_r_1 q_r_2 f_r_0 f_r_1 f_r_2 q_r
  have O' : Old w p4 := (by rw [hp]; exact Below.trans (b := w3) O oldA)
  replace B_r : Bx p4 (w.heap.size) #[.bool false, .slice none 0 0, .slice none 0 0] := (bxK B_r hp)
  have zp4 : w3.heap.size ≤ p4.heap.size := (by rw [hp]; exact leA)
  clear hp O
  have O := O'
  clear O'
  refine (l02Gcd_any A1 A2 c1 c2 x y l1 l2 _ (Row.below (B := w.heap.size) h1 O (Nat.le_refl _)) (Row.below (B := w.heap.size) h2 O (Nat.le_refl _)) (by omega) (by omega)).mono ?_
  rintro e w4 ⟨⟨A3, c3, he, r3⟩, o4⟩
  replace B_r := Bx.old B_r o4
  replace O := Old.trans O o4
  have zw4 := o4.size
  replace r3 := Row.more (lo' := p4.heap.size) r3 leA
  have lim_r3 := Row.lim r3
  rw [← HG.out] at he r3
  subst he
  obtain ⟨q_r_0, q_r_1, q_r_2, f_r_0, f_r_1, f_r_2, q_r⟩ := B_r.all3
  go_wp2_with fail
  refine callsNamed ?_
  intro p5 hp
  clear q_r_0 q_r_1 q_r_2 f_r_0 f_r_1 f_r_2 q_r
  have O' : Old w p5 := (by rw [hp]; exact Below.trans (b := w4) O oldA)
  replace B_r : Bx p5 (w.heap.size) #[.bool false, .slice none 0 0, .slice none 0 0] := (bxK B_r hp)
  replace r3 := rowK r3 hp
  have zp5 : w4.heap.size ≤ p5.heap.size := (by rw [hp]; exact leA)
  clear hp O
  have O := O'
  clear O'
  refine (plain_to (by rw [decide_eq_true HGE.out]) (l04One_any A3 c3 G _ _ r3)).mono ?_
  rintro e w5 ⟨rfl, o5⟩
  replace B_r := Bx.old B_r o5
  replace r3 := Row.below r3 o5 (Nat.le_refl _)
  replace O := Old.trans O o5
  have zw5 := o5.size
  obtain ⟨q_r_0, q_r_1, q_r_2, f_r_0, f_r_1, f_r_2, q_r⟩ := B_r.all3
  go_wp2
  refine bodyPost_ret (v := .agg #[.bool false, .slice none 0 0, .slice none 0 0]) (by simp [results, Try.results45, go_sem, q_r_0, q_r_1, q_r_2]) rfl ⟨RetR.zero rfl, Below.trans (b := w5) O oldA⟩
set_option maxRecDepth 100000 in
set_option maxHeartbeats 1000000 in
theorem l04Low_red_fit (b : Bool) (A1 A2 : Option Addr) (c1 c2 x y l1 l2 : Nat) (w : World) (h1 : NatS w l1 A1 c1 x) (h2 : NatS w l2 A2 c2 y) (hx : len x ≤ 100) (hy : len y ≤ 100) (hp : 0 < y) (h1' : y ≠ 1) (hg : Nat.gcd x y ≠ 1) (hf1 : len (x / Nat.gcd x y) ≤ 24) (hf2 : len (y / Nat.gcd x y) ≤ 24) :
    Calls Try.prog 45 #[.bool b, .slice A1 (len x) c1, .slice A2 (len y) c2] w fun e w' => RetR e w' w.heap.size (mkF (signed b x) y) ∧ Old w w' := by
  have hy0 : (((len y : Nat) : Int) == 0) = false := by have := len_pos hp; simp; omega
  have HD := Lib.hid h1'
  obtain ⟨G, hG⟩ : ∃ G, G = Nat.gcd x y := ⟨_, rfl⟩
  rw [← hG] at hg
  have hGp : 0 < G := by rw [hG]; exact gcd_pos hp
  have hGl : len G ≤ 100 := by rw [hG]; exact gcd_len hx hy
  have HGE := Lib.hid hg
  have HGP := Lib.hid hGp
  obtain ⟨X, hX⟩ : ∃ X, X = x / G := ⟨_, rfl⟩
  obtain ⟨Y, hY⟩ : ∃ Y, Y = y / G := ⟨_, rfl⟩
  have hXl : len X ≤ 100 := by rw [hX]; have := quo_len x G; omega
  have hYl : len Y ≤ 100 := by rw [hY]; have := quo_len y G; omega
  have HX := Lib.hid hX
  have HY := Lib.hid hY
  rw [← hG, ← hX] at hf1
  rw [← hG, ← hY] at hf2
  have t1 : ¬ (24 : Int) < ((len X : Nat) : Int) := by omega
  have t2 : ¬ (24 : Int) < ((len Y : Nat) : Int) := by omega
  obtain ⟨z, hz⟩ : ∃ z, z = signed b X := ⟨_, rfl⟩
  have Hz : Hid (signed b X = z) := Lib.hid hz.symm
  have Hv : Hid (mkF (signed b x) y = (z, Y)) := Lib.hid (by rw [mkF_signed hp (by rw [← hG, ← hX]; exact hf1) (by rw [← hG, ← hY]; exact hf2), ← hG, ← hX, ← hY, Hz.out])
  clear hz
  have HG := Lib.hid hG
  clear hG h1' hg hGp hp hX hY
  have O : Old w (w.alloc (.cells #[.bool false, .slice none 0 0, .slice none 0 0] 32)) := oldA
  have B_r : Bx (w.alloc (.cells #[.bool false, .slice none 0 0, .slice none 0 0] 32)) (w.heap.size) #[.bool false, .slice none 0 0, .slice none 0 0] := by have h := (Bx.new w #[.bool false, .slice none 0 0, .slice none 0 0] 32); simpa using h
  have ze : w.heap.size + 1 ≤ (w.alloc (.cells #[.bool false, .slice none 0 0, .slice none 0 0] 32)).heap.size := (by simp)
  go_enter Try.func45, Try.ntmps45
  go_wp2_with fail
  refine callsNamed ?_
  intro p1 hp
  have O' : Old w p1 := (by rw [hp]; exact Below.trans (b := (w.alloc (.cells #[.bool false, .slice none 0 0, .slice none 0 0] 32))) O oldA)
  replace B_r : Bx p1 (w.heap.size) #[.bool false, .slice none 0 0, .slice none 0 0] := (bxK B_r hp)
  have zp1 : (w.alloc (.cells #[.bool false, .slice none 0 0, .slice none 0 0] 32)).heap.size ≤ p1.heap.size := (by rw [hp]; exact leA)
  clear hp O
  have O := O'
  clear O'
  refine (l02Trim_any A1 _ c1 x l1 _ (Row.below (B := w.heap.size) h1 O (Nat.le_refl _)) (Nat.le_refl _) (by omega)).mono ?_
  rintro e w1 ⟨rfl, o1⟩
  replace B_r := Bx.old B_r o1
  replace O := Old.trans O o1
  have zw1 := o1.size
  obtain ⟨q_r_0, q_r_1, q_r_2, f_r_0, f_r_1, f_r_2, q_r⟩ := B_r.all3
  go_wp2_with fail
  refine callsNamed ?_
  intro p2 hp
  clear q_r_0 q_r_1 q_r_2 f_r_0 f_r_1 f_r_2 q_r
  have O' : Old w p2 := (by rw [hp]; exact Below.trans (b := w1) O oldA)
  replace B_r : Bx p2 (w.heap.size) #[.bool false, .slice none 0 0, .slice none 0 0] := (bxK B_r hp)
  have zp2 : w1.heap.size ≤ p2.heap.size := (by rw [hp]; exact leA)
  clear hp O
  have O := O'
  clear O'
  refine (l02Trim_any A2 _ c2 y l2 _ (Row.below (B := w.heap.size) h2 O (Nat.le_refl _)) (Nat.le_refl _) (by omega)).mono ?_
  rintro e w2 ⟨rfl, o2⟩
  replace B_r := Bx.old B_r o2
  replace O := Old.trans O o2
  have zw2 := o2.size
  obtain ⟨q_r_0, q_r_1, q_r_2, f_r_0, f_r_1, f_r_2, q_r⟩ := B_r.all3
  go_wp2_with fail
  refine callsNamed ?_
  intro p3 hp
  clear q_r_0 q_r_1 q_r_2 f_r_0 f_r_1 f_r_2 q_r
  have O' : Old w p3 := (by rw [hp]; exact Below.trans (b := w2) O oldA)
  replace B_r : Bx p3 (w.heap.size) #[.bool false, .slice none 0 0, .slice none 0 0] := (bxK B_r hp)
  have zp3 : w2.heap.size ≤ p3.heap.size := (by rw [hp]; exact leA)
  clear hp O
  have O := O'
  clear O'
  refine (plain_to (by rw [decide_eq_false HD.out]) (l04One_any A2 c2 y l2 _ (Row.below (B := w.heap.size) h2 O (Nat.le_refl _)))).mono ?_
  rintro e w3 ⟨rfl, o3⟩
  replace B_r := Bx.old B_r o3
  replace O := Old.trans O o3
  have zw3 := o3.size
  obtain ⟨q_r_0, q_r_1, q_r_2, f_r_0, f_r_1, f_r_2, q_r⟩ := B_r.all3
  go_wp2_with fail
  refine callsNamed ?_
  intro p4 hp
  clear q_r_0 q_r_1 q_r_2 f_r_0 f_r_1 f_r_2 q_r
  have O' : Old w p4 := (by rw [hp]; exact Below.trans (b := w3) O oldA)
  replace B_r : Bx p4 (w.heap.size) #[.bool false, .slice none 0 0, .slice none 0 0] := (bxK B_r hp)
  have zp4 : w3.heap.size ≤ p4.heap.size := (by rw [hp]; exact leA)
  clear hp O
  have O := O'
  clear O'
  refine (l02Gcd_any A1 A2 c1 c2 x y l1 l2 _ (Row.below (B := w.heap.size) h1 O (Nat.le_refl _)) (Row.below (B := w.heap.size) h2 O (Nat.le_refl _)) (by omega) (by omega)).mono ?_
  rintro e w4 ⟨⟨A3, c3, he, r3⟩, o4⟩
  replace B_r := Bx.old B_r o4
  replace O := Old.trans O o4
  have zw4 := o4.size
  replace r3 := Row.more (lo' := p4.heap.size) r3 leA
  have lim_r3 := Row.lim r3
  rw [← HG.out] at he r3
  subst he
  obtain ⟨q_r_0, q_r_1, q_r_2, f_r_0, f_r_1, f_r_2, q_r⟩ := B_r.all3
  go_wp2_with fail
  refine callsNamed ?_
  intro p5 hp
  clear q_r_0 q_r_1 q_r_2 f_r_0 f_r_1 f_r_2 q_r
  have O' : Old w p5 := (by rw [hp]; exact Below.trans (b := w4) O oldA)
  replace B_r : Bx p5 (w.heap.size) #[.bool false, .slice none 0 0, .slice none 0 0] := (bxK B_r hp)
  replace r3 := rowK r3 hp
  have zp5 : w4.heap.size ≤ p5.heap.size := (by rw [hp]; exact leA)
  clear hp O
  have O := O'
  clear O'
  refine (plain_to (by rw [decide_eq_false HGE.out]) (l04One_any A3 c3 G _ _ r3)).mono ?_
  rintro e w5 ⟨rfl, o5⟩
  replace B_r := Bx.old B_r o5
  replace r3 := Row.below r3 o5 (Nat.le_refl _)
  replace O := Old.trans O o5
  have zw5 := o5.size
  obtain ⟨q_r_0, q_r_1, q_r_2, f_r_0, f_r_1, f_r_2, q_r⟩ := B_r.all3
  go_wp2_with fail
  refine callsNamed ?_
  intro p6 hp
  clear q_r_0 q_r_1 q_r_2 f_r_0 f_r_1 f_r_2 q_r
  have O' : Old w p6 := (by rw [hp]; exact Below.trans (b := w5) O oldA)
  replace B_r : Bx p6 (w.heap.size) #[.bool false, .slice none 0 0, .slice none 0 0] := (bxK B_r hp)
  replace r3 := rowK r3 hp
  have zp6 : w5.heap.size ≤ p6.heap.size := (by rw [hp]; exact leA)
  clear hp O
  have O := O'
  clear O'
  refine (l02Div_any A1 A3 c1 c3 x G l1 _ _ (Row.below (B := w.heap.size) h1 O (Nat.le_refl _)) r3 (by omega) (by omega) HGP.out).mono ?_
  rintro e w6 ⟨⟨A7, c7, A8, c8, he, r7, r8⟩, o6⟩
  replace B_r := Bx.old B_r o6
  replace r3 := Row.below r3 o6 (Nat.le_refl _)
  replace O := Old.trans O o6
  have zw6 := o6.size
  replace r7 := Row.more (lo' := p6.heap.size) r7 leA
  replace r8 := Row.more (lo' := p6.heap.size) r8 leA
  have lim_r7 := Row.lim r7
  have lim_r8 := Row.lim r8
  rw [← HX.out] at he r7
  subst he
  obtain ⟨q_r_0, q_r_1, q_r_2, f_r_0, f_r_1, f_r_2, q_r⟩ := B_r.all3
  go_wp2_with fail
  refine callsNamed ?_
  intro p7 hp
  clear q_r_0 q_r_1 q_r_2 f_r_0 f_r_1 f_r_2 q_r
  have O' : Old w p7 := (by rw [hp]; exact Below.trans (b := w6) O oldA)
  replace B_r : Bx p7 (w.heap.size) #[.bool false, .slice none 0 0, .slice none 0 0] := (bxK B_r hp)
  replace r3 := rowK r3 hp
  replace r7 := rowK r7 hp
  replace r8 := rowK r8 hp
  have zp7 : w6.heap.size ≤ p7.heap.size := (by rw [hp]; exact leA)
  clear hp O
  have O := O'
  clear O'
  refine (l02Div_any A2 A3 c2 c3 y G l2 _ _ (Row.below (B := w.heap.size) h2 O (Nat.le_refl _)) r3 (by omega) (by omega) HGP.out).mono ?_
  rintro e w7 ⟨⟨A9, c9, A0, c0, he, r9, r0⟩, o7⟩
  replace B_r := Bx.old B_r o7
  replace r3 := Row.below r3 o7 (Nat.le_refl _)
  replace r7 := Row.below r7 o7 (Nat.le_refl _)
  replace r8 := Row.below r8 o7 (Nat.le_refl _)
  replace O := Old.trans O o7
  have zw7 := o7.size
  replace r9 := Row.more (lo' := p7.heap.size) r9 leA
  replace r0 := Row.more (lo' := p7.heap.size) r0 leA
  have lim_r9 := Row.lim r9
  have lim_r0 := Row.lim r0
  rw [← HY.out] at he r9
  subst he
  obtain ⟨q_r_0, q_r_1, q_r_2, f_r_0, f_r_1, f_r_2, q_r⟩ := B_r.all3
  go_wp2_with fail
  refine callsNamed ?_
  intro p8 hp
  clear q_r_0 q_r_1 q_r_2 f_r_0 f_r_1 f_r_2 q_r
  have O' : Old w p8 := (by rw [hp]; exact Below.trans (b := w7) O oldA)
  replace B_r : Bx p8 (w.heap.size) #[.bool false, .slice none 0 0, .slice none 0 0] := (bxK B_r hp)
  replace r3 := rowK r3 hp
  replace r7 := rowK r7 hp
  replace r8 := rowK r8 hp
  replace r9 := rowK r9 hp
  replace r0 := rowK r0 hp
  have zp8 : w7.heap.size ≤ p8.heap.size := (by rw [hp]; exact leA)
  clear hp O
  have O := O'
  clear O'
  refine (retB_to Hz.out (l03Make_fit b A7 c7 X _ _ r7 (by omega))).mono ?_
  rintro e w8 ⟨⟨A5, c5, rfl, r5⟩, o8⟩
  replace B_r := Bx.old B_r o8
  replace r3 := Row.below r3 o8 (Nat.le_refl _)
  replace r7 := Row.below r7 o8 (Nat.le_refl _)
  replace r8 := Row.below r8 o8 (Nat.le_refl _)
  replace r9 := Row.below r9 o8 (Nat.le_refl _)
  replace r0 := Row.below r0 o8 (Nat.le_refl _)
  replace O := Old.trans O o8
  have zw8 := o8.size
  replace r5 := Row.more (lo' := p8.heap.size) r5 leA
  have lim_r5 := Row.lim r5
  obtain ⟨q_r_0, q_r_1, q_r_2, f_r_0, f_r_1, f_r_2, q_r⟩ := B_r.all3
  go_wp2_with (at_builtin; refine wpList_clone rfl (.tmp 51) (.tmp 52) rfl (base := w8.heap.size) (f := digI Y) rfl (fresh_own (Nat.le_refl _)) rfl (Row.below (B := w8.heap.size) r9 oldA (Nat.le_refl _)) (by omega) (by simp) ?_; intro A6 c6 w9 r6 o9; clear q_r_0 q_r_1 q_r_2 f_r_0 f_r_1 f_r_2 q_r; replace o9 : Old w8 w9 := Below.trans (b := _) oldA o9; replace B_r := Bx.old B_r o9; replace r3 := Row.below r3 o9 (Nat.le_refl _); replace r7 := Row.below r7 o9 (Nat.le_refl _); replace r8 := Row.below r8 o9 (Nat.le_refl _); replace r9 := Row.below r9 o9 (Nat.le_refl _); replace r0 := Row.below r0 o9 (Nat.le_refl _); replace r5 := Row.below r5 o9 (Nat.le_refl _); replace O := Old.trans O o9; have zw9 := o9.size; have lim_r6 := Row.lim r6; obtain ⟨q_r_0, q_r_1, q_r_2, f_r_0, f_r_1, f_r_2, q_r⟩ := B_r.all3)
  have AP := Apart.of lim_r5 r6 (by omega)
  have AP' := Lib.hid AP
  clear AP
  go_wp2
  refine bodyPost_ret (v := .agg #[.bool (sgnZ z), .slice A5 (len (magZ z)) c5, .slice A6 (len Y) c6]) (by simp [results, Try.results45, go_sem, q_r_0, q_r_1, q_r_2]) rfl ⟨⟨z, Y, A5, c5, A6, c6, Hv.out, rfl, ?_, ?_, AP'.out⟩, ?_⟩
  · refine Row.more (lo := p8.heap.size) ?_ leA
    repeat' (first | exact r5 | refine Row.far_set ?_ (by first | (simp <;> done) | (simp; omega) | omega) _)
  · refine Row.more (lo := w8.heap.size) ?_ leA
    repeat' (first | exact r6 | refine Row.far_set ?_ (by first | (simp <;> done) | (simp; omega) | omega) _)
  · exact Below.trans (b := w9) O oldA
set_option maxRecDepth 100000 in
set_option maxHeartbeats 1000000 in
theorem l04Low_red_longx (b : Bool) (A1 A2 : Option Addr) (c1 c2 x y l1 l2 : Nat) (w : World) (h1 : NatS w l1 A1 c1 x) (h2 : NatS w l2 A2 c2 y) (hx : len x ≤ 100) (hy : len y ≤ 100) (hp : 0 < y) (h1' : y ≠ 1) (hg : Nat.gcd x y ≠ 1) (hf1 : ¬ len (x / Nat.gcd x y) ≤ 24) :
    Calls Try.prog 45 #[.bool b, .slice A1 (len x) c1, .slice A2 (len y) c2] w fun e w' => RetR e w' w.heap.size ((0, 0)) ∧ Old w w' := by
  have hy0 : (((len y : Nat) : Int) == 0) = false := by have := len_pos hp; simp; omega
  have HD := Lib.hid h1'
  obtain ⟨G, hG⟩ : ∃ G, G = Nat.gcd x y := ⟨_, rfl⟩
  rw [← hG] at hg
  have hGp : 0 < G := by rw [hG]; exact gcd_pos hp
  have hGl : len G ≤ 100 := by rw [hG]; exact gcd_len hx hy
  have HGE := Lib.hid hg
  have HGP := Lib.hid hGp
  obtain ⟨X, hX⟩ : ∃ X, X = x / G := ⟨_, rfl⟩
  obtain ⟨Y, hY⟩ : ∃ Y, Y = y / G := ⟨_, rfl⟩
  have hXl : len X ≤ 100 := by rw [hX]; have := quo_len x G; omega
  have hYl : len Y ≤ 100 := by rw [hY]; have := quo_len y G; omega
  have HX := Lib.hid hX
  have HY := Lib.hid hY
  rw [← hG, ← hX] at hf1
  have t1 : (24 : Int) < ((len X : Nat) : Int) := by omega
  have HG := Lib.hid hG
  clear hG h1' hg hGp hp hX hY
  have O : Old w (w.alloc (.cells #[.bool false, .slice none 0 0, .slice none 0 0] 32)) := oldA
  have B_r : Bx (w.alloc (.cells #[.bool false, .slice none 0 0, .slice none 0 0] 32)) (w.heap.size) #[.bool false, .slice none 0 0, .slice none 0 0] := by have h := (Bx.new w #[.bool false, .slice none 0 0, .slice none 0 0] 32); simpa using h
  have ze : w.heap.size + 1 ≤ (w.alloc (.cells #[.bool false, .slice none 0 0, .slice none 0 0] 32)).heap.size := (by simp)
  go_enter Try.func45, Try.ntmps45
  go_wp2_with fail
  refine callsNamed ?_
  intro p1 hp
  have O' : Old w p1 := (by rw [hp]; exact Below.trans (b := (w.alloc (.cells #[.bool false, .slice none 0 0, .slice none 0 0] 32))) O oldA)
  replace B_r : Bx p1 (w.heap.size) #[.bool false, .slice none 0 0, .slice none 0 0] := (bxK B_r hp)
  have zp1 : (w.alloc (.cells #[.bool false, .slice none 0 0, .slice none 0 0] 32)).heap.size ≤ p1.heap.size := (by rw [hp]; exact leA)
  clear hp O
  have O := O'
  clear O'
  refine (l02Trim_any A1 _ c1 x l1 _ (Row.below (B := w.heap.size) h1 O (Nat.le_refl _)) (Nat.le_refl _) (by omega)).mono ?_
  rintro e w1 ⟨rfl, o1⟩
  replace B_r := Bx.old B_r o1
  replace O := Old.trans O o1
  have zw1 := o1.size
  obtain ⟨q_r_0, q_r_1, q_r_2, f_r_0, f_r_1, f_r_2, q_r⟩ := B_r.all3
  go_wp2_with fail
  refine callsNamed ?_
  intro p2 hp
  clear q_r_0 q_r_1 q_r_2 f_r_0 f_r_1 f_r_2 q_r
  have O' : Old w p2 := (by rw [hp]; exact Below.trans (b := w1) O oldA)
  replace B_r : Bx p2 (w.heap.size) #[.bool false, .slice none 0 0, .slice none 0 0] := (bxK B_r hp)
  have zp2 : w1.heap.size ≤ p2.heap.size := (by rw [hp]; exact leA)
  clear hp O
  have O := O'
  clear O'
  refine (l02Trim_any A2 _ c2 y l2 _ (Row.below (B := w.heap.size) h2 O (Nat.le_refl _)) (Nat.le_refl _) (by omega)).mono ?_
  rintro e w2 ⟨rfl, o2⟩
  replace B_r := Bx.old B_r o2
  replace O := Old.trans O o2
  have zw2 := o2.size
  obtain ⟨q_r_0, q_r_1, q_r_2, f_r_0, f_r_1, f_r_2, q_r⟩ := B_r.all3
  go_wp2_with fail
  refine callsNamed ?_
  intro p3 hp
  clear q_r_0 q_r_1 q_r_2 f_r_0 f_r_1 f_r_2 q_r
  have O' : Old w p3 := (by rw [hp]; exact Below.trans (b := w2) O oldA)
  replace B_r : Bx p3 (w.heap.size) #[.bool false, .slice none 0 0, .slice none 0 0] := (bxK B_r hp)
  have zp3 : w2.heap.size ≤ p3.heap.size := (by rw [hp]; exact leA)
  clear hp O
  have O := O'
  clear O'
  refine (plain_to (by rw [decide_eq_false HD.out]) (l04One_any A2 c2 y l2 _ (Row.below (B := w.heap.size) h2 O (Nat.le_refl _)))).mono ?_
  rintro e w3 ⟨rfl, o3⟩
  replace B_r := Bx.old B_r o3
  replace O := Old.trans O o3
  have zw3 := o3.size
  obtain ⟨q_r_0, q_r_1, q_r_2, f_r_0, f_r_1, f_r_2, q_r⟩ := B_r.all3
  go_wp2_with fail
  refine callsNamed ?_
  intro p4 hp
  clear q_r_0 q_r_1 q_r_2 f_r_0 f_r_1 f_r_2 q_r
  have O' : Old w p4 := (by rw [hp]; exact Below.trans (b := w3) O oldA)
  replace B_r : Bx p4 (w.heap.size) #[.bool false, .slice none 0 0, .slice none 0 0] := (bxK B_r hp)
  have zp4 : w3.heap.size ≤ p4.heap.size := (by rw [hp]; exact leA)
  clear hp O
  have O := O'
  clear O'
  refine (l02Gcd_any A1 A2 c1 c2 x y l1 l2 _ (Row.below (B := w.heap.size) h1 O (Nat.le_refl _)) (Row.below (B := w.heap.size) h2 O (Nat.le_refl _)) (by omega) (by omega)).mono ?_
  rintro e w4 ⟨⟨A3, c3, he, r3⟩, o4⟩
  replace B_r := Bx.old B_r o4
  replace O := Old.trans O o4
  have zw4 := o4.size
  replace r3 := Row.more (lo' := p4.heap.size) r3 leA
  have lim_r3 := Row.lim r3
  rw [← HG.out] at he r3
  subst he
  obtain ⟨q_r_0, q_r_1, q_r_2, f_r_0, f_r_1, f_r_2, q_r⟩ := B_r.all3
  go_wp2_with fail
  refine callsNamed ?_
  intro p5 hp
  clear q_r_0 q_r_1 q_r_2 f_r_0 f_r_1 f_r_2 q_r
  have O' : Old w p5 := (by rw [hp]; exact Below.trans (b := w4) O oldA)
  replace B_r : Bx p5 (w.heap.size) #[.bool false, .slice none 0 0, .slice none 0 0] := (bxK B_r hp)
  replace r3 := rowK r3 hp
  have zp5 : w4.heap.size ≤ p5.heap.size := (by rw [hp]; exact leA)
  clear hp O
  have O := O'
  clear O'
  refine (plain_to (by rw [decide_eq_false HGE.out]) (l04One_any A3 c3 G _ _ r3)).mono ?_
  rintro e w5 ⟨rfl, o5⟩
  replace B_r := Bx.old B_r o5
  replace r3 := Row.below r3 o5 (Nat.le_refl _)
  replace O := Old.trans O o5
  have zw5 := o5.size
  obtain ⟨q_r_0, q_r_1, q_r_2, f_r_0, f_r_1, f_r_2, q_r⟩ := B_r.all3
  go_wp2_with fail
  refine callsNamed ?_
  intro p6 hp
  clear q_r_0 q_r_1 q_r_2 f_r_0 f_r_1 f_r_2 q_r
  have O' : Old w p6 := (by rw [hp]; exact Below.trans (b := w5) O oldA)
  replace B_r : Bx p6 (w.heap.size) #[.bool false, .slice none 0 0, .slice none 0 0] := (bxK B_r hp)
  replace r3 := rowK r3 hp
  have zp6 : w5.heap.size ≤ p6.heap.size := (by rw [hp]; exact leA)
  clear hp O
  have O := O'
  clear O'
  refine (l02Div_any A1 A3 c1 c3 x G l1 _ _ (Row.below (B := w.heap.size) h1 O (Nat.le_refl _)) r3 (by omega) (by omega) HGP.out).mono ?_
  rintro e w6 ⟨⟨A7, c7, A8, c8, he, r7, r8⟩, o6⟩
  replace B_r := Bx.old B_r o6
  replace r3 := Row.below r3 o6 (Nat.le_refl _)
  replace O := Old.trans O o6
  have zw6 := o6.size
  replace r7 := Row.more (lo' := p6.heap.size) r7 leA
  replace r8 := Row.more (lo' := p6.heap.size) r8 leA
  have lim_r7 := Row.lim r7
  have lim_r8 := Row.lim r8
  rw [← HX.out] at he r7
  subst he
  obtain ⟨q_r_0, q_r_1, q_r_2, f_r_0, f_r_1, f_r_2, q_r⟩ := B_r.all3
  go_wp2_with fail
  refine callsNamed ?_
  intro p7 hp
  clear q_r_0 q_r_1 q_r_2 f_r_0 f_r_1 f_r_2 q_r
  have O' : Old w p7 := (by rw [hp]; exact Below.trans (b := w6) O oldA)
  replace B_r : Bx p7 (w.heap.size) #[.bool false, .slice none 0 0, .slice none 0 0] := (bxK B_r hp)
  replace r3 := rowK r3 hp
  replace r7 := rowK r7 hp
  replace r8 := rowK r8 hp
  have zp7 : w6.heap.size ≤ p7.heap.size := (by rw [hp]; exact leA)
  clear hp O
  have O := O'
  clear O'
  refine (l02Div_any A2 A3 c2 c3 y G l2 _ _ (Row.below (B := w.heap.size) h2 O (Nat.le_refl _)) r3 (by omega) (by omega) HGP.out).mono ?_
  rintro e w7 ⟨⟨A9, c9, A0, c0, he, r9, r0⟩, o7⟩
  replace B_r := Bx.old B_r o7
  replace r3 := Row.below r3 o7 (Nat.le_refl _)
  replace r7 := Row.below r7 o7 (Nat.le_refl _)
  replace r8 := Row.below r8 o7 (Nat.le_refl _)
  replace O := Old.trans O o7
  have zw7 := o7.size
  replace r9 := Row.more (lo' := p7.heap.size) r9 leA
  replace r0 := Row.more (lo' := p7.heap.size) r0 leA
  have lim_r9 := Row.lim r9
  have lim_r0 := Row.lim r0
  rw [← HY.out] at he r9
  subst he
  obtain ⟨q_r_0, q_r_1, q_r_2, f_r_0, f_r_1, f_r_2, q_r⟩ := B_r.all3
  go_wp2
  refine bodyPost_ret (v := .agg #[.bool false, .slice none 0 0, .slice none 0 0]) (by simp [results, Try.results45, go_sem, q_r_0, q_r_1, q_r_2]) rfl ⟨RetR.zero rfl, Below.trans (b := w7) O oldA⟩
set_option maxRecDepth 100000 in
set_option maxHeartbeats 1000000 in
theorem l04Low_red_longy (b : Bool) (A1 A2 : Option Addr) (c1 c2 x y l1 l2 : Nat) (w : World) (h1 : NatS w l1 A1 c1 x) (h2 : NatS w l2 A2 c2 y) (hx : len x ≤ 100) (hy : len y ≤ 100) (hp : 0 < y) (h1' : y ≠ 1) (hg : Nat.gcd x y ≠ 1) (hf1 : len (x / Nat.gcd x y) ≤ 24) (hf2 : ¬ len (y / Nat.gcd x y) ≤ 24) :
    Calls Try.prog 45 #[.bool b, .slice A1 (len x) c1, .slice A2 (len y) c2] w fun e w' => RetR e w' w.heap.size ((0, 0)) ∧ Old w w' := by
  have hy0 : (((len y : Nat) : Int) == 0) = false := by have := len_pos hp; simp; omega
  have HD := Lib.hid h1'
  obtain ⟨G, hG⟩ : ∃ G, G = Nat.gcd x y := ⟨_, rfl⟩
  rw [← hG] at hg
  have hGp : 0 < G := by rw [hG]; exact gcd_pos hp
  have hGl : len G ≤ 100 := by rw [hG]; exact gcd_len hx hy
  have HGE := Lib.hid hg
  have HGP := Lib.hid hGp
  obtain ⟨X, hX⟩ : ∃ X, X = x / G := ⟨_, rfl⟩
  obtain ⟨Y, hY⟩ : ∃ Y, Y = y / G := ⟨_, rfl⟩
  have hXl : len X ≤ 100 := by rw [hX]; have := quo_len x G; omega
  have hYl : len Y ≤ 100 := by rw [hY]; have := quo_len y G; omega
  have HX := Lib.hid hX
  have HY := Lib.hid hY
  rw [← hG, ← hX] at hf1
  rw [← hG, ← hY] at hf2
  have t1 : ¬ (24 : Int) < ((len X : Nat) : Int) := by omega
  have t2 : (24 : Int) < ((len Y : Nat) : Int) := by omega
  have HG := Lib.hid hG
  clear hG h1' hg hGp hp hX hY
  have O : Old w (w.alloc (.cells #[.bool false, .slice none 0 0, .slice none 0 0] 32)) := oldA
  have B_r : Bx (w.alloc (.cells #[.bool false, .slice none 0 0, .slice none 0 0] 32)) (w.heap.size) #[.bool false, .slice none 0 0, .slice none 0 0] := by have h := (Bx.new w #[.bool false, .slice none 0 0, .slice none 0 0] 32); simpa using h
  have ze : w.heap.size + 1 ≤ (w.alloc (.cells #[.bool false, .slice none 0 0, .slice none 0 0] 32)).heap.size := (by simp)
  go_enter Try.func45, Try.ntmps45
  go_wp2_with fail
  refine callsNamed ?_
  intro p1 hp
  have O' : Old w p1 := (by rw [hp]; exact Below.trans (b := (w.alloc (.cells #[.bool false, .slice none 0 0, .slice none 0 0] 32))) O oldA)
  replace B_r : Bx p1 (w.heap.size) #[.bool false, .slice none 0 0, .slice none 0 0] := (bxK B_r hp)
  have zp1 : (w.alloc (.cells #[.bool false, .slice none 0 0, .slice none 0 0] 32)).heap.size ≤ p1.heap.size := (by rw [hp]; exact leA)
  clear hp O
  have O := O'
  clear O'
  refine (l02Trim_any A1 _ c1 x l1 _ (Row.below (B := w.heap.size) h1 O (Nat.le_refl _)) (Nat.le_refl _) (by omega)).mono ?_
  rintro e w1 ⟨rfl, o1⟩
  replace B_r := Bx.old B_r o1
  replace O := Old.trans O o1
  have zw1 := o1.size
  obtain ⟨q_r_0, q_r_1, q_r_2, f_r_0, f_r_1, f_r_2, q_r⟩ := B_r.all3
  go_wp2_with fail
  refine callsNamed ?_
  intro p2 hp
  clear q_r_0 q_r_1 q_r_2 f_r_0 f_r_1 f_r_2 q_r
  have O' : Old w p2 := (by rw [hp]; exact Below.trans (b := w1) O oldA)
  replace B_r : Bx p2 (w.heap.size) #[.bool false, .slice none 0 0, .slice none 0 0] := (bxK B_r hp)
  have zp2 : w1.heap.size ≤ p2.heap.size := (by rw [hp]; exact leA)
  clear hp O
  have O := O'
  clear O'
  refine (l02Trim_any A2 _ c2 y l2 _ (Row.below (B := w.heap.size) h2 O (Nat.le_refl _)) (Nat.le_refl _) (by omega)).mono ?_
  rintro e w2 ⟨rfl, o2⟩
  replace B_r := Bx.old B_r o2
  replace O := Old.trans O o2
  have zw2 := o2.size
  obtain ⟨q_r_0, q_r_1, q_r_2, f_r_0, f_r_1, f_r_2, q_r⟩ := B_r.all3
  go_wp2_with fail
  refine callsNamed ?_
  intro p3 hp
  clear q_r_0 q_r_1 q_r_2 f_r_0 f_r_1 f_r_2 q_r
  have O' : Old w p3 := (by rw [hp]; exact Below.trans (b := w2) O oldA)
  replace B_r : Bx p3 (w.heap.size) #[.bool false, .slice none 0 0, .slice none 0 0] := (bxK B_r hp)
  have zp3 : w2.heap.size ≤ p3.heap.size := (by rw [hp]; exact leA)
  clear hp O
  have O := O'
  clear O'
  refine (plain_to (by rw [decide_eq_false HD.out]) (l04One_any A2 c2 y l2 _ (Row.below (B := w.heap.size) h2 O (Nat.le_refl _)))).mono ?_
  rintro e w3 ⟨rfl, o3⟩
  replace B_r := Bx.old B_r o3
  replace O := Old.trans O o3
  have zw3 := o3.size
  obtain ⟨q_r_0, q_r_1, q_r_2, f_r_0, f_r_1, f_r_2, q_r⟩ := B_r.all3
  go_wp2_with fail
  refine callsNamed ?_
  intro p4 hp
  clear q_r_0 q_r_1 q_r_2 f_r_0 f_r_1 f_r_2 q_r
  have O' : Old w p4 := (by rw [hp]; exact Below.trans (b := w3) O oldA)
  replace B_r : Bx p4 (w.heap.size) #[.bool false, .slice none 0 0, .slice none 0 0] := (bxK B_r hp)
  have zp4 : w3.heap.size ≤ p4.heap.size := (by rw [hp]; exact leA)
  clear hp O
  have O := O'
  clear O'
  refine (l02Gcd_any A1 A2 c1 c2 x y l1 l2 _ (Row.below (B := w.heap.size) h1 O (Nat.le_refl _)) (Row.below (B := w.heap.size) h2 O (Nat.le_refl _)) (by omega) (by omega)).mono ?_
  rintro e w4 ⟨⟨A3, c3, he, r3⟩, o4⟩
  replace B_r := Bx.old B_r o4
  replace O := Old.trans O o4
  have zw4 := o4.size
  replace r3 := Row.more (lo' := p4.heap.size) r3 leA
  have lim_r3 := Row.lim r3
  rw [← HG.out] at he r3
  subst he
  obtain ⟨q_r_0, q_r_1, q_r_2, f_r_0, f_r_1, f_r_2, q_r⟩ := B_r.all3
  go_wp2_with fail
  refine callsNamed ?_
  intro p5 hp
  clear q_r_0 q_r_1 q_r_2 f_r_0 f_r_1 f_r_2 q_r
  have O' : Old w p5 := (by rw [hp]; exact Below.trans (b := w4) O oldA)
  replace B_r : Bx p5 (w.heap.size) #[.bool false, .slice none 0 0, .slice none 0 0] := (bxK B_r hp)
  replace r3 := rowK r3 hp
  have zp5 : w4.heap.size ≤ p5.heap.size := (by rw [hp]; exact leA)
  clear hp O
  have O := O'
  clear O'
  refine (plain_to (by rw [decide_eq_false HGE.out]) (l04One_any A3 c3 G _ _ r3)).mono ?_
  rintro e w5 ⟨rfl, o5⟩
  replace B_r := Bx.old B_r o5
  replace r3 := Row.below r3 o5 (Nat.le_refl _)
  replace O := Old.trans O o5
  have zw5 := o5.size
  obtain ⟨q_r_0, q_r_1, q_r_2, f_r_0, f_r_1, f_r_2, q_r⟩ := B_r.all3
  go_wp2_with fail
  refine callsNamed ?_
  intro p6 hp
  clear q_r_0 q_r_1 q_r_2 f_r_0 f_r_1 f_r_2 q_r
  have O' : Old w p6 := (by rw [hp]; exact Below.trans (b := w5) O oldA)
  replace B_r : Bx p6 (w.heap.size) #[.bool false, .slice none 0 0, .slice none 0 0] := (bxK B_r hp)
  replace r3 := rowK r3 hp
  have zp6 : w5.heap.size ≤ p6.heap.size := (by rw [hp]; exact leA)
  clear hp O
  have O := O'
  clear O'
  refine (l02Div_any A1 A3 c1 c3 x G l1 _ _ (Row.below (B := w.heap.size) h1 O (Nat.le_refl _)) r3 (by omega) (by omega) HGP.out).mono ?_
  rintro e w6 ⟨⟨A7, c7, A8, c8, he, r7, r8⟩, o6⟩
  replace B_r := Bx.old B_r o6
  replace r3 := Row.below r3 o6 (Nat.le_refl _)
  replace O := Old.trans O o6
  have zw6 := o6.size
  replace r7 := Row.more (lo' := p6.heap.size) r7 leA
  replace r8 := Row.more (lo' := p6.heap.size) r8 leA
  have lim_r7 := Row.lim r7
  have lim_r8 := Row.lim r8
  rw [← HX.out] at he r7
  subst he
  obtain ⟨q_r_0, q_r_1, q_r_2, f_r_0, f_r_1, f_r_2, q_r⟩ := B_r.all3
  go_wp2_with fail
  refine callsNamed ?_
  intro p7 hp
  clear q_r_0 q_r_1 q_r_2 f_r_0 f_r_1 f_r_2 q_r
  have O' : Old w p7 := (by rw [hp]; exact Below.trans (b := w6) O oldA)
  replace B_r : Bx p7 (w.heap.size) #[.bool false, .slice none 0 0, .slice none 0 0] := (bxK B_r hp)
  replace r3 := rowK r3 hp
  replace r7 := rowK r7 hp
  replace r8 := rowK r8 hp
  have zp7 : w6.heap.size ≤ p7.heap.size := (by rw [hp]; exact leA)
  clear hp O
  have O := O'
  clear O'
  refine (l02Div_any A2 A3 c2 c3 y G l2 _ _ (Row.below (B := w.heap.size) h2 O (Nat.le_refl _)) r3 (by omega) (by omega) HGP.out).mono ?_
  rintro e w7 ⟨⟨A9, c9, A0, c0, he, r9, r0⟩, o7⟩
  replace B_r := Bx.old B_r o7
  replace r3 := Row.below r3 o7 (Nat.le_refl _)
  replace r7 := Row.below r7 o7 (Nat.le_refl _)
  replace r8 := Row.below r8 o7 (Nat.le_refl _)
  replace O := Old.trans O o7
  have zw7 := o7.size
  replace r9 := Row.more (lo' := p7.heap.size) r9 leA
  replace r0 := Row.more (lo' := p7.heap.size) r0 leA
  have lim_r9 := Row.lim r9
  have lim_r0 := Row.lim r0
  rw [← HY.out] at he r9
  subst he
  obtain ⟨q_r_0, q_r_1, q_r_2, f_r_0, f_r_1, f_r_2, q_r⟩ := B_r.all3
  go_wp2
  refine bodyPost_ret (v := .agg #[.bool false, .slice none 0 0, .slice none 0 0]) (by simp [results, Try.results45, go_sem, q_r_0, q_r_1, q_r_2]) rfl ⟨RetR.zero rfl, Below.trans (b := w7) O oldA⟩
theorem l04Low_any (b : Bool) (A1 A2 : Option Addr) (c1 c2 x y l1 l2 : Nat) (w : World) (h1 : NatS w l1 A1 c1 x) (h2 : NatS w l2 A2 c2 y) (hx : len x ≤ 100) (hy : len y ≤ 100) :
    Calls Try.prog 45 #[.bool b, .slice A1 (len x) c1, .slice A2 (len y) c2] w fun e w' => RetR e w' w.heap.size (mkF (signed b x) y) ∧ Old w w' := by
  by_cases hp : 0 < y
  case neg => rw [mkF_d0 (by omega)]; exact l04Low_zero b A1 A2 c1 c2 x y l1 l2 w h1 h2 hx hy (by omega)
  by_cases h1' : y = 1
  · by_cases hf : len x ≤ 24
    · exact l04Low_one_fit b A1 A2 c1 c2 x y l1 l2 w h1 h2 hx hy h1' hf
    · rw [mkF_signed_no (fun h => hf (by have := h.1; rwa [h1', Nat.gcd_one_right, Nat.div_one] at this))]
      exact l04Low_one_longx b A1 A2 c1 c2 x y l1 l2 w h1 h2 hx hy h1' hf
  · by_cases hg : Nat.gcd x y = 1
    · by_cases hf : len x ≤ 24
      · by_cases hf2 : len y ≤ 24
        · exact l04Low_low_fit b A1 A2 c1 c2 x y l1 l2 w h1 h2 hx hy hp h1' hg hf hf2
        · rw [mkF_signed_no (fun h => hf2 (by have := h.2; rwa [hg, Nat.div_one] at this))]
          exact l04Low_low_longy b A1 A2 c1 c2 x y l1 l2 w h1 h2 hx hy hp h1' hg hf hf2
      · rw [mkF_signed_no (fun h => hf (by have := h.1; rwa [hg, Nat.div_one] at this))]
        exact l04Low_low_longx b A1 A2 c1 c2 x y l1 l2 w h1 h2 hx hy hp h1' hg hf
    · by_cases hf : len (x / Nat.gcd x y) ≤ 24
      · by_cases hf2 : len (y / Nat.gcd x y) ≤ 24
        · exact l04Low_red_fit b A1 A2 c1 c2 x y l1 l2 w h1 h2 hx hy hp h1' hg hf hf2
        · rw [mkF_signed_no (fun h => hf2 h.2)]
          exact l04Low_red_longy b A1 A2 c1 c2 x y l1 l2 w h1 h2 hx hy hp h1' hg hf hf2
      · rw [mkF_signed_no (fun h => hf h.1)]
        exact l04Low_red_longx b A1 A2 c1 c2 x y l1 l2 w h1 h2 hx hy hp h1' hg hf
theorem l04Low_lit (b : Bool) (A1 : Option Addr) (c1 x l1 g : Nat) (w : World) (h1 : NatS w l1 A1 c1 x) (h2 : Row w 0 (some ⟨g, 0, none⟩) 1 1 (digI 1)) (hx : len x ≤ 100) :
    Calls Try.prog 45 #[.bool b, .slice A1 (len x) c1, .slice (some ⟨g, 0, none⟩) 1 1] w fun e w' => RetR e w' w.heap.size (mkF (signed b x) 1) ∧ Old w w' := by
  have h2' : NatS w 0 (some ⟨g, 0, none⟩) 1 1 := by unfold NatS; rw [len_1]; exact h2
  have h := l04Low_any b A1 (some ⟨g, 0, none⟩) c1 1 x 1 l1 0 w h1 h2' hx (by rw [len_1]; omega)
  rw [len_1] at h
  exact h
theorem one_row_at (w : World) (g : Nat) (hg : g = w.heap.size) : Row (w.alloc (.cells #[.int .i64 1] 3)) 0 (some ⟨g, 0, none⟩) 1 1 (digI 1) := by subst hg; exact one_row' w
end Go.Proofs.Ytgchbbjhdeobpaa
