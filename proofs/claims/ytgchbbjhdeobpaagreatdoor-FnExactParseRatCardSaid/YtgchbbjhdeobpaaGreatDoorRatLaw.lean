import Derived.Test.YtgchbbjhdeobpaaGreatDoorWk
import Derived.Test.YtgchbbjhdeobpaaGreatDoorBigLaw
/-
  The helpers of the laws on fractions: their size, copying, comparing, marking, looking at the marks.
-/
namespace Go.Proofs.YtgchbbjhdeobpaaGreatDoor
set_option linter.unusedVariables false
open Go.RowKit Num
attribute [local go_sem ↓] Go.wp_at_zero Go.wp_at_succ
set_option maxRecDepth 100000 in
set_option maxHeartbeats 1000000 in
theorem eqRat_yes (b : Bool) (A1 A2 : Option Addr) (n c1 c2 : Nat) (f g : Nat → Int) (l1 l2 : Nat) (A1v A2v : Option Addr) (nv c1v c2v : Nat) (fv gv : Nat → Int) (l1v l2v : Nat) (w : World) (h1 : Row w l1 A1 n c1 f) (h2 : Row w l2 A2 n c2 g) (he : ∀ j, j < n → f j = g j) (hn : n ≤ 1048576) (h1v : Row w l1v A1v nv c1v fv) (h2v : Row w l2v A2v nv c2v gv) (hev : ∀ j, j < nv → fv j = gv j) (hnv : nv ≤ 1048576) :
    Calls Tryz.prog 7 #[.agg #[.bool b, .slice A1 n c1, .slice A1v nv c1v], .agg #[.bool b, .slice A2 n c2, .slice A2v nv c2v]] w fun e w' => e = .returned (.bool true) ∧ Old w w' := by
  have He := Lib.hid he
  have Hev := Lib.hid hev
  clear he hev
  have O : Old w ((w.alloc (.cells #[.bool b, .slice A1 n c1, .slice A1v nv c1v] 26)).alloc (.cells #[.bool b, .slice A2 n c2, .slice A2v nv c2v] 26)) := oldA
  have B_x : Bx ((w.alloc (.cells #[.bool b, .slice A1 n c1, .slice A1v nv c1v] 26)).alloc (.cells #[.bool b, .slice A2 n c2, .slice A2v nv c2v] 26)) (w.heap.size) #[.bool b, .slice A1 n c1, .slice A1v nv c1v] := by have h := (Bx.alloc (Bx.new w #[.bool b, .slice A1 n c1, .slice A1v nv c1v] 26) (.cells #[.bool b, .slice A2 n c2, .slice A2v nv c2v] 26)); simpa using h
  have B_y : Bx ((w.alloc (.cells #[.bool b, .slice A1 n c1, .slice A1v nv c1v] 26)).alloc (.cells #[.bool b, .slice A2 n c2, .slice A2v nv c2v] 26)) (w.heap.size + 1) #[.bool b, .slice A2 n c2, .slice A2v nv c2v] := by have h := (Bx.new (w.alloc (.cells #[.bool b, .slice A1 n c1, .slice A1v nv c1v] 26)) #[.bool b, .slice A2 n c2, .slice A2v nv c2v] 26); simpa using h
  have ne_0_1 : ¬ (w.heap.size = w.heap.size + 1) := by omega
  have ne_1_0 : ¬ (w.heap.size + 1 = w.heap.size) := by omega
  have ze : w.heap.size + 2 ≤ ((w.alloc (.cells #[.bool b, .slice A1 n c1, .slice A1v nv c1v] 26)).alloc (.cells #[.bool b, .slice A2 n c2, .slice A2v nv c2v] 26)).heap.size := (by simp)
  go_enter Tryz.func7, Tryz.ntmps7
  go_wp2_with fail
  refine callsNamed ?_
  intro p1 hp
  have O' : Old w p1 := (by rw [hp]; exact Below.trans (b := ((w.alloc (.cells #[.bool b, .slice A1 n c1, .slice A1v nv c1v] 26)).alloc (.cells #[.bool b, .slice A2 n c2, .slice A2v nv c2v] 26))) O oldA)
  replace B_x : Bx p1 (w.heap.size) #[.bool b, .slice A1 n c1, .slice A1v nv c1v] := (bxK B_x hp)
  replace B_y : Bx p1 (w.heap.size + 1) #[.bool b, .slice A2 n c2, .slice A2v nv c2v] := (bxK B_y hp)
  have zp1 : ((w.alloc (.cells #[.bool b, .slice A1 n c1, .slice A1v nv c1v] 26)).alloc (.cells #[.bool b, .slice A2 n c2, .slice A2v nv c2v] 26)).heap.size ≤ p1.heap.size := (by rw [hp]; exact leA)
  clear hp O
  have O := O'
  clear O'
  refine (eqBigInt_yes b A1 A2 n c1 c2 f g l1 l2 _ (Row.below (B := w.heap.size) h1 O (Nat.le_refl _)) (Row.below (B := w.heap.size) h2 O (Nat.le_refl _)) He.out hn).mono ?_
  rintro e w1 ⟨rfl, o1⟩
  replace B_x := Bx.old B_x o1
  replace B_y := Bx.old B_y o1
  replace O := Old.trans O o1
  have zw1 := o1.size
  obtain ⟨q_x_0, q_x_1, q_x_2, f_x_0, f_x_1, f_x_2, q_x⟩ := B_x.all3
  obtain ⟨q_y_0, q_y_1, q_y_2, f_y_0, f_y_1, f_y_2, q_y⟩ := B_y.all3
  go_wp2_with fail
  refine callsNamed ?_
  intro p2 hp
  clear q_x_0 q_x_1 q_x_2 f_x_0 f_x_1 f_x_2 q_x q_y_0 q_y_1 q_y_2 f_y_0 f_y_1 f_y_2 q_y
  have O' : Old w p2 := (by rw [hp]; exact Below.trans (b := w1) O oldA)
  replace B_x : Bx p2 (w.heap.size) #[.bool b, .slice A1 n c1, .slice A1v nv c1v] := (bxK B_x hp)
  replace B_y : Bx p2 (w.heap.size + 1) #[.bool b, .slice A2 n c2, .slice A2v nv c2v] := (bxK B_y hp)
  have zp2 : w1.heap.size ≤ p2.heap.size := (by rw [hp]; exact leA)
  clear hp O
  have O := O'
  clear O'
  refine (eqIntS_yes A1v A2v nv c1v c2v fv gv l1v l2v _ (Row.below (B := w.heap.size) h1v O (Nat.le_refl _)) (Row.below (B := w.heap.size) h2v O (Nat.le_refl _)) Hev.out hnv).mono ?_
  rintro e w2 ⟨rfl, o2⟩
  replace B_x := Bx.old B_x o2
  replace B_y := Bx.old B_y o2
  replace O := Old.trans O o2
  have zw2 := o2.size
  obtain ⟨q_x_0, q_x_1, q_x_2, f_x_0, f_x_1, f_x_2, q_x⟩ := B_x.all3
  obtain ⟨q_y_0, q_y_1, q_y_2, f_y_0, f_y_1, f_y_2, q_y⟩ := B_y.all3
  go_wp2
  go_ret
  exact ⟨rfl, Below.trans (b := w2) O oldA⟩
set_option maxRecDepth 100000 in
set_option maxHeartbeats 1000000 in
theorem markRat_any (b : Bool) (A : Option Addr) (n c : Nat) (f : Nat → Int) (lo : Nat) (D : Option Addr) (m e : Nat) (g : Nat → Int) (lo' : Nat) (i : Int) (w : World) (h : Row w lo A n c f) (k : Row w lo' D m e g) (ap : Apart A n D m) (hn : n ≤ 1048576) (hm : m ≤ 1048576) (hk0 : 0 ≤ i) (hk1 : i ≤ 900000000) :
    Calls Tryz.prog 8 #[.agg #[.bool b, .slice A n c, .slice D m e], .int .i64 i] w fun x w' => x = .returned (.int .i64 (i + n + m)) ∧ Row w' lo A n c (fun j => i + j) ∧ Row w' lo' D m e (fun j => i + n + j) ∧ ∃ wm, w.grownBy wm (rowOf A n) ∧ wm.grownBy w' (rowOf D m) := by
  have AP := Lib.hid ap
  clear ap
  have la := Row.lim h
  have ld := Row.lim k
  have lz : Low 0 A n := fun _ a _ => Nat.zero_le _
  have lzd : Low 0 D m := fun _ a _ => Nat.zero_le _
  have B0 : Bx (w.alloc (.cells #[.bool b, .slice A n c, .slice D m e] 26)) w.heap.size #[.bool b, .slice A n c, .slice D m e] := Bx.new _ _ _
  have ht : 0 ≤ i + (n : Int) := by omega
  have ht' : i + (n : Int) ≤ 1000000000 := by omega
  go_enter Tryz.func8, Tryz.ntmps8
  go_wp2_with fail
  refine (markBigInt_any b A n c f lo i _ (Row.below (B := w.heap.size) h oldA (Nat.le_refl _)) hn hk0 (by omega)).mono ?_
  rintro x w1 ⟨rfl, r1, g1⟩
  have k1 : Row w1 lo' D m e g := Row.kept (Row.below (B := w.heap.size) k oldA (Nat.le_refl _)) g1 (fun a a' h1 h2 e1 e2 => (AP.out a' a h2 h1 e2 e1).symm)
  replace B0 := B0.apart g1 lz la (Or.inr (Nat.le_refl _))
  have q0 := B0.cell 0 rfl
  have q1 := B0.cell 1 rfl
  have q2 := B0.cell 2 rfl
  have q3 := B0.lt
  go_wp2_with fail
  refine (markIntS_any D m e g lo' (i + n) _ k1 hm ht ht').mono ?_
  rintro x w2 ⟨rfl, r2, g2⟩
  have r1' := Row.kept r1 g2 (fun a a' h1 h2 e1 e2 => AP.out a a' h1 h2 e1 e2)
  clear q0 q1 q2 q3
  go_wp2
  go_ret
  exact ⟨rfl, r1', r2, w1, World.grownBy.trans (World.grownBy_alloc _ _ _) g1, g2⟩
set_option maxRecDepth 100000 in
set_option maxHeartbeats 1000000 in
theorem heldRat_yes (b : Bool) (A : Option Addr) (n c : Nat) (f : Nat → Int) (lo : Nat) (D : Option Addr) (m e : Nat) (g : Nat → Int) (lo' : Nat) (i : Int) (w : World) (h1 : Row w lo A n c f) (he : ∀ j, j < n → f j = i + j) (hn : n ≤ 1048576) (k1 : Row w lo' D m e g) (he' : ∀ j, j < m → g j = i + n + j) (hm : m ≤ 1048576) (hk0 : 0 ≤ i) (hk1 : i ≤ 900000000) :
    Calls Tryz.prog 9 #[.agg #[.bool b, .slice A n c, .slice D m e], .int .i64 i] w fun x w' => x = .returned (.int .i64 (i + n + m)) ∧ Old w w' := by
  have He := Lib.hid he
  have He' := Lib.hid he'
  clear he he'
  have ht : 0 ≤ i + (n : Int) := by omega
  have ht' : i + (n : Int) ≤ 1000000000 := by omega
  have hi' : i ≤ 1000000000 := by omega
  have t1 : ¬ i + (n : Int) < 0 := by omega
  have t2 : ¬ i + (n : Int) + (m : Int) < 0 := by omega
  have O : Old w (w.alloc (.cells #[.bool b, .slice A n c, .slice D m e] 26)) := oldA
  have B_x : Bx (w.alloc (.cells #[.bool b, .slice A n c, .slice D m e] 26)) (w.heap.size) #[.bool b, .slice A n c, .slice D m e] := by have h := (Bx.new w #[.bool b, .slice A n c, .slice D m e] 26); simpa using h
  have ze : w.heap.size + 1 ≤ (w.alloc (.cells #[.bool b, .slice A n c, .slice D m e] 26)).heap.size := (by simp)
  go_enter Tryz.func9, Tryz.ntmps9
  go_wp2_with fail
  refine callsNamed ?_
  intro p1 hp
  have O' : Old w p1 := (by rw [hp]; exact Below.trans (b := (w.alloc (.cells #[.bool b, .slice A n c, .slice D m e] 26))) O oldA)
  replace B_x : Bx p1 (w.heap.size) #[.bool b, .slice A n c, .slice D m e] := (bxK B_x hp)
  have zp1 : (w.alloc (.cells #[.bool b, .slice A n c, .slice D m e] 26)).heap.size ≤ p1.heap.size := (by rw [hp]; exact leA)
  clear hp O
  have O := O'
  clear O'
  refine (heldBigInt_yes b A n c f lo i _ (Row.below (B := w.heap.size) h1 O (Nat.le_refl _)) He.out hn hk0 hi').mono ?_
  rintro e w1 ⟨rfl, o1⟩
  replace B_x := Bx.old B_x o1
  replace O := Old.trans O o1
  have zw1 := o1.size
  obtain ⟨q_x_0, q_x_1, q_x_2, f_x_0, f_x_1, f_x_2, q_x⟩ := B_x.all3
  go_wp2_with fail
  refine callsNamed ?_
  intro p2 hp
  clear q_x_0 q_x_1 q_x_2 f_x_0 f_x_1 f_x_2 q_x
  have O' : Old w p2 := (by rw [hp]; exact Below.trans (b := w1) O oldA)
  replace B_x : Bx p2 (w.heap.size) #[.bool b, .slice A n c, .slice D m e] := (bxK B_x hp)
  have zp2 : w1.heap.size ≤ p2.heap.size := (by rw [hp]; exact leA)
  clear hp O
  have O := O'
  clear O'
  refine (heldIntS_yes D m e g lo' (i + n) _ (Row.below (B := w.heap.size) k1 O (Nat.le_refl _)) He'.out hm ht ht').mono ?_
  rintro e w2 ⟨rfl, hw⟩
  have hw2 : p2 = w2 := (by first | exact hw | exact hw.symm)
  subst hw2
  obtain ⟨q_x_0, q_x_1, q_x_2, f_x_0, f_x_1, f_x_2, q_x⟩ := B_x.all3
  go_wp2
  go_ret
  exact ⟨rfl, Below.trans (b := p2) O oldA⟩
end Go.Proofs.YtgchbbjhdeobpaaGreatDoor
