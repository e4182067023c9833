import Derived.Test.YtgchbbjhdeobpaaWk
import Derived.Test.YtgchbbjhdeobpaaBigLaw
/-
  The helpers of the laws on fractions: their size, copying, comparing, marking, looking at the marks.
-/
namespace Go.Proofs.Ytgchbbjhdeobpaa
set_option linter.unusedVariables false
open Go.RowKit Num
attribute [local go_sem ↓] Go.wp_at_zero Go.wp_at_succ
set_option maxRecDepth 100000 in
set_option maxHeartbeats 1000000 in
theorem toRat_any (b : Bool) (A : Option Addr) (n c : Nat) (f : Nat → Int) (D : Option Addr) (m e : Nat) (g : Nat → Int) (w : World) (h1 : Rd w A n c f) (k1 : Rd w D m e g) (hn : n ≤ 1048576) (hm : m ≤ 1048576) :
    Calls Try.prog 17 #[.agg #[.bool b, .slice A n c, .slice D m e]] w fun x w' => ∃ A' D', x = .returned (.agg #[.bool b, .slice A' n n, .slice D' m m]) ∧ Row w' w.heap.size A' n n f ∧ Row w' w.heap.size D' m m g ∧ Apart A' n D' m ∧ Old w w' := by
  have O : Old w (((w.alloc (.cells #[.bool b, .slice A n c, .slice D m e] 26)).alloc (.cells #[.bool false, .slice none 0 0, .slice none 0 0] 32)).alloc (.cells #[.bool false, .slice none 0 0, .slice none 0 0] 32)) := oldA
  have B_a : Bx (((w.alloc (.cells #[.bool b, .slice A n c, .slice D m e] 26)).alloc (.cells #[.bool false, .slice none 0 0, .slice none 0 0] 32)).alloc (.cells #[.bool false, .slice none 0 0, .slice none 0 0] 32)) (w.heap.size) #[.bool b, .slice A n c, .slice D m e] := by have h := (Bx.alloc (Bx.alloc (Bx.new w #[.bool b, .slice A n c, .slice D m e] 26) (.cells #[.bool false, .slice none 0 0, .slice none 0 0] 32)) (.cells #[.bool false, .slice none 0 0, .slice none 0 0] 32)); simpa using h
  have B_r : Bx (((w.alloc (.cells #[.bool b, .slice A n c, .slice D m e] 26)).alloc (.cells #[.bool false, .slice none 0 0, .slice none 0 0] 32)).alloc (.cells #[.bool false, .slice none 0 0, .slice none 0 0] 32)) (w.heap.size + 1) #[.bool false, .slice none 0 0, .slice none 0 0] := by have h := (Bx.alloc (Bx.new (w.alloc (.cells #[.bool b, .slice A n c, .slice D m e] 26)) #[.bool false, .slice none 0 0, .slice none 0 0] 32) (.cells #[.bool false, .slice none 0 0, .slice none 0 0] 32)); simpa using h
  have B_q : Bx (((w.alloc (.cells #[.bool b, .slice A n c, .slice D m e] 26)).alloc (.cells #[.bool false, .slice none 0 0, .slice none 0 0] 32)).alloc (.cells #[.bool false, .slice none 0 0, .slice none 0 0] 32)) (w.heap.size + 1 + 1) #[.bool false, .slice none 0 0, .slice none 0 0] := by have h := (Bx.new ((w.alloc (.cells #[.bool b, .slice A n c, .slice D m e] 26)).alloc (.cells #[.bool false, .slice none 0 0, .slice none 0 0] 32)) #[.bool false, .slice none 0 0, .slice none 0 0] 32); simpa using h
  have ne_0_1 : ¬ (w.heap.size = w.heap.size + 1) := by omega
  have ne_0_2 : ¬ (w.heap.size = w.heap.size + 1 + 1) := by omega
  have ne_1_0 : ¬ (w.heap.size + 1 = w.heap.size) := by omega
  have ne_1_2 : ¬ (w.heap.size + 1 = w.heap.size + 1 + 1) := by omega
  have ne_2_0 : ¬ (w.heap.size + 1 + 1 = w.heap.size) := by omega
  have ne_2_1 : ¬ (w.heap.size + 1 + 1 = w.heap.size + 1) := by omega
  have ze : w.heap.size + 3 ≤ (((w.alloc (.cells #[.bool b, .slice A n c, .slice D m e] 26)).alloc (.cells #[.bool false, .slice none 0 0, .slice none 0 0] 32)).alloc (.cells #[.bool false, .slice none 0 0, .slice none 0 0] 32)).heap.size := (by simp)
  go_enter Try.func17, Try.ntmps17
  go_wp2_with fail
  refine callsNamed ?_
  intro p1 hp
  have O' : Old w p1 := (by rw [hp]; exact Below.trans (b := (((w.alloc (.cells #[.bool b, .slice A n c, .slice D m e] 26)).alloc (.cells #[.bool false, .slice none 0 0, .slice none 0 0] 32)).alloc (.cells #[.bool false, .slice none 0 0, .slice none 0 0] 32))) O oldA)
  replace B_a : Bx p1 (w.heap.size) #[.bool b, .slice A n c, .slice D m e] := (bxK B_a hp)
  replace B_r : Bx p1 (w.heap.size + 1) #[.bool false, .slice none 0 0, .slice none 0 0] := (bxK B_r hp)
  replace B_q : Bx p1 (w.heap.size + 1 + 1) #[.bool false, .slice none 0 0, .slice none 0 0] := (bxK B_q hp)
  have zp1 : (((w.alloc (.cells #[.bool b, .slice A n c, .slice D m e] 26)).alloc (.cells #[.bool false, .slice none 0 0, .slice none 0 0] 32)).alloc (.cells #[.bool false, .slice none 0 0, .slice none 0 0] 32)).heap.size ≤ p1.heap.size := (by rw [hp]; exact leA)
  clear hp O
  have O := O'
  clear O'
  refine (toBigInt_any b A n c f _ (Rd.below (B := w.heap.size) h1 O (Nat.le_refl _)) hn).mono ?_
  rintro e w1 ⟨A3, rfl, r3, o1⟩
  replace B_a := Bx.old B_a o1
  replace B_r := Bx.old B_r o1
  replace B_q := Bx.old B_q o1
  replace O := Old.trans O o1
  have zw1 := o1.size
  replace r3 := Row.more (lo' := p1.heap.size) r3 leA
  have lim_r3 := Row.lim r3
  obtain ⟨q_a_0, q_a_1, q_a_2, f_a_0, f_a_1, f_a_2, q_a⟩ := B_a.all3
  obtain ⟨q_r_0, q_r_1, q_r_2, f_r_0, f_r_1, f_r_2, q_r⟩ := B_r.all3
  obtain ⟨q_q_0, q_q_1, q_q_2, f_q_0, f_q_1, f_q_2, q_q⟩ := B_q.all3
  go_wp2_with fail
  refine callsNamed ?_
  intro p2 hp
  clear q_a_0 q_a_1 q_a_2 f_a_0 f_a_1 f_a_2 q_a q_r_0 q_r_1 q_r_2 f_r_0 f_r_1 f_r_2 q_r q_q_0 q_q_1 q_q_2 f_q_0 f_q_1 f_q_2 q_q
  have O' : Old w p2 := (by rw [hp]; exact Below.trans (b := w1) O oldA)
  replace B_a : Bx p2 (w.heap.size) #[.bool b, .slice A n c, .slice D m e] := (bxK B_a hp)
  replace B_r : Bx p2 (w.heap.size + 1) #[.bool false, .slice none 0 0, .slice none 0 0] := (bxK B_r hp)
  replace B_q : Bx p2 (w.heap.size + 1 + 1) #[.bool b, .slice A3 n n, .slice none 0 0] := (by rw [hp]; repeat' (first | (with_reducible exact B_q) | (with_reducible refine Bx.alloc ?_ _) | (with_reducible refine Bx.drewN ?_ _) | (with_reducible refine Bx.drew ?_) | refine Bx.set (cs := #[.bool b, .slice none 0 0, .slice none 0 0]) ?_ 1 _ | refine Bx.set (cs := #[.bool false, .slice none 0 0, .slice none 0 0]) ?_ 0 _ | refine Bx.far ?_ (by first | assumption | (simp <;> done) | (simp; omega) | omega) _))
  replace r3 := rowK r3 hp
  have zp2 : w1.heap.size ≤ p2.heap.size := (by rw [hp]; exact leA)
  clear hp O
  have O := O'
  clear O'
  refine (toIntS_ex D m e g _ (Rd.below (B := w.heap.size) k1 O (Nat.le_refl _)) hm).mono ?_
  rintro e w2 ⟨A4, rfl, r4, o2⟩
  replace B_a := Bx.old B_a o2
  replace B_r := Bx.old B_r o2
  replace B_q := Bx.old B_q o2
  replace r3 := Row.below r3 o2 (Nat.le_refl _)
  replace O := Old.trans O o2
  have zw2 := o2.size
  replace r4 := Row.more (lo' := p2.heap.size) r4 leA
  have lim_r4 := Row.lim r4
  obtain ⟨q_a_0, q_a_1, q_a_2, f_a_0, f_a_1, f_a_2, q_a⟩ := B_a.all3
  obtain ⟨q_r_0, q_r_1, q_r_2, f_r_0, f_r_1, f_r_2, q_r⟩ := B_r.all3
  obtain ⟨q_q_0, q_q_1, q_q_2, f_q_0, f_q_1, f_q_2, q_q⟩ := B_q.all3
  have AP := Apart.of lim_r3 r4 (by omega)
  have AP' := Lib.hid AP
  clear AP
  go_wp2
  refine bodyPost_ret (v := .agg #[.bool b, .slice A3 n n, .slice A4 m m]) (by simp [results, Try.results17, go_sem, q_r_0, q_r_1, q_r_2]) rfl ⟨A3, A4, rfl, ?_, ?_, AP'.out, ?_⟩
  · refine Row.more (lo := p1.heap.size) ?_ leA
    repeat' (first | (with_reducible exact r3) | (with_reducible refine Row.far_set ?_ (by first | (simp <;> done) | (simp; omega) | omega) _))
  · refine Row.more (lo := p2.heap.size) ?_ leA
    repeat' (first | (with_reducible exact r4) | (with_reducible refine Row.far_set ?_ (by first | (simp <;> done) | (simp; omega) | omega) _))
  · exact Below.trans (b := w2) O oldA
set_option maxRecDepth 100000 in
set_option maxHeartbeats 1000000 in
theorem eqRat_yes (b : Bool) (A1 A2 : Option Addr) (n c1 c2 : Nat) (f g : Nat → Int) (l1 l2 : Nat) (A1v A2v : Option Addr) (nv c1v c2v : Nat) (fv gv : Nat → Int) (l1v l2v : Nat) (w : World) (h1 : Row w l1 A1 n c1 f) (h2 : Row w l2 A2 n c2 g) (he : ∀ j, j < n → f j = g j) (hn : n ≤ 1048576) (h1v : Row w l1v A1v nv c1v fv) (h2v : Row w l2v A2v nv c2v gv) (hev : ∀ j, j < nv → fv j = gv j) (hnv : nv ≤ 1048576) :
    Calls Try.prog 8 #[.agg #[.bool b, .slice A1 n c1, .slice A1v nv c1v], .agg #[.bool b, .slice A2 n c2, .slice A2v nv c2v]] w fun e w' => e = .returned (.bool true) ∧ Old w w' := by
  have He := Lib.hid he
  have Hev := Lib.hid hev
  clear he hev
  have O : Old w ((w.alloc (.cells #[.bool b, .slice A1 n c1, .slice A1v nv c1v] 32)).alloc (.cells #[.bool b, .slice A2 n c2, .slice A2v nv c2v] 32)) := oldA
  have B_x : Bx ((w.alloc (.cells #[.bool b, .slice A1 n c1, .slice A1v nv c1v] 32)).alloc (.cells #[.bool b, .slice A2 n c2, .slice A2v nv c2v] 32)) (w.heap.size) #[.bool b, .slice A1 n c1, .slice A1v nv c1v] := by have h := (Bx.alloc (Bx.new w #[.bool b, .slice A1 n c1, .slice A1v nv c1v] 32) (.cells #[.bool b, .slice A2 n c2, .slice A2v nv c2v] 32)); simpa using h
  have B_y : Bx ((w.alloc (.cells #[.bool b, .slice A1 n c1, .slice A1v nv c1v] 32)).alloc (.cells #[.bool b, .slice A2 n c2, .slice A2v nv c2v] 32)) (w.heap.size + 1) #[.bool b, .slice A2 n c2, .slice A2v nv c2v] := by have h := (Bx.new (w.alloc (.cells #[.bool b, .slice A1 n c1, .slice A1v nv c1v] 32)) #[.bool b, .slice A2 n c2, .slice A2v nv c2v] 32); simpa using h
  have ne_0_1 : ¬ (w.heap.size = w.heap.size + 1) := by omega
  have ne_1_0 : ¬ (w.heap.size + 1 = w.heap.size) := by omega
  have ze : w.heap.size + 2 ≤ ((w.alloc (.cells #[.bool b, .slice A1 n c1, .slice A1v nv c1v] 32)).alloc (.cells #[.bool b, .slice A2 n c2, .slice A2v nv c2v] 32)).heap.size := (by simp)
  go_enter Try.func8, Try.ntmps8
  go_wp2_with fail
  refine callsNamed ?_
  intro p1 hp
  have O' : Old w p1 := (by rw [hp]; exact Below.trans (b := ((w.alloc (.cells #[.bool b, .slice A1 n c1, .slice A1v nv c1v] 32)).alloc (.cells #[.bool b, .slice A2 n c2, .slice A2v nv c2v] 32))) O oldA)
  replace B_x : Bx p1 (w.heap.size) #[.bool b, .slice A1 n c1, .slice A1v nv c1v] := (bxK B_x hp)
  replace B_y : Bx p1 (w.heap.size + 1) #[.bool b, .slice A2 n c2, .slice A2v nv c2v] := (bxK B_y hp)
  have zp1 : ((w.alloc (.cells #[.bool b, .slice A1 n c1, .slice A1v nv c1v] 32)).alloc (.cells #[.bool b, .slice A2 n c2, .slice A2v nv c2v] 32)).heap.size ≤ p1.heap.size := (by rw [hp]; exact leA)
  clear hp O
  have O := O'
  clear O'
  refine (eqBigInt_yes b A1 A2 n c1 c2 f g l1 l2 _ (Row.below (B := w.heap.size) h1 O (Nat.le_refl _)) (Row.below (B := w.heap.size) h2 O (Nat.le_refl _)) He.out hn).mono ?_
  rintro e w1 ⟨rfl, o1⟩
  replace B_x := Bx.old B_x o1
  replace B_y := Bx.old B_y o1
  replace O := Old.trans O o1
  have zw1 := o1.size
  obtain ⟨q_x_0, q_x_1, q_x_2, f_x_0, f_x_1, f_x_2, q_x⟩ := B_x.all3
  obtain ⟨q_y_0, q_y_1, q_y_2, f_y_0, f_y_1, f_y_2, q_y⟩ := B_y.all3
  go_wp2_with fail
  refine callsNamed ?_
  intro p2 hp
  clear q_x_0 q_x_1 q_x_2 f_x_0 f_x_1 f_x_2 q_x q_y_0 q_y_1 q_y_2 f_y_0 f_y_1 f_y_2 q_y
  have O' : Old w p2 := (by rw [hp]; exact Below.trans (b := w1) O oldA)
  replace B_x : Bx p2 (w.heap.size) #[.bool b, .slice A1 n c1, .slice A1v nv c1v] := (bxK B_x hp)
  replace B_y : Bx p2 (w.heap.size + 1) #[.bool b, .slice A2 n c2, .slice A2v nv c2v] := (bxK B_y hp)
  have zp2 : w1.heap.size ≤ p2.heap.size := (by rw [hp]; exact leA)
  clear hp O
  have O := O'
  clear O'
  refine (eqIntS_yes A1v A2v nv c1v c2v fv gv l1v l2v _ (Row.below (B := w.heap.size) h1v O (Nat.le_refl _)) (Row.below (B := w.heap.size) h2v O (Nat.le_refl _)) Hev.out hnv).mono ?_
  rintro e w2 ⟨rfl, o2⟩
  replace B_x := Bx.old B_x o2
  replace B_y := Bx.old B_y o2
  replace O := Old.trans O o2
  have zw2 := o2.size
  obtain ⟨q_x_0, q_x_1, q_x_2, f_x_0, f_x_1, f_x_2, q_x⟩ := B_x.all3
  obtain ⟨q_y_0, q_y_1, q_y_2, f_y_0, f_y_1, f_y_2, q_y⟩ := B_y.all3
  go_wp2
  go_ret
  exact ⟨rfl, Below.trans (b := w2) O oldA⟩
set_option maxRecDepth 100000 in
set_option maxHeartbeats 1000000 in
theorem markRat_any (b : Bool) (A : Option Addr) (n c : Nat) (f : Nat → Int) (lo : Nat) (D : Option Addr) (m e : Nat) (g : Nat → Int) (lo' : Nat) (i : Int) (w : World) (h : Row w lo A n c f) (k : Row w lo' D m e g) (ap : Apart A n D m) (hn : n ≤ 1048576) (hm : m ≤ 1048576) (hk0 : 0 ≤ i) (hk1 : i ≤ 900000000) :
    Calls Try.prog 11 #[.agg #[.bool b, .slice A n c, .slice D m e], .int .i64 i] w fun x w' => x = .returned (.int .i64 (i + n + m)) ∧ Row w' lo A n c (fun j => i + j) ∧ Row w' lo' D m e (fun j => i + n + j) ∧ ∃ wm, w.grownBy wm (rowOf A n) ∧ wm.grownBy w' (rowOf D m) := by
  have AP := Lib.hid ap
  clear ap
  have la := Row.lim h
  have ld := Row.lim k
  have lz : Low 0 A n := fun _ a _ => Nat.zero_le _
  have lzd : Low 0 D m := fun _ a _ => Nat.zero_le _
  have B0 : Bx (w.alloc (.cells #[.bool b, .slice A n c, .slice D m e] 32)) w.heap.size #[.bool b, .slice A n c, .slice D m e] := Bx.new _ _ _
  have ht : 0 ≤ i + (n : Int) := by omega
  have ht' : i + (n : Int) ≤ 1000000000 := by omega
  go_enter Try.func11, Try.ntmps11
  go_wp2_with fail
  refine (markBigInt_any b A n c f lo i _ (Row.below (B := w.heap.size) h oldA (Nat.le_refl _)) hn hk0 (by omega)).mono ?_
  rintro x w1 ⟨rfl, r1, g1⟩
  have k1 : Row w1 lo' D m e g := Row.kept (Row.below (B := w.heap.size) k oldA (Nat.le_refl _)) g1 (fun a a' h1 h2 e1 e2 => (AP.out a' a h2 h1 e2 e1).symm)
  replace B0 := B0.apart g1 lz la (Or.inr (Nat.le_refl _))
  have q0 := B0.cell 0 rfl
  have q1 := B0.cell 1 rfl
  have q2 := B0.cell 2 rfl
  have q3 := B0.lt
  go_wp2_with fail
  refine (markIntS_any D m e g lo' (i + n) _ k1 hm ht ht').mono ?_
  rintro x w2 ⟨rfl, r2, g2⟩
  have r1' := Row.kept r1 g2 (fun a a' h1 h2 e1 e2 => AP.out a a' h1 h2 e1 e2)
  clear q0 q1 q2 q3
  go_wp2
  go_ret
  exact ⟨rfl, r1', r2, w1, World.grownBy.trans (World.grownBy_alloc _ _ _) g1, g2⟩
set_option maxRecDepth 100000 in
set_option maxHeartbeats 1000000 in
theorem heldRat_yes (b : Bool) (A : Option Addr) (n c : Nat) (f : Nat → Int) (lo : Nat) (D : Option Addr) (m e : Nat) (g : Nat → Int) (lo' : Nat) (i : Int) (w : World) (h1 : Row w lo A n c f) (he : ∀ j, j < n → f j = i + j) (hn : n ≤ 1048576) (k1 : Row w lo' D m e g) (he' : ∀ j, j < m → g j = i + n + j) (hm : m ≤ 1048576) (hk0 : 0 ≤ i) (hk1 : i ≤ 900000000) :
    Calls Try.prog 12 #[.agg #[.bool b, .slice A n c, .slice D m e], .int .i64 i] w fun x w' => x = .returned (.int .i64 (i + n + m)) ∧ Old w w' := by
  have He := Lib.hid he
  have He' := Lib.hid he'
  clear he he'
  have ht : 0 ≤ i + (n : Int) := by omega
  have ht' : i + (n : Int) ≤ 1000000000 := by omega
  have hi' : i ≤ 1000000000 := by omega
  have t1 : ¬ i + (n : Int) < 0 := by omega
  have t2 : ¬ i + (n : Int) + (m : Int) < 0 := by omega
  have O : Old w (w.alloc (.cells #[.bool b, .slice A n c, .slice D m e] 32)) := oldA
  have B_x : Bx (w.alloc (.cells #[.bool b, .slice A n c, .slice D m e] 32)) (w.heap.size) #[.bool b, .slice A n c, .slice D m e] := by have h := (Bx.new w #[.bool b, .slice A n c, .slice D m e] 32); simpa using h
  have ze : w.heap.size + 1 ≤ (w.alloc (.cells #[.bool b, .slice A n c, .slice D m e] 32)).heap.size := (by simp)
  go_enter Try.func12, Try.ntmps12
  go_wp2_with fail
  refine callsNamed ?_
  intro p1 hp
  have O' : Old w p1 := (by rw [hp]; exact Below.trans (b := (w.alloc (.cells #[.bool b, .slice A n c, .slice D m e] 32))) O oldA)
  replace B_x : Bx p1 (w.heap.size) #[.bool b, .slice A n c, .slice D m e] := (bxK B_x hp)
  have zp1 : (w.alloc (.cells #[.bool b, .slice A n c, .slice D m e] 32)).heap.size ≤ p1.heap.size := (by rw [hp]; exact leA)
  clear hp O
  have O := O'
  clear O'
  refine (heldBigInt_yes b A n c f lo i _ (Row.below (B := w.heap.size) h1 O (Nat.le_refl _)) He.out hn hk0 hi').mono ?_
  rintro e w1 ⟨rfl, o1⟩
  replace B_x := Bx.old B_x o1
  replace O := Old.trans O o1
  have zw1 := o1.size
  obtain ⟨q_x_0, q_x_1, q_x_2, f_x_0, f_x_1, f_x_2, q_x⟩ := B_x.all3
  go_wp2_with fail
  refine callsNamed ?_
  intro p2 hp
  clear q_x_0 q_x_1 q_x_2 f_x_0 f_x_1 f_x_2 q_x
  have O' : Old w p2 := (by rw [hp]; exact Below.trans (b := w1) O oldA)
  replace B_x : Bx p2 (w.heap.size) #[.bool b, .slice A n c, .slice D m e] := (bxK B_x hp)
  have zp2 : w1.heap.size ≤ p2.heap.size := (by rw [hp]; exact leA)
  clear hp O
  have O := O'
  clear O'
  refine (heldIntS_yes D m e g lo' (i + n) _ (Row.below (B := w.heap.size) k1 O (Nat.le_refl _)) He'.out hm ht ht').mono ?_
  rintro e w2 ⟨rfl, hw⟩
  have hw2 : p2 = w2 := (by first | exact hw | exact hw.symm)
  subst hw2
  obtain ⟨q_x_0, q_x_1, q_x_2, f_x_0, f_x_1, f_x_2, q_x⟩ := B_x.all3
  go_wp2
  go_ret
  exact ⟨rfl, Below.trans (b := p2) O oldA⟩
theorem szIntS_yes (A : Option Addr) (n c : Nat) (left : Int) (w : World) (hn : n ≤ 9223372036854775807) (h0 : 0 ≤ left) (h1 : left ≤ 1048576) (h : (n : Int) ≤ left) :
    Calls Try.prog 27 #[.slice A n c, .int .i64 left] w fun e w' => e = .returned (.int .i64 (left - n)) ∧ w = w' :=
  (szIntS_any A n c left w hn h0 h1).mono fun e w' he => ⟨by rw [he.1, if_pos h], he.2⟩
theorem szIntS_no (A : Option Addr) (n c : Nat) (left : Int) (w : World) (hn : n ≤ 9223372036854775807) (h0 : 0 ≤ left) (h1 : left ≤ 1048576) (h : ¬ (n : Int) ≤ left) :
    Calls Try.prog 27 #[.slice A n c, .int .i64 left] w fun e w' => e = .returned (.int .i64 (-1)) ∧ w = w' :=
  (szIntS_any A n c left w hn h0 h1).mono fun e w' he => ⟨by rw [he.1, if_neg h], he.2⟩
set_option maxRecDepth 100000 in
set_option maxHeartbeats 1000000 in
theorem szRat_yes (b : Bool) (A : Option Addr) (n c : Nat) (D : Option Addr) (m e : Nat) (left : Int) (w : World) (hn : n ≤ 9223372036854775807) (hm : m ≤ 9223372036854775807) (h0 : 0 ≤ left) (h1 : left ≤ 1048576) (h : (n : Int) + (m : Int) ≤ left) :
    Calls Try.prog 13 #[.agg #[.bool b, .slice A n c, .slice D m e], .int .i64 left] w fun x w' => x = .returned (.int .i64 (left - n - m)) ∧ Old w w' := by
  have Hn := Lib.hid hn
  have Hm := Lib.hid hm
  clear hn hm
  have i1 : (n : Int) ≤ left := by omega
  have j0 : 0 ≤ left - (n : Int) := by omega
  have j1 : left - (n : Int) ≤ 1048576 := by omega
  have t1 : ¬ left - (n : Int) < 0 := by omega
  have i2 : (m : Int) ≤ left - (n : Int) := by omega
  have t2 : ¬ left - (n : Int) - (m : Int) < 0 := by omega
  have Hi := Lib.hid i2
  clear i2
  have O : Old w (w.alloc (.cells #[.bool b, .slice A n c, .slice D m e] 26)) := oldA
  have B_x : Bx (w.alloc (.cells #[.bool b, .slice A n c, .slice D m e] 26)) (w.heap.size) #[.bool b, .slice A n c, .slice D m e] := by have h := (Bx.new w #[.bool b, .slice A n c, .slice D m e] 26); simpa using h
  have ze : w.heap.size + 1 ≤ (w.alloc (.cells #[.bool b, .slice A n c, .slice D m e] 26)).heap.size := (by simp)
  go_enter Try.func13, Try.ntmps13
  go_wp2_with fail
  refine callsNamed ?_
  intro p1 hp
  have O' : Old w p1 := (by rw [hp]; exact Below.trans (b := (w.alloc (.cells #[.bool b, .slice A n c, .slice D m e] 26))) O oldA)
  replace B_x : Bx p1 (w.heap.size) #[.bool b, .slice A n c, .slice D m e] := (bxK B_x hp)
  have zp1 : (w.alloc (.cells #[.bool b, .slice A n c, .slice D m e] 26)).heap.size ≤ p1.heap.size := (by rw [hp]; exact leA)
  clear hp O
  have O := O'
  clear O'
  refine (szBigInt_yes b A n c left _ Hn.out h0 h1 i1).mono ?_
  rintro e w1 ⟨rfl, o1⟩
  replace B_x := Bx.old B_x o1
  replace O := Old.trans O o1
  have zw1 := o1.size
  obtain ⟨q_x_0, q_x_1, q_x_2, f_x_0, f_x_1, f_x_2, q_x⟩ := B_x.all3
  go_wp2_with fail
  refine callsNamed ?_
  intro p2 hp
  clear q_x_0 q_x_1 q_x_2 f_x_0 f_x_1 f_x_2 q_x
  have O' : Old w p2 := (by rw [hp]; exact Below.trans (b := w1) O oldA)
  replace B_x : Bx p2 (w.heap.size) #[.bool b, .slice A n c, .slice D m e] := (bxK B_x hp)
  have zp2 : w1.heap.size ≤ p2.heap.size := (by rw [hp]; exact leA)
  clear hp O
  have O := O'
  clear O'
  refine (szIntS_yes D m e (left - n) _ Hm.out j0 j1 (by have := Hi.out; omega)).mono ?_
  rintro e w2 ⟨rfl, hw⟩
  have hw2 : p2 = w2 := (by first | exact hw | exact hw.symm)
  subst hw2
  obtain ⟨q_x_0, q_x_1, q_x_2, f_x_0, f_x_1, f_x_2, q_x⟩ := B_x.all3
  go_wp2
  go_ret
  exact ⟨rfl, Below.trans (b := p2) O oldA⟩
set_option maxRecDepth 100000 in
set_option maxHeartbeats 1000000 in
theorem szRat_no1 (b : Bool) (A : Option Addr) (n c : Nat) (D : Option Addr) (m e : Nat) (left : Int) (w : World) (hn : n ≤ 9223372036854775807) (hm : m ≤ 9223372036854775807) (h0 : 0 ≤ left) (h1 : left ≤ 1048576) (h : ¬ (n : Int) ≤ left) :
    Calls Try.prog 13 #[.agg #[.bool b, .slice A n c, .slice D m e], .int .i64 left] w fun x w' => x = .returned (.int .i64 (-1)) ∧ Old w w' := by
  have Hn := Lib.hid hn
  have Hm := Lib.hid hm
  clear hn hm
  have Hh := Lib.hid h
  clear h
  have O : Old w (w.alloc (.cells #[.bool b, .slice A n c, .slice D m e] 26)) := oldA
  have B_x : Bx (w.alloc (.cells #[.bool b, .slice A n c, .slice D m e] 26)) (w.heap.size) #[.bool b, .slice A n c, .slice D m e] := by have h := (Bx.new w #[.bool b, .slice A n c, .slice D m e] 26); simpa using h
  have ze : w.heap.size + 1 ≤ (w.alloc (.cells #[.bool b, .slice A n c, .slice D m e] 26)).heap.size := (by simp)
  go_enter Try.func13, Try.ntmps13
  go_wp2_with fail
  refine callsNamed ?_
  intro p1 hp
  have O' : Old w p1 := (by rw [hp]; exact Below.trans (b := (w.alloc (.cells #[.bool b, .slice A n c, .slice D m e] 26))) O oldA)
  replace B_x : Bx p1 (w.heap.size) #[.bool b, .slice A n c, .slice D m e] := (bxK B_x hp)
  have zp1 : (w.alloc (.cells #[.bool b, .slice A n c, .slice D m e] 26)).heap.size ≤ p1.heap.size := (by rw [hp]; exact leA)
  clear hp O
  have O := O'
  clear O'
  refine (szBigInt_no b A n c left _ Hn.out h0 h1 (by have := Hh.out; omega)).mono ?_
  rintro e w1 ⟨rfl, o1⟩
  replace B_x := Bx.old B_x o1
  replace O := Old.trans O o1
  have zw1 := o1.size
  obtain ⟨q_x_0, q_x_1, q_x_2, f_x_0, f_x_1, f_x_2, q_x⟩ := B_x.all3
  go_wp2
  go_ret
  exact ⟨rfl, Below.trans (b := w1) O oldA⟩
set_option maxRecDepth 100000 in
set_option maxHeartbeats 1000000 in
theorem szRat_no2 (b : Bool) (A : Option Addr) (n c : Nat) (D : Option Addr) (m e : Nat) (left : Int) (w : World) (hn : n ≤ 9223372036854775807) (hm : m ≤ 9223372036854775807) (h0 : 0 ≤ left) (h1 : left ≤ 1048576) (h : (n : Int) ≤ left) (h2 : ¬ (n : Int) + (m : Int) ≤ left) :
    Calls Try.prog 13 #[.agg #[.bool b, .slice A n c, .slice D m e], .int .i64 left] w fun x w' => x = .returned (.int .i64 (-1)) ∧ Old w w' := by
  have Hn := Lib.hid hn
  have Hm := Lib.hid hm
  clear hn hm
  have i1 : (n : Int) ≤ left := by omega
  have j0 : 0 ≤ left - (n : Int) := by omega
  have j1 : left - (n : Int) ≤ 1048576 := by omega
  have t1 : ¬ left - (n : Int) < 0 := by omega
  have i2 : ¬ (m : Int) ≤ left - (n : Int) := by omega
  have Hi := Lib.hid i2
  clear i2
  have O : Old w (w.alloc (.cells #[.bool b, .slice A n c, .slice D m e] 26)) := oldA
  have B_x : Bx (w.alloc (.cells #[.bool b, .slice A n c, .slice D m e] 26)) (w.heap.size) #[.bool b, .slice A n c, .slice D m e] := by have h := (Bx.new w #[.bool b, .slice A n c, .slice D m e] 26); simpa using h
  have ze : w.heap.size + 1 ≤ (w.alloc (.cells #[.bool b, .slice A n c, .slice D m e] 26)).heap.size := (by simp)
  go_enter Try.func13, Try.ntmps13
  go_wp2_with fail
  refine callsNamed ?_
  intro p1 hp
  have O' : Old w p1 := (by rw [hp]; exact Below.trans (b := (w.alloc (.cells #[.bool b, .slice A n c, .slice D m e] 26))) O oldA)
  replace B_x : Bx p1 (w.heap.size) #[.bool b, .slice A n c, .slice D m e] := (bxK B_x hp)
  have zp1 : (w.alloc (.cells #[.bool b, .slice A n c, .slice D m e] 26)).heap.size ≤ p1.heap.size := (by rw [hp]; exact leA)
  clear hp O
  have O := O'
  clear O'
  refine (szBigInt_yes b A n c left _ Hn.out h0 h1 i1).mono ?_
  rintro e w1 ⟨rfl, o1⟩
  replace B_x := Bx.old B_x o1
  replace O := Old.trans O o1
  have zw1 := o1.size
  obtain ⟨q_x_0, q_x_1, q_x_2, f_x_0, f_x_1, f_x_2, q_x⟩ := B_x.all3
  go_wp2_with fail
  refine callsNamed ?_
  intro p2 hp
  clear q_x_0 q_x_1 q_x_2 f_x_0 f_x_1 f_x_2 q_x
  have O' : Old w p2 := (by rw [hp]; exact Below.trans (b := w1) O oldA)
  replace B_x : Bx p2 (w.heap.size) #[.bool b, .slice A n c, .slice D m e] := (bxK B_x hp)
  have zp2 : w1.heap.size ≤ p2.heap.size := (by rw [hp]; exact leA)
  clear hp O
  have O := O'
  clear O'
  refine (szIntS_no D m e (left - n) _ Hm.out j0 j1 (by have := Hi.out; omega)).mono ?_
  rintro e w2 ⟨rfl, hw⟩
  have hw2 : p2 = w2 := (by first | exact hw | exact hw.symm)
  subst hw2
  obtain ⟨q_x_0, q_x_1, q_x_2, f_x_0, f_x_1, f_x_2, q_x⟩ := B_x.all3
  go_wp2
  go_ret
  exact ⟨rfl, Below.trans (b := p2) O oldA⟩
theorem szRat_no (b : Bool) (A : Option Addr) (n c : Nat) (D : Option Addr) (m e : Nat) (left : Int) (w : World) (hn : n ≤ 9223372036854775807) (hm : m ≤ 9223372036854775807) (h0 : 0 ≤ left) (h1 : left ≤ 1048576) (h : ¬ (n : Int) + (m : Int) ≤ left) :
    Calls Try.prog 13 #[.agg #[.bool b, .slice A n c, .slice D m e], .int .i64 left] w fun x w' => x = .returned (.int .i64 (-1)) ∧ Old w w' := by
  by_cases h2 : (n : Int) ≤ left
  · exact szRat_no2 b A n c D m e left w hn hm h0 h1 h2 h
  · exact szRat_no1 b A n c D m e left w hn hm h0 h1 h2
end Go.Proofs.Ytgchbbjhdeobpaa
