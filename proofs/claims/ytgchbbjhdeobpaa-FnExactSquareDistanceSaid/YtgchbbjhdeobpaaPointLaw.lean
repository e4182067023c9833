import Derived.Test.YtgchbbjhdeobpaaRatLaw
import Derived.Test.YtgchbbjhdeobpaaWq
/-
  The helpers of the laws on points.
-/
namespace Go.Proofs.Ytgchbbjhdeobpaa
set_option linter.unusedVariables false
open Go.RowKit Num
attribute [local go_sem ↓] Go.wp_at_zero Go.wp_at_succ
set_option maxRecDepth 100000 in
set_option maxHeartbeats 8000000 in
theorem toPoint_any (b : Bool) (A : Option Addr) (n c : Nat) (f : Nat → Int) (D : Option Addr) (m e : Nat) (g : Nat → Int) (b' : Bool) (A' : Option Addr) (n' c' : Nat) (f' : Nat → Int) (D' : Option Addr) (m' e' : Nat) (g' : Nat → Int) (w : World) (h1 : Rd w A n c f) (k1 : Rd w D m e g) (h2 : Rd w A' n' c' f') (k2 : Rd w D' m' e' g') (hn : n ≤ 1048576) (hm : m ≤ 1048576) (hn' : n' ≤ 1048576) (hm' : m' ≤ 1048576) :
    Calls Try.prog 6 #[.agg #[.bool b, .slice A n c, .slice D m e, .bool b', .slice A' n' c', .slice D' m' e']] w fun x w' => ∃ A1 D1 A2 D2, x = .returned (.agg #[.bool b, .slice A1 n n, .slice D1 m m, .bool b', .slice A2 n' n', .slice D2 m' m']) ∧ Row w' w.heap.size A1 n n f ∧ Row w' w.heap.size D1 m m g ∧ Row w' w.heap.size A2 n' n' f' ∧ Row w' w.heap.size D2 m' m' g' ∧
      (Apart A1 n D1 m ∧ Apart A1 n A2 n' ∧ Apart A1 n D2 m' ∧ Apart D1 m A2 n' ∧ Apart D1 m D2 m' ∧ Apart A2 n' D2 m') ∧ Old w w' := by
  have O : Old w (((w.alloc (.cells #[.bool b, .slice A n c, .slice D m e, .bool b', .slice A' n' c', .slice D' m' e'] 28)).alloc (.cells #[.bool false, .slice none 0 0, .slice none 0 0, .bool false, .slice none 0 0, .slice none 0 0] 35)).alloc (.cells #[.bool false, .slice none 0 0, .slice none 0 0, .bool false, .slice none 0 0, .slice none 0 0] 35)) := oldB
  have B_a : Bx (((w.alloc (.cells #[.bool b, .slice A n c, .slice D m e, .bool b', .slice A' n' c', .slice D' m' e'] 28)).alloc (.cells #[.bool false, .slice none 0 0, .slice none 0 0, .bool false, .slice none 0 0, .slice none 0 0] 35)).alloc (.cells #[.bool false, .slice none 0 0, .slice none 0 0, .bool false, .slice none 0 0, .slice none 0 0] 35)) (w.heap.size) #[.bool b, .slice A n c, .slice D m e, .bool b', .slice A' n' c', .slice D' m' e'] := by have h := (Bx.alloc (Bx.alloc (Bx.new w #[.bool b, .slice A n c, .slice D m e, .bool b', .slice A' n' c', .slice D' m' e'] 28) (.cells #[.bool false, .slice none 0 0, .slice none 0 0, .bool false, .slice none 0 0, .slice none 0 0] 35)) (.cells #[.bool false, .slice none 0 0, .slice none 0 0, .bool false, .slice none 0 0, .slice none 0 0] 35)); simpa using h
  have B_r : Bx (((w.alloc (.cells #[.bool b, .slice A n c, .slice D m e, .bool b', .slice A' n' c', .slice D' m' e'] 28)).alloc (.cells #[.bool false, .slice none 0 0, .slice none 0 0, .bool false, .slice none 0 0, .slice none 0 0] 35)).alloc (.cells #[.bool false, .slice none 0 0, .slice none 0 0, .bool false, .slice none 0 0, .slice none 0 0] 35)) (w.heap.size + 1) #[.bool false, .slice none 0 0, .slice none 0 0, .bool false, .slice none 0 0, .slice none 0 0] := by have h := (Bx.alloc (Bx.new (w.alloc (.cells #[.bool b, .slice A n c, .slice D m e, .bool b', .slice A' n' c', .slice D' m' e'] 28)) #[.bool false, .slice none 0 0, .slice none 0 0, .bool false, .slice none 0 0, .slice none 0 0] 35) (.cells #[.bool false, .slice none 0 0, .slice none 0 0, .bool false, .slice none 0 0, .slice none 0 0] 35)); simpa using h
  have B_q : Bx (((w.alloc (.cells #[.bool b, .slice A n c, .slice D m e, .bool b', .slice A' n' c', .slice D' m' e'] 28)).alloc (.cells #[.bool false, .slice none 0 0, .slice none 0 0, .bool false, .slice none 0 0, .slice none 0 0] 35)).alloc (.cells #[.bool false, .slice none 0 0, .slice none 0 0, .bool false, .slice none 0 0, .slice none 0 0] 35)) (w.heap.size + 1 + 1) #[.bool false, .slice none 0 0, .slice none 0 0, .bool false, .slice none 0 0, .slice none 0 0] := by have h := (Bx.new ((w.alloc (.cells #[.bool b, .slice A n c, .slice D m e, .bool b', .slice A' n' c', .slice D' m' e'] 28)).alloc (.cells #[.bool false, .slice none 0 0, .slice none 0 0, .bool false, .slice none 0 0, .slice none 0 0] 35)) #[.bool false, .slice none 0 0, .slice none 0 0, .bool false, .slice none 0 0, .slice none 0 0] 35); simpa using h
  have ne_0_1 : ¬ (w.heap.size = w.heap.size + 1) := by omega
  have ne_0_2 : ¬ (w.heap.size = w.heap.size + 1 + 1) := by omega
  have ne_1_0 : ¬ (w.heap.size + 1 = w.heap.size) := by omega
  have ne_1_2 : ¬ (w.heap.size + 1 = w.heap.size + 1 + 1) := by omega
  have ne_2_0 : ¬ (w.heap.size + 1 + 1 = w.heap.size) := by omega
  have ne_2_1 : ¬ (w.heap.size + 1 + 1 = w.heap.size + 1) := by omega
  have ze : w.heap.size + 3 ≤ (((w.alloc (.cells #[.bool b, .slice A n c, .slice D m e, .bool b', .slice A' n' c', .slice D' m' e'] 28)).alloc (.cells #[.bool false, .slice none 0 0, .slice none 0 0, .bool false, .slice none 0 0, .slice none 0 0] 35)).alloc (.cells #[.bool false, .slice none 0 0, .slice none 0 0, .bool false, .slice none 0 0, .slice none 0 0] 35)).heap.size := (by simp)
  go_enter Try.func6, Try.ntmps6
  go_wp2_with fail
  refine callsNamed ?_
  intro p1 hp
  have O' : Old w p1 := (by rw [hp]; exact Below.trans (b := (((w.alloc (.cells #[.bool b, .slice A n c, .slice D m e, .bool b', .slice A' n' c', .slice D' m' e'] 28)).alloc (.cells #[.bool false, .slice none 0 0, .slice none 0 0, .bool false, .slice none 0 0, .slice none 0 0] 35)).alloc (.cells #[.bool false, .slice none 0 0, .slice none 0 0, .bool false, .slice none 0 0, .slice none 0 0] 35))) O oldB)
  replace B_a : Bx p1 (w.heap.size) #[.bool b, .slice A n c, .slice D m e, .bool b', .slice A' n' c', .slice D' m' e'] := (bxK B_a hp)
  replace B_r : Bx p1 (w.heap.size + 1) #[.bool false, .slice none 0 0, .slice none 0 0, .bool false, .slice none 0 0, .slice none 0 0] := (bxK B_r hp)
  replace B_q : Bx p1 (w.heap.size + 1 + 1) #[.bool false, .slice none 0 0, .slice none 0 0, .bool false, .slice none 0 0, .slice none 0 0] := (bxK B_q hp)
  have zp1 : (((w.alloc (.cells #[.bool b, .slice A n c, .slice D m e, .bool b', .slice A' n' c', .slice D' m' e'] 28)).alloc (.cells #[.bool false, .slice none 0 0, .slice none 0 0, .bool false, .slice none 0 0, .slice none 0 0] 35)).alloc (.cells #[.bool false, .slice none 0 0, .slice none 0 0, .bool false, .slice none 0 0, .slice none 0 0] 35)).heap.size ≤ p1.heap.size := (by rw [hp]; exact leA)
  clear hp O
  have O := O'
  clear O'
  refine (toRat_any b A n c f D m e g _ (Rd.below (B := w.heap.size) h1 O (Nat.le_refl _)) (Rd.below (B := w.heap.size) k1 O (Nat.le_refl _)) hn hm).mono ?_
  rintro e w1 ⟨A3, D3, rfl, r3, s3, ap, o1⟩
  replace B_a := Bx.old B_a o1
  replace B_r := Bx.old B_r o1
  replace B_q := Bx.old B_q o1
  replace O := Old.trans O o1
  have zw1 := o1.size
  replace r3 := Row.more (lo' := p1.heap.size) r3 leA
  replace s3 := Row.more (lo' := p1.heap.size) s3 leA
  have lim_r3 := Row.lim r3
  have lim_s3 := Row.lim s3
  have AP1 := Lib.hid ap
  clear ap
  obtain ⟨q_a_0, q_a_1, q_a_2, q_a_3, q_a_4, q_a_5, f_a_0, f_a_1, f_a_2, f_a_3, f_a_4, f_a_5, q_a⟩ := B_a.all6
  obtain ⟨q_r_0, q_r_1, q_r_2, q_r_3, q_r_4, q_r_5, f_r_0, f_r_1, f_r_2, f_r_3, f_r_4, f_r_5, q_r⟩ := B_r.all6
  obtain ⟨q_q_0, q_q_1, q_q_2, q_q_3, q_q_4, q_q_5, f_q_0, f_q_1, f_q_2, f_q_3, f_q_4, f_q_5, q_q⟩ := B_q.all6
  go_wp2_with fail
  refine callsNamed ?_
  intro p2 hp
  clear q_a_0 q_a_1 q_a_2 q_a_3 q_a_4 q_a_5 f_a_0 f_a_1 f_a_2 f_a_3 f_a_4 f_a_5 q_a q_r_0 q_r_1 q_r_2 q_r_3 q_r_4 q_r_5 f_r_0 f_r_1 f_r_2 f_r_3 f_r_4 f_r_5 q_r q_q_0 q_q_1 q_q_2 q_q_3 q_q_4 q_q_5 f_q_0 f_q_1 f_q_2 f_q_3 f_q_4 f_q_5 q_q
  have O' : Old w p2 := (by rw [hp]; exact Below.trans (b := w1) O oldB)
  replace B_a : Bx p2 (w.heap.size) #[.bool b, .slice A n c, .slice D m e, .bool b', .slice A' n' c', .slice D' m' e'] := (bxK B_a hp)
  replace B_r : Bx p2 (w.heap.size + 1) #[.bool false, .slice none 0 0, .slice none 0 0, .bool false, .slice none 0 0, .slice none 0 0] := (bxK B_r hp)
  replace B_q : Bx p2 (w.heap.size + 1 + 1) #[.bool b, .slice A3 n n, .slice D3 m m, .bool false, .slice none 0 0, .slice none 0 0] := (by rw [hp]; repeat' (first | (with_reducible exact B_q) | (with_reducible refine Bx.alloc ?_ _) | (with_reducible refine Bx.drewN ?_ _) | (with_reducible refine Bx.drew ?_) | refine Bx.set (cs := #[.bool b, .slice A3 n n, .slice none 0 0, .bool false, .slice none 0 0, .slice none 0 0]) ?_ 2 _ | refine Bx.set (cs := #[.bool b, .slice none 0 0, .slice none 0 0, .bool false, .slice none 0 0, .slice none 0 0]) ?_ 1 _ | refine Bx.set (cs := #[.bool false, .slice none 0 0, .slice none 0 0, .bool false, .slice none 0 0, .slice none 0 0]) ?_ 0 _ | refine Bx.far ?_ (by first | assumption | (simp <;> done) | (simp; omega) | omega) _))
  replace r3 := rowK r3 hp
  replace s3 := rowK s3 hp
  have zp2 : w1.heap.size ≤ p2.heap.size := (by rw [hp]; exact leA)
  clear hp O
  have O := O'
  clear O'
  refine (toRat_any b' A' n' c' f' D' m' e' g' _ (Rd.below (B := w.heap.size) h2 O (Nat.le_refl _)) (Rd.below (B := w.heap.size) k2 O (Nat.le_refl _)) hn' hm').mono ?_
  rintro e w2 ⟨A4, D4, rfl, r4, s4, ap, o2⟩
  replace B_a := Bx.old B_a o2
  replace B_r := Bx.old B_r o2
  replace B_q := Bx.old B_q o2
  replace r3 := Row.below r3 o2 (Nat.le_refl _)
  replace s3 := Row.below s3 o2 (Nat.le_refl _)
  replace O := Old.trans O o2
  have zw2 := o2.size
  replace r4 := Row.more (lo' := p2.heap.size) r4 leA
  replace s4 := Row.more (lo' := p2.heap.size) s4 leA
  have lim_r4 := Row.lim r4
  have lim_s4 := Row.lim s4
  have AP2 := Lib.hid ap
  clear ap
  obtain ⟨q_a_0, q_a_1, q_a_2, q_a_3, q_a_4, q_a_5, f_a_0, f_a_1, f_a_2, f_a_3, f_a_4, f_a_5, q_a⟩ := B_a.all6
  obtain ⟨q_r_0, q_r_1, q_r_2, q_r_3, q_r_4, q_r_5, f_r_0, f_r_1, f_r_2, f_r_3, f_r_4, f_r_5, q_r⟩ := B_r.all6
  obtain ⟨q_q_0, q_q_1, q_q_2, q_q_3, q_q_4, q_q_5, f_q_0, f_q_1, f_q_2, f_q_3, f_q_4, f_q_5, q_q⟩ := B_q.all6
  have AP := Lib.hid (And.intro AP1.out (And.intro (Apart.of lim_r3 r4 (by omega)) (And.intro (Apart.of lim_r3 s4 (by omega)) (And.intro (Apart.of lim_s3 r4 (by omega)) (And.intro (Apart.of lim_s3 s4 (by omega)) AP2.out)))))
  go_wp2
  refine bodyPost_ret (v := .agg #[.bool b, .slice A3 n n, .slice D3 m m, .bool b', .slice A4 n' n', .slice D4 m' m']) (by simp [results, Try.results6, go_sem, q_r_0, q_r_1, q_r_2, q_r_3, q_r_4, q_r_5]) rfl ⟨A3, D3, A4, D4, rfl, ?_, ?_, ?_, ?_, AP.out, ?_⟩
  · refine Row.more (lo := p1.heap.size) ?_ leA
    repeat' (first | (with_reducible exact r3) | (with_reducible refine Row.far_set ?_ (by first | (simp <;> done) | (simp; omega) | omega) _))
  · refine Row.more (lo := p1.heap.size) ?_ leA
    repeat' (first | (with_reducible exact s3) | (with_reducible refine Row.far_set ?_ (by first | (simp <;> done) | (simp; omega) | omega) _))
  · refine Row.more (lo := p2.heap.size) ?_ leA
    repeat' (first | (with_reducible exact r4) | (with_reducible refine Row.far_set ?_ (by first | (simp <;> done) | (simp; omega) | omega) _))
  · refine Row.more (lo := p2.heap.size) ?_ leA
    repeat' (first | (with_reducible exact s4) | (with_reducible refine Row.far_set ?_ (by first | (simp <;> done) | (simp; omega) | omega) _))
  · exact Below.trans (b := w2) O oldB
set_option maxRecDepth 100000 in
set_option maxHeartbeats 8000000 in
theorem eqPoint_yes (b : Bool) (A1 A2 : Option Addr) (n c1 c2 : Nat) (f g : Nat → Int) (l1 l2 : Nat) (A1v A2v : Option Addr) (nv c1v c2v : Nat) (fv gv : Nat → Int) (l1v l2v : Nat) (b' : Bool) (A1x A2x : Option Addr) (nx c1x c2x : Nat) (fx gx : Nat → Int) (l1x l2x : Nat) (A1y A2y : Option Addr) (ny c1y c2y : Nat) (fy gy : Nat → Int) (l1y l2y : Nat) (w : World) (h1 : Row w l1 A1 n c1 f) (h2 : Row w l2 A2 n c2 g) (he : ∀ j, j < n → f j = g j) (hn : n ≤ 1048576) (h1v : Row w l1v A1v nv c1v fv) (h2v : Row w l2v A2v nv c2v gv) (hev : ∀ j, j < nv → fv j = gv j) (hnv : nv ≤ 1048576) (h1x : Row w l1x A1x nx c1x fx) (h2x : Row w l2x A2x nx c2x gx) (hex : ∀ j, j < nx → fx j = gx j) (hnx : nx ≤ 1048576) (h1y : Row w l1y A1y ny c1y fy) (h2y : Row w l2y A2y ny c2y gy) (hey : ∀ j, j < ny → fy j = gy j) (hny : ny ≤ 1048576) :
    Calls Try.prog 9 #[.agg #[.bool b, .slice A1 n c1, .slice A1v nv c1v, .bool b', .slice A1x nx c1x, .slice A1y ny c1y], .agg #[.bool b, .slice A2 n c2, .slice A2v nv c2v, .bool b', .slice A2x nx c2x, .slice A2y ny c2y]] w fun e w' => e = .returned (.bool true) ∧ Old w w' := by
  have He := Lib.hid he
  clear he
  have Hev := Lib.hid hev
  clear hev
  have Hex := Lib.hid hex
  clear hex
  have Hey := Lib.hid hey
  clear hey
  have O : Old w ((w.alloc (.cells #[.bool b, .slice A1 n c1, .slice A1v nv c1v, .bool b', .slice A1x nx c1x, .slice A1y ny c1y] 35)).alloc (.cells #[.bool b, .slice A2 n c2, .slice A2v nv c2v, .bool b', .slice A2x nx c2x, .slice A2y ny c2y] 35)) := oldB
  have B_x : Bx ((w.alloc (.cells #[.bool b, .slice A1 n c1, .slice A1v nv c1v, .bool b', .slice A1x nx c1x, .slice A1y ny c1y] 35)).alloc (.cells #[.bool b, .slice A2 n c2, .slice A2v nv c2v, .bool b', .slice A2x nx c2x, .slice A2y ny c2y] 35)) (w.heap.size) #[.bool b, .slice A1 n c1, .slice A1v nv c1v, .bool b', .slice A1x nx c1x, .slice A1y ny c1y] := by have h := (Bx.alloc (Bx.new w #[.bool b, .slice A1 n c1, .slice A1v nv c1v, .bool b', .slice A1x nx c1x, .slice A1y ny c1y] 35) (.cells #[.bool b, .slice A2 n c2, .slice A2v nv c2v, .bool b', .slice A2x nx c2x, .slice A2y ny c2y] 35)); simpa using h
  have B_y : Bx ((w.alloc (.cells #[.bool b, .slice A1 n c1, .slice A1v nv c1v, .bool b', .slice A1x nx c1x, .slice A1y ny c1y] 35)).alloc (.cells #[.bool b, .slice A2 n c2, .slice A2v nv c2v, .bool b', .slice A2x nx c2x, .slice A2y ny c2y] 35)) (w.heap.size + 1) #[.bool b, .slice A2 n c2, .slice A2v nv c2v, .bool b', .slice A2x nx c2x, .slice A2y ny c2y] := by have h := (Bx.new (w.alloc (.cells #[.bool b, .slice A1 n c1, .slice A1v nv c1v, .bool b', .slice A1x nx c1x, .slice A1y ny c1y] 35)) #[.bool b, .slice A2 n c2, .slice A2v nv c2v, .bool b', .slice A2x nx c2x, .slice A2y ny c2y] 35); simpa using h
  have ne_0_1 : ¬ (w.heap.size = w.heap.size + 1) := by omega
  have ne_1_0 : ¬ (w.heap.size + 1 = w.heap.size) := by omega
  have ze : w.heap.size + 2 ≤ ((w.alloc (.cells #[.bool b, .slice A1 n c1, .slice A1v nv c1v, .bool b', .slice A1x nx c1x, .slice A1y ny c1y] 35)).alloc (.cells #[.bool b, .slice A2 n c2, .slice A2v nv c2v, .bool b', .slice A2x nx c2x, .slice A2y ny c2y] 35)).heap.size := (by simp)
  go_enter Try.func9, Try.ntmps9
  go_wp2_with fail
  refine callsNamed ?_
  intro p1 hp
  have O' : Old w p1 := (by rw [hp]; exact Below.trans (b := ((w.alloc (.cells #[.bool b, .slice A1 n c1, .slice A1v nv c1v, .bool b', .slice A1x nx c1x, .slice A1y ny c1y] 35)).alloc (.cells #[.bool b, .slice A2 n c2, .slice A2v nv c2v, .bool b', .slice A2x nx c2x, .slice A2y ny c2y] 35))) O oldB)
  replace B_x : Bx p1 (w.heap.size) #[.bool b, .slice A1 n c1, .slice A1v nv c1v, .bool b', .slice A1x nx c1x, .slice A1y ny c1y] := (bxK B_x hp)
  replace B_y : Bx p1 (w.heap.size + 1) #[.bool b, .slice A2 n c2, .slice A2v nv c2v, .bool b', .slice A2x nx c2x, .slice A2y ny c2y] := (bxK B_y hp)
  have zp1 : ((w.alloc (.cells #[.bool b, .slice A1 n c1, .slice A1v nv c1v, .bool b', .slice A1x nx c1x, .slice A1y ny c1y] 35)).alloc (.cells #[.bool b, .slice A2 n c2, .slice A2v nv c2v, .bool b', .slice A2x nx c2x, .slice A2y ny c2y] 35)).heap.size ≤ p1.heap.size := (by rw [hp]; exact leA)
  clear hp O
  have O := O'
  clear O'
  refine (eqRat_yes b A1 A2 n c1 c2 f g l1 l2 A1v A2v nv c1v c2v fv gv l1v l2v _ (Row.below (B := w.heap.size) h1 O (Nat.le_refl _)) (Row.below (B := w.heap.size) h2 O (Nat.le_refl _)) He.out hn (Row.below (B := w.heap.size) h1v O (Nat.le_refl _)) (Row.below (B := w.heap.size) h2v O (Nat.le_refl _)) Hev.out hnv).mono ?_
  rintro e w1 ⟨rfl, o1⟩
  replace B_x := Bx.old B_x o1
  replace B_y := Bx.old B_y o1
  replace O := Old.trans O o1
  have zw1 := o1.size
  obtain ⟨q_x_0, q_x_1, q_x_2, q_x_3, q_x_4, q_x_5, f_x_0, f_x_1, f_x_2, f_x_3, f_x_4, f_x_5, q_x⟩ := B_x.all6
  obtain ⟨q_y_0, q_y_1, q_y_2, q_y_3, q_y_4, q_y_5, f_y_0, f_y_1, f_y_2, f_y_3, f_y_4, f_y_5, q_y⟩ := B_y.all6
  go_wp2_with fail
  refine callsNamed ?_
  intro p2 hp
  clear q_x_0 q_x_1 q_x_2 q_x_3 q_x_4 q_x_5 f_x_0 f_x_1 f_x_2 f_x_3 f_x_4 f_x_5 q_x q_y_0 q_y_1 q_y_2 q_y_3 q_y_4 q_y_5 f_y_0 f_y_1 f_y_2 f_y_3 f_y_4 f_y_5 q_y
  have O' : Old w p2 := (by rw [hp]; exact Below.trans (b := w1) O oldB)
  replace B_x : Bx p2 (w.heap.size) #[.bool b, .slice A1 n c1, .slice A1v nv c1v, .bool b', .slice A1x nx c1x, .slice A1y ny c1y] := (bxK B_x hp)
  replace B_y : Bx p2 (w.heap.size + 1) #[.bool b, .slice A2 n c2, .slice A2v nv c2v, .bool b', .slice A2x nx c2x, .slice A2y ny c2y] := (bxK B_y hp)
  have zp2 : w1.heap.size ≤ p2.heap.size := (by rw [hp]; exact leA)
  clear hp O
  have O := O'
  clear O'
  refine (eqRat_yes b' A1x A2x nx c1x c2x fx gx l1x l2x A1y A2y ny c1y c2y fy gy l1y l2y _ (Row.below (B := w.heap.size) h1x O (Nat.le_refl _)) (Row.below (B := w.heap.size) h2x O (Nat.le_refl _)) Hex.out hnx (Row.below (B := w.heap.size) h1y O (Nat.le_refl _)) (Row.below (B := w.heap.size) h2y O (Nat.le_refl _)) Hey.out hny).mono ?_
  rintro e w2 ⟨rfl, o2⟩
  replace B_x := Bx.old B_x o2
  replace B_y := Bx.old B_y o2
  replace O := Old.trans O o2
  have zw2 := o2.size
  obtain ⟨q_x_0, q_x_1, q_x_2, q_x_3, q_x_4, q_x_5, f_x_0, f_x_1, f_x_2, f_x_3, f_x_4, f_x_5, q_x⟩ := B_x.all6
  obtain ⟨q_y_0, q_y_1, q_y_2, q_y_3, q_y_4, q_y_5, f_y_0, f_y_1, f_y_2, f_y_3, f_y_4, f_y_5, q_y⟩ := B_y.all6
  go_wp2
  go_ret
  exact ⟨rfl, Below.trans (b := w2) O oldB⟩
set_option maxRecDepth 100000 in
set_option maxHeartbeats 8000000 in
theorem markPoint_any (b : Bool) (A : Option Addr) (n c : Nat) (f : Nat → Int) (lo : Nat) (D : Option Addr) (m e : Nat) (g : Nat → Int) (lo1 : Nat) (b' : Bool) (A' : Option Addr) (n' c' : Nat) (f' : Nat → Int) (lo2 : Nat) (D' : Option Addr) (m' e' : Nat) (g' : Nat → Int) (lo3 : Nat) (i : Int) (w : World) (h : Row w lo A n c f) (k : Row w lo1 D m e g) (h' : Row w lo2 A' n' c' f') (k' : Row w lo3 D' m' e' g')
    (ap : Apart A n D m ∧ Apart A n A' n' ∧ Apart A n D' m' ∧ Apart D m A' n' ∧ Apart D m D' m' ∧ Apart A' n' D' m') (hn : n ≤ 1048576) (hm : m ≤ 1048576) (hn' : n' ≤ 1048576) (hm' : m' ≤ 1048576) (hk0 : 0 ≤ i) (hk1 : i ≤ 800000000) :
    Calls Try.prog 10 #[.agg #[.bool b, .slice A n c, .slice D m e, .bool b', .slice A' n' c', .slice D' m' e'], .int .i64 i] w fun x w' => x = .returned (.int .i64 (i + n + m + n' + m')) ∧ Row w' lo A n c (fun j => i + j) ∧ Row w' lo1 D m e (fun j => i + n + j) ∧ Row w' lo2 A' n' c' (fun j => i + n + m + j) ∧ Row w' lo3 D' m' e' (fun j => i + n + m + n' + j) ∧
      ∃ wa wb wc, w.grownBy wa (rowOf A n) ∧ wa.grownBy wb (rowOf D m) ∧ wb.grownBy wc (rowOf A' n') ∧ wc.grownBy w' (rowOf D' m') := by
  have AP := Lib.hid ap
  clear ap
  have la := Row.lim h
  have ld := Row.lim k
  have la' := Row.lim h'
  have ld' := Row.lim k'
  have lz : ∀ (A : Option Addr) (n : Nat), Low 0 A n := fun _ _ _ a _ => Nat.zero_le _
  have B0 : Bx (w.alloc (.cells #[.bool b, .slice A n c, .slice D m e, .bool b', .slice A' n' c', .slice D' m' e'] 35)) w.heap.size #[.bool b, .slice A n c, .slice D m e, .bool b', .slice A' n' c', .slice D' m' e'] := Bx.new _ _ _
  have ht : 0 ≤ i + (n : Int) + (m : Int) := by omega
  have ht' : i + (n : Int) + (m : Int) ≤ 900000000 := by omega
  have hi' : i ≤ 900000000 := by omega
  go_enter Try.func10, Try.ntmps10
  go_wp2_with fail
  refine (markRat_any b A n c f lo D m e g lo1 i _ (Row.below (B := w.heap.size) h oldA (Nat.le_refl _)) (Row.below (B := w.heap.size) k oldA (Nat.le_refl _)) AP.out.1 hn hm hk0 hi').mono ?_
  rintro x w1 ⟨rfl, r1, s1, wa, ga, gb⟩
  have h1 : Row w1 lo2 A' n' c' f' := Row.kept (Row.kept (Row.below (B := w.heap.size) h' oldA (Nat.le_refl _)) ga (fun a a' h1 h2 e1 e2 => (AP.out.2.1 a' a h2 h1 e2 e1).symm)) gb (fun a a' h1 h2 e1 e2 => (AP.out.2.2.2.1 a' a h2 h1 e2 e1).symm)
  have k1 : Row w1 lo3 D' m' e' g' := Row.kept (Row.kept (Row.below (B := w.heap.size) k' oldA (Nat.le_refl _)) ga (fun a a' h1 h2 e1 e2 => (AP.out.2.2.1 a' a h2 h1 e2 e1).symm)) gb (fun a a' h1 h2 e1 e2 => (AP.out.2.2.2.2.1 a' a h2 h1 e2 e1).symm)
  replace B0 := (B0.apart ga (lz _ _) la (Or.inr (Nat.le_refl _))).apart gb (lz _ _) ld (Or.inr (Nat.le_refl _))
  have q0 := B0.cell 0 rfl
  have q1 := B0.cell 1 rfl
  have q2 := B0.cell 2 rfl
  have q3 := B0.cell 3 rfl
  have q4 := B0.cell 4 rfl
  have q5 := B0.cell 5 rfl
  have q6 := B0.lt
  go_wp2_with fail
  refine (markRat_any b' A' n' c' f' lo2 D' m' e' g' lo3 (i + n + m) _ h1 k1 AP.out.2.2.2.2.2 hn' hm' ht ht').mono ?_
  rintro x w2 ⟨rfl, r2, s2, wc, gc, gd⟩
  have r1' := Row.kept (Row.kept r1 gc (fun a a' h1 h2 e1 e2 => AP.out.2.1 a a' h1 h2 e1 e2)) gd (fun a a' h1 h2 e1 e2 => AP.out.2.2.1 a a' h1 h2 e1 e2)
  have s1' := Row.kept (Row.kept s1 gc (fun a a' h1 h2 e1 e2 => AP.out.2.2.2.1 a a' h1 h2 e1 e2)) gd (fun a a' h1 h2 e1 e2 => AP.out.2.2.2.2.1 a a' h1 h2 e1 e2)
  clear q0 q1 q2 q3 q4 q5 q6
  go_wp2
  go_ret
  exact ⟨rfl, r1', s1', r2, s2, wa, w1, wc, World.grownBy.trans (World.grownBy_alloc _ _ _) ga, gb, gc, gd⟩
set_option maxRecDepth 100000 in
set_option maxHeartbeats 8000000 in
theorem szPoint_yes (b : Bool) (A : Option Addr) (n c : Nat) (D : Option Addr) (m e : Nat) (b' : Bool) (A' : Option Addr) (n' c' : Nat) (D' : Option Addr) (m' e' : Nat) (left : Int) (w : World) (hn : n ≤ 9223372036854775807) (hm : m ≤ 9223372036854775807) (hn' : n' ≤ 9223372036854775807) (hm' : m' ≤ 9223372036854775807) (h0 : 0 ≤ left) (h1 : left ≤ 1048576) (h : (n : Int) + (m : Int) + (n' : Int) + (m' : Int) ≤ left) :
    Calls Try.prog 4 #[.agg #[.bool b, .slice A n c, .slice D m e, .bool b', .slice A' n' c', .slice D' m' e'], .int .i64 left] w fun x w' => x = .returned (.int .i64 (left - n - m - n' - m')) ∧ Old w w' := by
  have Hn := Lib.hid hn
  have Hm := Lib.hid hm
  have Hn' := Lib.hid hn'
  have Hm' := Lib.hid hm'
  clear hn hm hn' hm'
  have i1 : (n : Int) + (m : Int) ≤ left := by omega
  have j0 : 0 ≤ left - (n : Int) - (m : Int) := by omega
  have j1 : left - (n : Int) - (m : Int) ≤ 1048576 := by omega
  have t1 : ¬ left - (n : Int) - (m : Int) < 0 := by omega
  have i2 : (n' : Int) + (m' : Int) ≤ left - (n : Int) - (m : Int) := by omega
  have t2 : ¬ left - (n : Int) - (m : Int) - (n' : Int) - (m' : Int) < 0 := by omega
  have Hi := Lib.hid i2
  clear i2
  have O : Old w (w.alloc (.cells #[.bool b, .slice A n c, .slice D m e, .bool b', .slice A' n' c', .slice D' m' e'] 28)) := oldB
  have B_x : Bx (w.alloc (.cells #[.bool b, .slice A n c, .slice D m e, .bool b', .slice A' n' c', .slice D' m' e'] 28)) (w.heap.size) #[.bool b, .slice A n c, .slice D m e, .bool b', .slice A' n' c', .slice D' m' e'] := by have h := (Bx.new w #[.bool b, .slice A n c, .slice D m e, .bool b', .slice A' n' c', .slice D' m' e'] 28); simpa using h
  have ze : w.heap.size + 1 ≤ (w.alloc (.cells #[.bool b, .slice A n c, .slice D m e, .bool b', .slice A' n' c', .slice D' m' e'] 28)).heap.size := (by simp)
  go_enter Try.func4, Try.ntmps4
  go_wp2_with fail
  refine callsNamed ?_
  intro p1 hp
  have O' : Old w p1 := (by rw [hp]; exact Below.trans (b := (w.alloc (.cells #[.bool b, .slice A n c, .slice D m e, .bool b', .slice A' n' c', .slice D' m' e'] 28))) O oldB)
  replace B_x : Bx p1 (w.heap.size) #[.bool b, .slice A n c, .slice D m e, .bool b', .slice A' n' c', .slice D' m' e'] := (bxK B_x hp)
  have zp1 : (w.alloc (.cells #[.bool b, .slice A n c, .slice D m e, .bool b', .slice A' n' c', .slice D' m' e'] 28)).heap.size ≤ p1.heap.size := (by rw [hp]; exact leA)
  clear hp O
  have O := O'
  clear O'
  refine (szRat_yes b A n c D m e left _ Hn.out Hm.out h0 h1 i1).mono ?_
  rintro e w1 ⟨rfl, o1⟩
  replace B_x := Bx.old B_x o1
  replace O := Old.trans O o1
  have zw1 := o1.size
  obtain ⟨q_x_0, q_x_1, q_x_2, q_x_3, q_x_4, q_x_5, f_x_0, f_x_1, f_x_2, f_x_3, f_x_4, f_x_5, q_x⟩ := B_x.all6
  go_wp2_with fail
  refine callsNamed ?_
  intro p2 hp
  clear q_x_0 q_x_1 q_x_2 q_x_3 q_x_4 q_x_5 f_x_0 f_x_1 f_x_2 f_x_3 f_x_4 f_x_5 q_x
  have O' : Old w p2 := (by rw [hp]; exact Below.trans (b := w1) O oldB)
  replace B_x : Bx p2 (w.heap.size) #[.bool b, .slice A n c, .slice D m e, .bool b', .slice A' n' c', .slice D' m' e'] := (bxK B_x hp)
  have zp2 : w1.heap.size ≤ p2.heap.size := (by rw [hp]; exact leA)
  clear hp O
  have O := O'
  clear O'
  refine (szRat_yes b' A' n' c' D' m' e' (left - n - m) _ Hn'.out Hm'.out j0 j1 (by have := Hi.out; omega)).mono ?_
  rintro e w2 ⟨rfl, o2⟩
  replace B_x := Bx.old B_x o2
  replace O := Old.trans O o2
  have zw2 := o2.size
  obtain ⟨q_x_0, q_x_1, q_x_2, q_x_3, q_x_4, q_x_5, f_x_0, f_x_1, f_x_2, f_x_3, f_x_4, f_x_5, q_x⟩ := B_x.all6
  go_wp2
  go_ret
  exact ⟨rfl, Below.trans (b := w2) O oldB⟩
set_option maxRecDepth 100000 in
set_option maxHeartbeats 8000000 in
theorem szPoint_no1 (b : Bool) (A : Option Addr) (n c : Nat) (D : Option Addr) (m e : Nat) (b' : Bool) (A' : Option Addr) (n' c' : Nat) (D' : Option Addr) (m' e' : Nat) (left : Int) (w : World) (hn : n ≤ 9223372036854775807) (hm : m ≤ 9223372036854775807) (hn' : n' ≤ 9223372036854775807) (hm' : m' ≤ 9223372036854775807) (h0 : 0 ≤ left) (h1 : left ≤ 1048576) (h : ¬ (n : Int) + (m : Int) ≤ left) :
    Calls Try.prog 4 #[.agg #[.bool b, .slice A n c, .slice D m e, .bool b', .slice A' n' c', .slice D' m' e'], .int .i64 left] w fun x w' => x = .returned (.int .i64 (-1)) ∧ Old w w' := by
  have Hn := Lib.hid hn
  have Hm := Lib.hid hm
  have Hn' := Lib.hid hn'
  have Hm' := Lib.hid hm'
  clear hn hm hn' hm'
  have Hh := Lib.hid h
  clear h
  have O : Old w (w.alloc (.cells #[.bool b, .slice A n c, .slice D m e, .bool b', .slice A' n' c', .slice D' m' e'] 28)) := oldB
  have B_x : Bx (w.alloc (.cells #[.bool b, .slice A n c, .slice D m e, .bool b', .slice A' n' c', .slice D' m' e'] 28)) (w.heap.size) #[.bool b, .slice A n c, .slice D m e, .bool b', .slice A' n' c', .slice D' m' e'] := by have h := (Bx.new w #[.bool b, .slice A n c, .slice D m e, .bool b', .slice A' n' c', .slice D' m' e'] 28); simpa using h
  have ze : w.heap.size + 1 ≤ (w.alloc (.cells #[.bool b, .slice A n c, .slice D m e, .bool b', .slice A' n' c', .slice D' m' e'] 28)).heap.size := (by simp)
  go_enter Try.func4, Try.ntmps4
  go_wp2_with fail
  refine callsNamed ?_
  intro p1 hp
  have O' : Old w p1 := (by rw [hp]; exact Below.trans (b := (w.alloc (.cells #[.bool b, .slice A n c, .slice D m e, .bool b', .slice A' n' c', .slice D' m' e'] 28))) O oldB)
  replace B_x : Bx p1 (w.heap.size) #[.bool b, .slice A n c, .slice D m e, .bool b', .slice A' n' c', .slice D' m' e'] := (bxK B_x hp)
  have zp1 : (w.alloc (.cells #[.bool b, .slice A n c, .slice D m e, .bool b', .slice A' n' c', .slice D' m' e'] 28)).heap.size ≤ p1.heap.size := (by rw [hp]; exact leA)
  clear hp O
  have O := O'
  clear O'
  refine (szRat_no b A n c D m e left _ Hn.out Hm.out h0 h1 (by have := Hh.out; omega)).mono ?_
  rintro e w1 ⟨rfl, o1⟩
  replace B_x := Bx.old B_x o1
  replace O := Old.trans O o1
  have zw1 := o1.size
  obtain ⟨q_x_0, q_x_1, q_x_2, q_x_3, q_x_4, q_x_5, f_x_0, f_x_1, f_x_2, f_x_3, f_x_4, f_x_5, q_x⟩ := B_x.all6
  go_wp2
  go_ret
  exact ⟨rfl, Below.trans (b := w1) O oldB⟩
set_option maxRecDepth 100000 in
set_option maxHeartbeats 8000000 in
theorem szPoint_no2 (b : Bool) (A : Option Addr) (n c : Nat) (D : Option Addr) (m e : Nat) (b' : Bool) (A' : Option Addr) (n' c' : Nat) (D' : Option Addr) (m' e' : Nat) (left : Int) (w : World) (hn : n ≤ 9223372036854775807) (hm : m ≤ 9223372036854775807) (hn' : n' ≤ 9223372036854775807) (hm' : m' ≤ 9223372036854775807) (h0 : 0 ≤ left) (h1 : left ≤ 1048576) (h : (n : Int) + (m : Int) ≤ left) (h2 : ¬ (n : Int) + (m : Int) + (n' : Int) + (m' : Int) ≤ left) :
    Calls Try.prog 4 #[.agg #[.bool b, .slice A n c, .slice D m e, .bool b', .slice A' n' c', .slice D' m' e'], .int .i64 left] w fun x w' => x = .returned (.int .i64 (-1)) ∧ Old w w' := by
  have Hn := Lib.hid hn
  have Hm := Lib.hid hm
  have Hn' := Lib.hid hn'
  have Hm' := Lib.hid hm'
  clear hn hm hn' hm'
  have i1 : (n : Int) + (m : Int) ≤ left := by omega
  have j0 : 0 ≤ left - (n : Int) - (m : Int) := by omega
  have j1 : left - (n : Int) - (m : Int) ≤ 1048576 := by omega
  have t1 : ¬ left - (n : Int) - (m : Int) < 0 := by omega
  have i2 : ¬ (n' : Int) + (m' : Int) ≤ left - (n : Int) - (m : Int) := by omega
  have Hi := Lib.hid i2
  clear i2
  have O : Old w (w.alloc (.cells #[.bool b, .slice A n c, .slice D m e, .bool b', .slice A' n' c', .slice D' m' e'] 28)) := oldB
  have B_x : Bx (w.alloc (.cells #[.bool b, .slice A n c, .slice D m e, .bool b', .slice A' n' c', .slice D' m' e'] 28)) (w.heap.size) #[.bool b, .slice A n c, .slice D m e, .bool b', .slice A' n' c', .slice D' m' e'] := by have h := (Bx.new w #[.bool b, .slice A n c, .slice D m e, .bool b', .slice A' n' c', .slice D' m' e'] 28); simpa using h
  have ze : w.heap.size + 1 ≤ (w.alloc (.cells #[.bool b, .slice A n c, .slice D m e, .bool b', .slice A' n' c', .slice D' m' e'] 28)).heap.size := (by simp)
  go_enter Try.func4, Try.ntmps4
  go_wp2_with fail
  refine callsNamed ?_
  intro p1 hp
  have O' : Old w p1 := (by rw [hp]; exact Below.trans (b := (w.alloc (.cells #[.bool b, .slice A n c, .slice D m e, .bool b', .slice A' n' c', .slice D' m' e'] 28))) O oldB)
  replace B_x : Bx p1 (w.heap.size) #[.bool b, .slice A n c, .slice D m e, .bool b', .slice A' n' c', .slice D' m' e'] := (bxK B_x hp)
  have zp1 : (w.alloc (.cells #[.bool b, .slice A n c, .slice D m e, .bool b', .slice A' n' c', .slice D' m' e'] 28)).heap.size ≤ p1.heap.size := (by rw [hp]; exact leA)
  clear hp O
  have O := O'
  clear O'
  refine (szRat_yes b A n c D m e left _ Hn.out Hm.out h0 h1 i1).mono ?_
  rintro e w1 ⟨rfl, o1⟩
  replace B_x := Bx.old B_x o1
  replace O := Old.trans O o1
  have zw1 := o1.size
  obtain ⟨q_x_0, q_x_1, q_x_2, q_x_3, q_x_4, q_x_5, f_x_0, f_x_1, f_x_2, f_x_3, f_x_4, f_x_5, q_x⟩ := B_x.all6
  go_wp2_with fail
  refine callsNamed ?_
  intro p2 hp
  clear q_x_0 q_x_1 q_x_2 q_x_3 q_x_4 q_x_5 f_x_0 f_x_1 f_x_2 f_x_3 f_x_4 f_x_5 q_x
  have O' : Old w p2 := (by rw [hp]; exact Below.trans (b := w1) O oldB)
  replace B_x : Bx p2 (w.heap.size) #[.bool b, .slice A n c, .slice D m e, .bool b', .slice A' n' c', .slice D' m' e'] := (bxK B_x hp)
  have zp2 : w1.heap.size ≤ p2.heap.size := (by rw [hp]; exact leA)
  clear hp O
  have O := O'
  clear O'
  refine (szRat_no b' A' n' c' D' m' e' (left - n - m) _ Hn'.out Hm'.out j0 j1 (by have := Hi.out; omega)).mono ?_
  rintro e w2 ⟨rfl, o2⟩
  replace B_x := Bx.old B_x o2
  replace O := Old.trans O o2
  have zw2 := o2.size
  obtain ⟨q_x_0, q_x_1, q_x_2, q_x_3, q_x_4, q_x_5, f_x_0, f_x_1, f_x_2, f_x_3, f_x_4, f_x_5, q_x⟩ := B_x.all6
  go_wp2
  go_ret
  exact ⟨rfl, Below.trans (b := w2) O oldB⟩
theorem szPoint_no (b : Bool) (A : Option Addr) (n c : Nat) (D : Option Addr) (m e : Nat) (b' : Bool) (A' : Option Addr) (n' c' : Nat) (D' : Option Addr) (m' e' : Nat) (left : Int) (w : World) (hn : n ≤ 9223372036854775807) (hm : m ≤ 9223372036854775807) (hn' : n' ≤ 9223372036854775807) (hm' : m' ≤ 9223372036854775807) (h0 : 0 ≤ left) (h1 : left ≤ 1048576) (h : ¬ (n : Int) + (m : Int) + (n' : Int) + (m' : Int) ≤ left) :
    Calls Try.prog 4 #[.agg #[.bool b, .slice A n c, .slice D m e, .bool b', .slice A' n' c', .slice D' m' e'], .int .i64 left] w fun x w' => x = .returned (.int .i64 (-1)) ∧ Old w w' := by
  by_cases h2 : (n : Int) + (m : Int) ≤ left
  · exact szPoint_no2 b A n c D m e b' A' n' c' D' m' e' left w hn hm hn' hm' h0 h1 h2 h
  · exact szPoint_no1 b A n c D m e b' A' n' c' D' m' e' left w hn hm hn' hm' h0 h1 h2
end Go.Proofs.Ytgchbbjhdeobpaa
