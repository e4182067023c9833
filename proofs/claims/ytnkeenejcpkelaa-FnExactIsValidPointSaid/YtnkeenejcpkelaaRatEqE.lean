/-
  Equality of lists of ints, of fractions, of points.
-/
import Derived.Test.YtnkeenejcpkelaaWk
namespace Go.Proofs.Ytnkeenejcpkelaa
set_option linter.unusedVariables false
open Go.RowKit Num
attribute [local go_sem ↓] Go.wp_at_zero Go.wp_at_succ
def eqL (n : Nat) (f : Nat → Int) (m : Nat) (g : Nat → Int) : Prop := n = m ∧ ∀ j, j < n → f j = g j
open Classical in
noncomputable def rEqL (n : Nat) (f : Nat → Int) (m : Nat) (g : Nat → Int) : Bool := decide (eqL n f m g)
theorem rEqL_yes {n m : Nat} {f g : Nat → Int} (h : eqL n f m g) : rEqL n f m g = true := by simp [rEqL, h]
theorem ret_bool {e : Ending} {b b' : Bool} {P : Prop} (h : b = b') (k : e = .returned (.bool b') ∧ P) : e = .returned (.bool b) ∧ P := h ▸ k
theorem rEqL_no {n m : Nat} {f g : Nat → Int} (h : ¬ eqL n f m g) : rEqL n f m g = false := by simp [rEqL, h]
set_option maxRecDepth 100000 in
set_option maxHeartbeats 1000000 in
theorem l04List_any (A1 A2 : Option Addr) (n c1 m c2 : Nat) (f g : Nat → Int) (lo1 lo2 : Nat) (w : World) (h1 : Row w lo1 A1 n c1 f) (h2 : Row w lo2 A2 m c2 g) (hn : n ≤ 1048576) (hm : m ≤ 1048576) :
    Calls Try.prog 82 #[.slice A1 n c1, .slice A2 m c2] w fun e w' => e = .returned (.bool (rEqL n f m g)) ∧ Old w w' := by
  by_cases hnm : n = m
  · subst hnm
    go_enter Try.func82, Try.ntmps82
    go_wp2
    go_loopw [13] (fun i wr => ∃ (k q : Nat), k ≤ n ∧ i = .int .i64 (k : Int) ∧ wr = w.drewN q ∧ Hid (∀ j, j < k → f j = g j)) (fun i _ => n - (intOf i).toNat)
    case atStart => exact ⟨0, 0, Nat.zero_le _, rfl, rfl, Lib.hid fun j h => absurd h (Nat.not_lt_zero j)⟩
    case round =>
      obtain ⟨k, q, hk, rfl, rfl, He⟩ := hrel
      by_cases hlt : k < n
      · obtain ⟨b1, o1, rfl, _, _, _, hc1⟩ := h1.2 (by omega)
        obtain ⟨b2, o2, rfl, _, _, _, hc2⟩ := h2.2 (by omega)
        have hx1 := hc1 k hlt
        have hx2 := hc2 k hlt
        by_cases hfg : f k = g k
        · rw [← hfg] at hx2
          have He2 : Hid (∀ j, j < k + 1 → f j = g j) := Lib.hid fun j hj => by
            rcases Nat.lt_or_ge j k with h | h
            · exact He.out j h
            · obtain rfl : j = k := by omega
              exact hfg
          clear hc1 hc2 hfg
          go_wp2
          go_quiet (fail)
          go_wp2
          go_roundw
          case rel => exact ⟨k + 1, _, by omega, by go_num, rfl, He2⟩
          case measure => simp [intOf]; omega
        · have Hr : Hid (rEqL n f n g = false) := Lib.hid (rEqL_no fun h => hfg (h.2 k hlt))
          have hne : (f k == g k) = false := by simpa using hfg
          have hne' : (f k != g k) = true := by simpa using hfg
          clear hc1 hc2 hfg
          go_wp2
          go_quiet (fail)
          go_wp2
          go_ret
          exact ret_bool Hr.out ⟨rfl, oldA⟩
      · obtain rfl : k = n := by omega
        have Hr : Hid (rEqL k f k g = true) := Lib.hid (rEqL_yes ⟨rfl, He.out⟩)
        go_wp2
        go_ret
        exact ret_bool Hr.out ⟨rfl, oldA⟩
  · have Hr : Hid (rEqL n f m g = false) := Lib.hid (rEqL_no fun h => hnm h.1)
    have hx : ((n : Int) == (m : Int)) = false := by simp; omega
    have hx' : ((n : Int) != (m : Int)) = true := by simp; omega
    rw [Hr.out]
    clear hnm
    go_enter Try.func82, Try.ntmps82
    go_wp2
    go_ret
    exact ⟨rfl, oldA⟩
set_option maxRecDepth 100000 in
set_option maxHeartbeats 1000000 in
theorem slEqual_any (A1 A2 : Option Addr) (n c1 m c2 : Nat) (f g : Nat → Int) (lo1 lo2 : Nat) (w : World) (h1 : Row w lo1 A1 n c1 f) (h2 : Row w lo2 A2 m c2 g) (hn : n ≤ 1048576) (hm : m ≤ 1048576) :
    Calls Try.prog 84 #[.slice A1 n c1, .slice A2 m c2] w fun e w' => e = .returned (.bool (rEqL n f m g)) ∧ Old w w' := by
  by_cases hnm : n = m
  · subst hnm
    go_enter Try.func84, Try.ntmps84
    go_wp2
    go_loopw [13] (fun i wr => ∃ (k q : Nat), k ≤ n ∧ i = .int .i64 (k : Int) ∧ wr = w.drewN q ∧ Hid (∀ j, j < k → f j = g j)) (fun i _ => n - (intOf i).toNat)
    case atStart => exact ⟨0, 0, Nat.zero_le _, rfl, rfl, Lib.hid fun j h => absurd h (Nat.not_lt_zero j)⟩
    case round =>
      obtain ⟨k, q, hk, rfl, rfl, He⟩ := hrel
      by_cases hlt : k < n
      · obtain ⟨b1, o1, rfl, _, _, _, hc1⟩ := h1.2 (by omega)
        obtain ⟨b2, o2, rfl, _, _, _, hc2⟩ := h2.2 (by omega)
        have hx1 := hc1 k hlt
        have hx2 := hc2 k hlt
        by_cases hfg : f k = g k
        · rw [← hfg] at hx2
          have He2 : Hid (∀ j, j < k + 1 → f j = g j) := Lib.hid fun j hj => by
            rcases Nat.lt_or_ge j k with h | h
            · exact He.out j h
            · obtain rfl : j = k := by omega
              exact hfg
          clear hc1 hc2 hfg
          go_wp2
          go_quiet (fail)
          go_wp2
          go_roundw
          case rel => exact ⟨k + 1, _, by omega, by go_num, rfl, He2⟩
          case measure => simp [intOf]; omega
        · have Hr : Hid (rEqL n f n g = false) := Lib.hid (rEqL_no fun h => hfg (h.2 k hlt))
          have hne : (f k == g k) = false := by simpa using hfg
          have hne' : (f k != g k) = true := by simpa using hfg
          clear hc1 hc2 hfg
          go_wp2
          go_quiet (fail)
          go_wp2
          go_ret
          exact ret_bool Hr.out ⟨rfl, oldA⟩
      · obtain rfl : k = n := by omega
        have Hr : Hid (rEqL k f k g = true) := Lib.hid (rEqL_yes ⟨rfl, He.out⟩)
        go_wp2
        go_ret
        exact ret_bool Hr.out ⟨rfl, oldA⟩
  · have Hr : Hid (rEqL n f m g = false) := Lib.hid (rEqL_no fun h => hnm h.1)
    have hx : ((n : Int) == (m : Int)) = false := by simp; omega
    have hx' : ((n : Int) != (m : Int)) = true := by simp; omega
    rw [Hr.out]
    clear hnm
    go_enter Try.func84, Try.ntmps84
    go_wp2
    go_ret
    exact ⟨rfl, oldA⟩
noncomputable def rRatEqual (b1 : Bool) (n1 : Nat) (f1 : Nat → Int) (m1 : Nat) (g1 : Nat → Int) (b2 : Bool) (n2 : Nat) (f2 : Nat → Int) (m2 : Nat) (g2 : Nat → Int) : Bool := (b1 == b2) && (rEqL n1 f1 n2 f2 && rEqL m1 g1 m2 g2)
set_option maxRecDepth 100000 in
set_option maxHeartbeats 1000000 in
theorem spec_RatEqual (b1 : Bool) (A1 : Option Addr) (n1 c1 l1 : Nat) (f1 : Nat → Int) (D1 : Option Addr) (m1 e1 u1 : Nat) (g1 : Nat → Int) (b2 : Bool) (A2 : Option Addr) (n2 c2 l2 : Nat) (f2 : Nat → Int) (D2 : Option Addr) (m2 e2 u2 : Nat) (g2 : Nat → Int) (w : World) (h1 : Row w l1 A1 n1 c1 f1) (k1 : Row w u1 D1 m1 e1 g1) (h2 : Row w l2 A2 n2 c2 f2) (k2 : Row w u2 D2 m2 e2 g2) (hn1 : n1 ≤ 1048576) (hm1 : m1 ≤ 1048576) (hn2 : n2 ≤ 1048576) (hm2 : m2 ≤ 1048576) :
    Calls Try.prog 25 #[.agg #[.bool b1, .slice A1 n1 c1, .slice D1 m1 e1], .agg #[.bool b2, .slice A2 n2 c2, .slice D2 m2 e2]] w fun e w' => e = .returned (.bool (rRatEqual b1 n1 f1 m1 g1 b2 n2 f2 m2 g2)) ∧ Old w w' := by
  unfold rRatEqual
  by_cases hb : b1 = b2
  case neg =>
    have hb' : (b1 == b2) = false := by simpa using hb
    clear hb
    have O : Old w ((w.alloc (.cells #[.bool b1, .slice A1 n1 c1, .slice D1 m1 e1] 31)).alloc (.cells #[.bool b2, .slice A2 n2 c2, .slice D2 m2 e2] 31)) := oldA
    have B_x : Bx ((w.alloc (.cells #[.bool b1, .slice A1 n1 c1, .slice D1 m1 e1] 31)).alloc (.cells #[.bool b2, .slice A2 n2 c2, .slice D2 m2 e2] 31)) (w.heap.size) #[.bool b1, .slice A1 n1 c1, .slice D1 m1 e1] := by have h := (Bx.alloc (Bx.new w #[.bool b1, .slice A1 n1 c1, .slice D1 m1 e1] 31) (.cells #[.bool b2, .slice A2 n2 c2, .slice D2 m2 e2] 31)); simpa using h
    have B_y : Bx ((w.alloc (.cells #[.bool b1, .slice A1 n1 c1, .slice D1 m1 e1] 31)).alloc (.cells #[.bool b2, .slice A2 n2 c2, .slice D2 m2 e2] 31)) (w.heap.size + 1) #[.bool b2, .slice A2 n2 c2, .slice D2 m2 e2] := by have h := (Bx.new (w.alloc (.cells #[.bool b1, .slice A1 n1 c1, .slice D1 m1 e1] 31)) #[.bool b2, .slice A2 n2 c2, .slice D2 m2 e2] 31); simpa using h
    have ne_0_1 : ¬ (w.heap.size = w.heap.size + 1) := by omega
    have ne_1_0 : ¬ (w.heap.size + 1 = w.heap.size) := by omega
    have ze : w.heap.size + 2 ≤ ((w.alloc (.cells #[.bool b1, .slice A1 n1 c1, .slice D1 m1 e1] 31)).alloc (.cells #[.bool b2, .slice A2 n2 c2, .slice D2 m2 e2] 31)).heap.size := (by simp)
    go_enter Try.func25, Try.ntmps25
    go_wp2
    go_ret
    exact ret_bool (by rw [hb']; rfl) ⟨rfl, oldA⟩
  subst hb
  have hb' : (b1 == b1) = true := by simp
  by_cases hl : eqL n1 f1 n2 f2
  case neg =>
    have Hl := Lib.hid (rEqL_no hl)
    clear hl
    have O : Old w ((w.alloc (.cells #[.bool b1, .slice A1 n1 c1, .slice D1 m1 e1] 31)).alloc (.cells #[.bool b1, .slice A2 n2 c2, .slice D2 m2 e2] 31)) := oldA
    have B_x : Bx ((w.alloc (.cells #[.bool b1, .slice A1 n1 c1, .slice D1 m1 e1] 31)).alloc (.cells #[.bool b1, .slice A2 n2 c2, .slice D2 m2 e2] 31)) (w.heap.size) #[.bool b1, .slice A1 n1 c1, .slice D1 m1 e1] := by have h := (Bx.alloc (Bx.new w #[.bool b1, .slice A1 n1 c1, .slice D1 m1 e1] 31) (.cells #[.bool b1, .slice A2 n2 c2, .slice D2 m2 e2] 31)); simpa using h
    have B_y : Bx ((w.alloc (.cells #[.bool b1, .slice A1 n1 c1, .slice D1 m1 e1] 31)).alloc (.cells #[.bool b1, .slice A2 n2 c2, .slice D2 m2 e2] 31)) (w.heap.size + 1) #[.bool b1, .slice A2 n2 c2, .slice D2 m2 e2] := by have h := (Bx.new (w.alloc (.cells #[.bool b1, .slice A1 n1 c1, .slice D1 m1 e1] 31)) #[.bool b1, .slice A2 n2 c2, .slice D2 m2 e2] 31); simpa using h
    have ne_0_1 : ¬ (w.heap.size = w.heap.size + 1) := by omega
    have ne_1_0 : ¬ (w.heap.size + 1 = w.heap.size) := by omega
    have ze : w.heap.size + 2 ≤ ((w.alloc (.cells #[.bool b1, .slice A1 n1 c1, .slice D1 m1 e1] 31)).alloc (.cells #[.bool b1, .slice A2 n2 c2, .slice D2 m2 e2] 31)).heap.size := (by simp)
    go_enter Try.func25, Try.ntmps25
    go_wp2_with fail
    refine callsNamed ?_
    intro p1 hp
    have O' : Old w p1 := (by rw [hp]; exact Below.trans (b := ((w.alloc (.cells #[.bool b1, .slice A1 n1 c1, .slice D1 m1 e1] 31)).alloc (.cells #[.bool b1, .slice A2 n2 c2, .slice D2 m2 e2] 31))) O oldA)
    replace B_x : Bx p1 (w.heap.size) #[.bool b1, .slice A1 n1 c1, .slice D1 m1 e1] := (by rw [hp]; repeat' (first | (with_reducible exact B_x) | (with_reducible refine Bx.alloc ?_ _) | (with_reducible refine Bx.drewN ?_ _) | (with_reducible refine Bx.drew ?_) | refine Bx.far ?_ (by first | assumption | (simp <;> done) | (simp; omega) | omega) _))
    replace B_y : Bx p1 (w.heap.size + 1) #[.bool b1, .slice A2 n2 c2, .slice D2 m2 e2] := (by rw [hp]; repeat' (first | (with_reducible exact B_y) | (with_reducible refine Bx.alloc ?_ _) | (with_reducible refine Bx.drewN ?_ _) | (with_reducible refine Bx.drew ?_) | refine Bx.far ?_ (by first | assumption | (simp <;> done) | (simp; omega) | omega) _))
    have zp1 : ((w.alloc (.cells #[.bool b1, .slice A1 n1 c1, .slice D1 m1 e1] 31)).alloc (.cells #[.bool b1, .slice A2 n2 c2, .slice D2 m2 e2] 31)).heap.size ≤ p1.heap.size := (by rw [hp]; exact leA)
    clear hp O
    have O := O'
    clear O'
    refine (plain_to (by rw [Hl.out]) (l04List_any A1 A2 n1 c1 n2 c2 f1 f2 l1 l2 _ (Row.below (B := w.heap.size) h1 O (Nat.le_refl _)) (Row.below (B := w.heap.size) h2 O (Nat.le_refl _)) hn1 hn2)).mono ?_
    rintro e w1 ⟨rfl, o1⟩
    replace B_x := Bx.old B_x o1
    replace B_y := Bx.old B_y o1
    replace O := Old.trans O o1
    have zw1 := o1.size
    have q_x_0 := B_x.cell 0 rfl
    have q_x_1 := B_x.cell 1 rfl
    have q_x_2 := B_x.cell 2 rfl
    have f_x_0 := B_x.frozen 0
    have f_x_1 := B_x.frozen 1
    have f_x_2 := B_x.frozen 2
    have q_x := B_x.lt
    have q_y_0 := B_y.cell 0 rfl
    have q_y_1 := B_y.cell 1 rfl
    have q_y_2 := B_y.cell 2 rfl
    have f_y_0 := B_y.frozen 0
    have f_y_1 := B_y.frozen 1
    have f_y_2 := B_y.frozen 2
    have q_y := B_y.lt
    go_wp2
    go_ret
    exact ret_bool (by rw [hb', Hl.out]; rfl) ⟨rfl, Below.trans (b := w1) O oldA⟩
  have Hl := Lib.hid (rEqL_yes hl)
  clear hl
  have O : Old w ((w.alloc (.cells #[.bool b1, .slice A1 n1 c1, .slice D1 m1 e1] 31)).alloc (.cells #[.bool b1, .slice A2 n2 c2, .slice D2 m2 e2] 31)) := oldA
  have B_x : Bx ((w.alloc (.cells #[.bool b1, .slice A1 n1 c1, .slice D1 m1 e1] 31)).alloc (.cells #[.bool b1, .slice A2 n2 c2, .slice D2 m2 e2] 31)) (w.heap.size) #[.bool b1, .slice A1 n1 c1, .slice D1 m1 e1] := by have h := (Bx.alloc (Bx.new w #[.bool b1, .slice A1 n1 c1, .slice D1 m1 e1] 31) (.cells #[.bool b1, .slice A2 n2 c2, .slice D2 m2 e2] 31)); simpa using h
  have B_y : Bx ((w.alloc (.cells #[.bool b1, .slice A1 n1 c1, .slice D1 m1 e1] 31)).alloc (.cells #[.bool b1, .slice A2 n2 c2, .slice D2 m2 e2] 31)) (w.heap.size + 1) #[.bool b1, .slice A2 n2 c2, .slice D2 m2 e2] := by have h := (Bx.new (w.alloc (.cells #[.bool b1, .slice A1 n1 c1, .slice D1 m1 e1] 31)) #[.bool b1, .slice A2 n2 c2, .slice D2 m2 e2] 31); simpa using h
  have ne_0_1 : ¬ (w.heap.size = w.heap.size + 1) := by omega
  have ne_1_0 : ¬ (w.heap.size + 1 = w.heap.size) := by omega
  have ze : w.heap.size + 2 ≤ ((w.alloc (.cells #[.bool b1, .slice A1 n1 c1, .slice D1 m1 e1] 31)).alloc (.cells #[.bool b1, .slice A2 n2 c2, .slice D2 m2 e2] 31)).heap.size := (by simp)
  go_enter Try.func25, Try.ntmps25
  go_wp2_with fail
  refine callsNamed ?_
  intro p1 hp
  have O' : Old w p1 := (by rw [hp]; exact Below.trans (b := ((w.alloc (.cells #[.bool b1, .slice A1 n1 c1, .slice D1 m1 e1] 31)).alloc (.cells #[.bool b1, .slice A2 n2 c2, .slice D2 m2 e2] 31))) O oldA)
  replace B_x : Bx p1 (w.heap.size) #[.bool b1, .slice A1 n1 c1, .slice D1 m1 e1] := (by rw [hp]; repeat' (first | (with_reducible exact B_x) | (with_reducible refine Bx.alloc ?_ _) | (with_reducible refine Bx.drewN ?_ _) | (with_reducible refine Bx.drew ?_) | refine Bx.far ?_ (by first | assumption | (simp <;> done) | (simp; omega) | omega) _))
  replace B_y : Bx p1 (w.heap.size + 1) #[.bool b1, .slice A2 n2 c2, .slice D2 m2 e2] := (by rw [hp]; repeat' (first | (with_reducible exact B_y) | (with_reducible refine Bx.alloc ?_ _) | (with_reducible refine Bx.drewN ?_ _) | (with_reducible refine Bx.drew ?_) | refine Bx.far ?_ (by first | assumption | (simp <;> done) | (simp; omega) | omega) _))
  have zp1 : ((w.alloc (.cells #[.bool b1, .slice A1 n1 c1, .slice D1 m1 e1] 31)).alloc (.cells #[.bool b1, .slice A2 n2 c2, .slice D2 m2 e2] 31)).heap.size ≤ p1.heap.size := (by rw [hp]; exact leA)
  clear hp O
  have O := O'
  clear O'
  refine (plain_to (by rw [Hl.out]) (l04List_any A1 A2 n1 c1 n2 c2 f1 f2 l1 l2 _ (Row.below (B := w.heap.size) h1 O (Nat.le_refl _)) (Row.below (B := w.heap.size) h2 O (Nat.le_refl _)) hn1 hn2)).mono ?_
  rintro e w1 ⟨rfl, o1⟩
  replace B_x := Bx.old B_x o1
  replace B_y := Bx.old B_y o1
  replace O := Old.trans O o1
  have zw1 := o1.size
  have q_x_0 := B_x.cell 0 rfl
  have q_x_1 := B_x.cell 1 rfl
  have q_x_2 := B_x.cell 2 rfl
  have f_x_0 := B_x.frozen 0
  have f_x_1 := B_x.frozen 1
  have f_x_2 := B_x.frozen 2
  have q_x := B_x.lt
  have q_y_0 := B_y.cell 0 rfl
  have q_y_1 := B_y.cell 1 rfl
  have q_y_2 := B_y.cell 2 rfl
  have f_y_0 := B_y.frozen 0
  have f_y_1 := B_y.frozen 1
  have f_y_2 := B_y.frozen 2
  have q_y := B_y.lt
  go_wp2_with fail
  refine callsNamed ?_
  intro p2 hp
  clear q_x_0 q_x_1 q_x_2 f_x_0 f_x_1 f_x_2 q_x q_y_0 q_y_1 q_y_2 f_y_0 f_y_1 f_y_2 q_y
  have O' : Old w p2 := (by rw [hp]; exact Below.trans (b := w1) O oldA)
  replace B_x : Bx p2 (w.heap.size) #[.bool b1, .slice A1 n1 c1, .slice D1 m1 e1] := (by rw [hp]; repeat' (first | (with_reducible exact B_x) | (with_reducible refine Bx.alloc ?_ _) | (with_reducible refine Bx.drewN ?_ _) | (with_reducible refine Bx.drew ?_) | refine Bx.far ?_ (by first | assumption | (simp <;> done) | (simp; omega) | omega) _))
  replace B_y : Bx p2 (w.heap.size + 1) #[.bool b1, .slice A2 n2 c2, .slice D2 m2 e2] := (by rw [hp]; repeat' (first | (with_reducible exact B_y) | (with_reducible refine Bx.alloc ?_ _) | (with_reducible refine Bx.drewN ?_ _) | (with_reducible refine Bx.drew ?_) | refine Bx.far ?_ (by first | assumption | (simp <;> done) | (simp; omega) | omega) _))
  have zp2 : w1.heap.size ≤ p2.heap.size := (by rw [hp]; exact leA)
  clear hp O
  have O := O'
  clear O'
  refine (l04List_any D1 D2 m1 e1 m2 e2 g1 g2 u1 u2 _ (Row.below (B := w.heap.size) k1 O (Nat.le_refl _)) (Row.below (B := w.heap.size) k2 O (Nat.le_refl _)) hm1 hm2).mono ?_
  rintro e w2 ⟨rfl, o2⟩
  replace B_x := Bx.old B_x o2
  replace B_y := Bx.old B_y o2
  replace O := Old.trans O o2
  have zw2 := o2.size
  have q_x_0 := B_x.cell 0 rfl
  have q_x_1 := B_x.cell 1 rfl
  have q_x_2 := B_x.cell 2 rfl
  have f_x_0 := B_x.frozen 0
  have f_x_1 := B_x.frozen 1
  have f_x_2 := B_x.frozen 2
  have q_x := B_x.lt
  have q_y_0 := B_y.cell 0 rfl
  have q_y_1 := B_y.cell 1 rfl
  have q_y_2 := B_y.cell 2 rfl
  have f_y_0 := B_y.frozen 0
  have f_y_1 := B_y.frozen 1
  have f_y_2 := B_y.frozen 2
  have q_y := B_y.lt
  go_wp2
  go_ret
  exact ret_bool (by rw [hb', Hl.out]; rfl) ⟨rfl, Below.trans (b := w2) O oldA⟩
set_option maxRecDepth 100000 in
set_option maxHeartbeats 1000000 in
theorem impl_RatEqual (b1 : Bool) (A1 : Option Addr) (n1 c1 l1 : Nat) (f1 : Nat → Int) (D1 : Option Addr) (m1 e1 u1 : Nat) (g1 : Nat → Int) (b2 : Bool) (A2 : Option Addr) (n2 c2 l2 : Nat) (f2 : Nat → Int) (D2 : Option Addr) (m2 e2 u2 : Nat) (g2 : Nat → Int) (w : World) (h1 : Row w l1 A1 n1 c1 f1) (k1 : Row w u1 D1 m1 e1 g1) (h2 : Row w l2 A2 n2 c2 f2) (k2 : Row w u2 D2 m2 e2 g2) (hn1 : n1 ≤ 1048576) (hm1 : m1 ≤ 1048576) (hn2 : n2 ≤ 1048576) (hm2 : m2 ≤ 1048576) :
    Calls Try.prog 27 #[.agg #[.bool b1, .slice A1 n1 c1, .slice D1 m1 e1], .agg #[.bool b2, .slice A2 n2 c2, .slice D2 m2 e2]] w fun e w' => e = .returned (.bool (rRatEqual b1 n1 f1 m1 g1 b2 n2 f2 m2 g2)) ∧ Old w w' := by
  unfold rRatEqual
  by_cases hb : b1 = b2
  case neg =>
    have hb' : (b1 == b2) = false := by simpa using hb
    clear hb
    have O : Old w ((w.alloc (.cells #[.bool b1, .slice A1 n1 c1, .slice D1 m1 e1] 31)).alloc (.cells #[.bool b2, .slice A2 n2 c2, .slice D2 m2 e2] 31)) := oldA
    have B_x : Bx ((w.alloc (.cells #[.bool b1, .slice A1 n1 c1, .slice D1 m1 e1] 31)).alloc (.cells #[.bool b2, .slice A2 n2 c2, .slice D2 m2 e2] 31)) (w.heap.size) #[.bool b1, .slice A1 n1 c1, .slice D1 m1 e1] := by have h := (Bx.alloc (Bx.new w #[.bool b1, .slice A1 n1 c1, .slice D1 m1 e1] 31) (.cells #[.bool b2, .slice A2 n2 c2, .slice D2 m2 e2] 31)); simpa using h
    have B_y : Bx ((w.alloc (.cells #[.bool b1, .slice A1 n1 c1, .slice D1 m1 e1] 31)).alloc (.cells #[.bool b2, .slice A2 n2 c2, .slice D2 m2 e2] 31)) (w.heap.size + 1) #[.bool b2, .slice A2 n2 c2, .slice D2 m2 e2] := by have h := (Bx.new (w.alloc (.cells #[.bool b1, .slice A1 n1 c1, .slice D1 m1 e1] 31)) #[.bool b2, .slice A2 n2 c2, .slice D2 m2 e2] 31); simpa using h
    have ne_0_1 : ¬ (w.heap.size = w.heap.size + 1) := by omega
    have ne_1_0 : ¬ (w.heap.size + 1 = w.heap.size) := by omega
    have ze : w.heap.size + 2 ≤ ((w.alloc (.cells #[.bool b1, .slice A1 n1 c1, .slice D1 m1 e1] 31)).alloc (.cells #[.bool b2, .slice A2 n2 c2, .slice D2 m2 e2] 31)).heap.size := (by simp)
    go_enter Try.func27, Try.ntmps27
    go_wp2
    go_ret
    exact ret_bool (by rw [hb']; rfl) ⟨rfl, oldA⟩
  subst hb
  have hb' : (b1 == b1) = true := by simp
  by_cases hl : eqL n1 f1 n2 f2
  case neg =>
    have Hl := Lib.hid (rEqL_no hl)
    clear hl
    have O : Old w ((w.alloc (.cells #[.bool b1, .slice A1 n1 c1, .slice D1 m1 e1] 31)).alloc (.cells #[.bool b1, .slice A2 n2 c2, .slice D2 m2 e2] 31)) := oldA
    have B_x : Bx ((w.alloc (.cells #[.bool b1, .slice A1 n1 c1, .slice D1 m1 e1] 31)).alloc (.cells #[.bool b1, .slice A2 n2 c2, .slice D2 m2 e2] 31)) (w.heap.size) #[.bool b1, .slice A1 n1 c1, .slice D1 m1 e1] := by have h := (Bx.alloc (Bx.new w #[.bool b1, .slice A1 n1 c1, .slice D1 m1 e1] 31) (.cells #[.bool b1, .slice A2 n2 c2, .slice D2 m2 e2] 31)); simpa using h
    have B_y : Bx ((w.alloc (.cells #[.bool b1, .slice A1 n1 c1, .slice D1 m1 e1] 31)).alloc (.cells #[.bool b1, .slice A2 n2 c2, .slice D2 m2 e2] 31)) (w.heap.size + 1) #[.bool b1, .slice A2 n2 c2, .slice D2 m2 e2] := by have h := (Bx.new (w.alloc (.cells #[.bool b1, .slice A1 n1 c1, .slice D1 m1 e1] 31)) #[.bool b1, .slice A2 n2 c2, .slice D2 m2 e2] 31); simpa using h
    have ne_0_1 : ¬ (w.heap.size = w.heap.size + 1) := by omega
    have ne_1_0 : ¬ (w.heap.size + 1 = w.heap.size) := by omega
    have ze : w.heap.size + 2 ≤ ((w.alloc (.cells #[.bool b1, .slice A1 n1 c1, .slice D1 m1 e1] 31)).alloc (.cells #[.bool b1, .slice A2 n2 c2, .slice D2 m2 e2] 31)).heap.size := (by simp)
    go_enter Try.func27, Try.ntmps27
    go_wp2_with fail
    refine callsNamed ?_
    intro p1 hp
    have O' : Old w p1 := (by rw [hp]; exact Below.trans (b := ((w.alloc (.cells #[.bool b1, .slice A1 n1 c1, .slice D1 m1 e1] 31)).alloc (.cells #[.bool b1, .slice A2 n2 c2, .slice D2 m2 e2] 31))) O oldA)
    replace B_x : Bx p1 (w.heap.size) #[.bool b1, .slice A1 n1 c1, .slice D1 m1 e1] := (by rw [hp]; repeat' (first | (with_reducible exact B_x) | (with_reducible refine Bx.alloc ?_ _) | (with_reducible refine Bx.drewN ?_ _) | (with_reducible refine Bx.drew ?_) | refine Bx.far ?_ (by first | assumption | (simp <;> done) | (simp; omega) | omega) _))
    replace B_y : Bx p1 (w.heap.size + 1) #[.bool b1, .slice A2 n2 c2, .slice D2 m2 e2] := (by rw [hp]; repeat' (first | (with_reducible exact B_y) | (with_reducible refine Bx.alloc ?_ _) | (with_reducible refine Bx.drewN ?_ _) | (with_reducible refine Bx.drew ?_) | refine Bx.far ?_ (by first | assumption | (simp <;> done) | (simp; omega) | omega) _))
    have zp1 : ((w.alloc (.cells #[.bool b1, .slice A1 n1 c1, .slice D1 m1 e1] 31)).alloc (.cells #[.bool b1, .slice A2 n2 c2, .slice D2 m2 e2] 31)).heap.size ≤ p1.heap.size := (by rw [hp]; exact leA)
    clear hp O
    have O := O'
    clear O'
    refine (plain_to (by rw [Hl.out]) (slEqual_any A1 A2 n1 c1 n2 c2 f1 f2 l1 l2 _ (Row.below (B := w.heap.size) h1 O (Nat.le_refl _)) (Row.below (B := w.heap.size) h2 O (Nat.le_refl _)) hn1 hn2)).mono ?_
    rintro e w1 ⟨rfl, o1⟩
    replace B_x := Bx.old B_x o1
    replace B_y := Bx.old B_y o1
    replace O := Old.trans O o1
    have zw1 := o1.size
    have q_x_0 := B_x.cell 0 rfl
    have q_x_1 := B_x.cell 1 rfl
    have q_x_2 := B_x.cell 2 rfl
    have f_x_0 := B_x.frozen 0
    have f_x_1 := B_x.frozen 1
    have f_x_2 := B_x.frozen 2
    have q_x := B_x.lt
    have q_y_0 := B_y.cell 0 rfl
    have q_y_1 := B_y.cell 1 rfl
    have q_y_2 := B_y.cell 2 rfl
    have f_y_0 := B_y.frozen 0
    have f_y_1 := B_y.frozen 1
    have f_y_2 := B_y.frozen 2
    have q_y := B_y.lt
    go_wp2
    go_ret
    exact ret_bool (by rw [hb', Hl.out]; rfl) ⟨rfl, Below.trans (b := w1) O oldA⟩
  have Hl := Lib.hid (rEqL_yes hl)
  clear hl
  have O : Old w ((w.alloc (.cells #[.bool b1, .slice A1 n1 c1, .slice D1 m1 e1] 31)).alloc (.cells #[.bool b1, .slice A2 n2 c2, .slice D2 m2 e2] 31)) := oldA
  have B_x : Bx ((w.alloc (.cells #[.bool b1, .slice A1 n1 c1, .slice D1 m1 e1] 31)).alloc (.cells #[.bool b1, .slice A2 n2 c2, .slice D2 m2 e2] 31)) (w.heap.size) #[.bool b1, .slice A1 n1 c1, .slice D1 m1 e1] := by have h := (Bx.alloc (Bx.new w #[.bool b1, .slice A1 n1 c1, .slice D1 m1 e1] 31) (.cells #[.bool b1, .slice A2 n2 c2, .slice D2 m2 e2] 31)); simpa using h
  have B_y : Bx ((w.alloc (.cells #[.bool b1, .slice A1 n1 c1, .slice D1 m1 e1] 31)).alloc (.cells #[.bool b1, .slice A2 n2 c2, .slice D2 m2 e2] 31)) (w.heap.size + 1) #[.bool b1, .slice A2 n2 c2, .slice D2 m2 e2] := by have h := (Bx.new (w.alloc (.cells #[.bool b1, .slice A1 n1 c1, .slice D1 m1 e1] 31)) #[.bool b1, .slice A2 n2 c2, .slice D2 m2 e2] 31); simpa using h
  have ne_0_1 : ¬ (w.heap.size = w.heap.size + 1) := by omega
  have ne_1_0 : ¬ (w.heap.size + 1 = w.heap.size) := by omega
  have ze : w.heap.size + 2 ≤ ((w.alloc (.cells #[.bool b1, .slice A1 n1 c1, .slice D1 m1 e1] 31)).alloc (.cells #[.bool b1, .slice A2 n2 c2, .slice D2 m2 e2] 31)).heap.size := (by simp)
  go_enter Try.func27, Try.ntmps27
  go_wp2_with fail
  refine callsNamed ?_
  intro p1 hp
  have O' : Old w p1 := (by rw [hp]; exact Below.trans (b := ((w.alloc (.cells #[.bool b1, .slice A1 n1 c1, .slice D1 m1 e1] 31)).alloc (.cells #[.bool b1, .slice A2 n2 c2, .slice D2 m2 e2] 31))) O oldA)
  replace B_x : Bx p1 (w.heap.size) #[.bool b1, .slice A1 n1 c1, .slice D1 m1 e1] := (by rw [hp]; repeat' (first | (with_reducible exact B_x) | (with_reducible refine Bx.alloc ?_ _) | (with_reducible refine Bx.drewN ?_ _) | (with_reducible refine Bx.drew ?_) | refine Bx.far ?_ (by first | assumption | (simp <;> done) | (simp; omega) | omega) _))
  replace B_y : Bx p1 (w.heap.size + 1) #[.bool b1, .slice A2 n2 c2, .slice D2 m2 e2] := (by rw [hp]; repeat' (first | (with_reducible exact B_y) | (with_reducible refine Bx.alloc ?_ _) | (with_reducible refine Bx.drewN ?_ _) | (with_reducible refine Bx.drew ?_) | refine Bx.far ?_ (by first | assumption | (simp <;> done) | (simp; omega) | omega) _))
  have zp1 : ((w.alloc (.cells #[.bool b1, .slice A1 n1 c1, .slice D1 m1 e1] 31)).alloc (.cells #[.bool b1, .slice A2 n2 c2, .slice D2 m2 e2] 31)).heap.size ≤ p1.heap.size := (by rw [hp]; exact leA)
  clear hp O
  have O := O'
  clear O'
  refine (plain_to (by rw [Hl.out]) (slEqual_any A1 A2 n1 c1 n2 c2 f1 f2 l1 l2 _ (Row.below (B := w.heap.size) h1 O (Nat.le_refl _)) (Row.below (B := w.heap.size) h2 O (Nat.le_refl _)) hn1 hn2)).mono ?_
  rintro e w1 ⟨rfl, o1⟩
  replace B_x := Bx.old B_x o1
  replace B_y := Bx.old B_y o1
  replace O := Old.trans O o1
  have zw1 := o1.size
  have q_x_0 := B_x.cell 0 rfl
  have q_x_1 := B_x.cell 1 rfl
  have q_x_2 := B_x.cell 2 rfl
  have f_x_0 := B_x.frozen 0
  have f_x_1 := B_x.frozen 1
  have f_x_2 := B_x.frozen 2
  have q_x := B_x.lt
  have q_y_0 := B_y.cell 0 rfl
  have q_y_1 := B_y.cell 1 rfl
  have q_y_2 := B_y.cell 2 rfl
  have f_y_0 := B_y.frozen 0
  have f_y_1 := B_y.frozen 1
  have f_y_2 := B_y.frozen 2
  have q_y := B_y.lt
  go_wp2_with fail
  refine callsNamed ?_
  intro p2 hp
  clear q_x_0 q_x_1 q_x_2 f_x_0 f_x_1 f_x_2 q_x q_y_0 q_y_1 q_y_2 f_y_0 f_y_1 f_y_2 q_y
  have O' : Old w p2 := (by rw [hp]; exact Below.trans (b := w1) O oldA)
  replace B_x : Bx p2 (w.heap.size) #[.bool b1, .slice A1 n1 c1, .slice D1 m1 e1] := (by rw [hp]; repeat' (first | (with_reducible exact B_x) | (with_reducible refine Bx.alloc ?_ _) | (with_reducible refine Bx.drewN ?_ _) | (with_reducible refine Bx.drew ?_) | refine Bx.far ?_ (by first | assumption | (simp <;> done) | (simp; omega) | omega) _))
  replace B_y : Bx p2 (w.heap.size + 1) #[.bool b1, .slice A2 n2 c2, .slice D2 m2 e2] := (by rw [hp]; repeat' (first | (with_reducible exact B_y) | (with_reducible refine Bx.alloc ?_ _) | (with_reducible refine Bx.drewN ?_ _) | (with_reducible refine Bx.drew ?_) | refine Bx.far ?_ (by first | assumption | (simp <;> done) | (simp; omega) | omega) _))
  have zp2 : w1.heap.size ≤ p2.heap.size := (by rw [hp]; exact leA)
  clear hp O
  have O := O'
  clear O'
  refine (slEqual_any D1 D2 m1 e1 m2 e2 g1 g2 u1 u2 _ (Row.below (B := w.heap.size) k1 O (Nat.le_refl _)) (Row.below (B := w.heap.size) k2 O (Nat.le_refl _)) hm1 hm2).mono ?_
  rintro e w2 ⟨rfl, o2⟩
  replace B_x := Bx.old B_x o2
  replace B_y := Bx.old B_y o2
  replace O := Old.trans O o2
  have zw2 := o2.size
  have q_x_0 := B_x.cell 0 rfl
  have q_x_1 := B_x.cell 1 rfl
  have q_x_2 := B_x.cell 2 rfl
  have f_x_0 := B_x.frozen 0
  have f_x_1 := B_x.frozen 1
  have f_x_2 := B_x.frozen 2
  have q_x := B_x.lt
  have q_y_0 := B_y.cell 0 rfl
  have q_y_1 := B_y.cell 1 rfl
  have q_y_2 := B_y.cell 2 rfl
  have f_y_0 := B_y.frozen 0
  have f_y_1 := B_y.frozen 1
  have f_y_2 := B_y.frozen 2
  have q_y := B_y.lt
  go_wp2
  go_ret
  exact ret_bool (by rw [hb', Hl.out]; rfl) ⟨rfl, Below.trans (b := w2) O oldA⟩
end Go.Proofs.Ytnkeenejcpkelaa
