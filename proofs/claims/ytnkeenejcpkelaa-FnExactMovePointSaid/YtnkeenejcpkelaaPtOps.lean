import Derived.Test.YtnkeenejcpkelaaPtZ
/-
  Points that are computed: l05Valid, pointOr.
-/
namespace Go.Proofs.Ytnkeenejcpkelaa
set_option linter.unusedVariables false
open Go.RowKit Num
attribute [local go_sem ↓] Go.wp_at_zero Go.wp_at_succ
set_option maxRecDepth 100000 in
set_option maxHeartbeats 8000000 in
theorem isGoodPoint_any (zx : Int) (dx : Nat) (Ax Dx : Option Addr) (cx ex lx mx : Nat) (zy : Int) (dy : Nat) (Ay Dy : Option Addr) (cy ey ly my : Nat) (w : World) (v : Bool) (hv : v = (decide (0 < dx) && decide (0 < dy))) :
    Calls Try.prog 168 #[.agg #[.bool (sgnZ zx), .slice Ax (len (magZ zx)) cx, .slice Dx (len dx) ex, .bool (sgnZ zy), .slice Ay (len (magZ zy)) cy, .slice Dy (len dy) ey]] w fun e w' => e = .returned (.bool v) ∧ Old w w' := by
  subst hv
  by_cases px : 0 < dx
  · have P1 := Lib.hid px
    have HD : Hid (decide (0 < dx) = true) := Lib.hid (by simpa using px)
    clear px
    have O : Old w (w.alloc (.cells #[.bool (sgnZ zx), .slice Ax (len (magZ zx)) cx, .slice Dx (len dx) ex, .bool (sgnZ zy), .slice Ay (len (magZ zy)) cy, .slice Dy (len dy) ey] 39)) := oldB
    have B_p : Bx (w.alloc (.cells #[.bool (sgnZ zx), .slice Ax (len (magZ zx)) cx, .slice Dx (len dx) ex, .bool (sgnZ zy), .slice Ay (len (magZ zy)) cy, .slice Dy (len dy) ey] 39)) (w.heap.size) #[.bool (sgnZ zx), .slice Ax (len (magZ zx)) cx, .slice Dx (len dx) ex, .bool (sgnZ zy), .slice Ay (len (magZ zy)) cy, .slice Dy (len dy) ey] := by have h := (Bx.new w #[.bool (sgnZ zx), .slice Ax (len (magZ zx)) cx, .slice Dx (len dx) ex, .bool (sgnZ zy), .slice Ay (len (magZ zy)) cy, .slice Dy (len dy) ey] 39); simpa using h
    have ze : w.heap.size + 1 ≤ (w.alloc (.cells #[.bool (sgnZ zx), .slice Ax (len (magZ zx)) cx, .slice Dx (len dx) ex, .bool (sgnZ zy), .slice Ay (len (magZ zy)) cy, .slice Dy (len dy) ey] 39)).heap.size := (by simp)
    go_enter Try.func168, Try.ntmps168
    go_wp2_with fail
    refine callsNamed ?_
    intro p1 hp
    have O' : Old w p1 := (by rw [hp]; exact Below.trans (b := (w.alloc (.cells #[.bool (sgnZ zx), .slice Ax (len (magZ zx)) cx, .slice Dx (len dx) ex, .bool (sgnZ zy), .slice Ay (len (magZ zy)) cy, .slice Dy (len dy) ey] 39))) O oldB)
    replace B_p : Bx p1 (w.heap.size) #[.bool (sgnZ zx), .slice Ax (len (magZ zx)) cx, .slice Dx (len dx) ex, .bool (sgnZ zy), .slice Ay (len (magZ zy)) cy, .slice Dy (len dy) ey] := (bxK B_p hp)
    have zp1 : (w.alloc (.cells #[.bool (sgnZ zx), .slice Ax (len (magZ zx)) cx, .slice Dx (len dx) ex, .bool (sgnZ zy), .slice Ay (len (magZ zy)) cy, .slice Dy (len dy) ey] 39)).heap.size ≤ p1.heap.size := (by rw [hp]; exact leA)
    clear hp O
    have O := O'
    clear O'
    refine (isGood_yes (sgnZ zx) Ax Dx (len (magZ zx)) cx dx ex _ P1.out).mono ?_
    rintro e w1 ⟨rfl, o1⟩
    replace B_p := Bx.old B_p o1
    replace O := Old.trans O o1
    have zw1 := o1.size
    obtain ⟨q_p_0, q_p_1, q_p_2, q_p_3, q_p_4, q_p_5, f_p_0, f_p_1, f_p_2, f_p_3, f_p_4, f_p_5, q_p⟩ := B_p.all6
    go_wp2_with fail
    refine callsNamed ?_
    intro p2 hp
    clear q_p_0 q_p_1 q_p_2 q_p_3 q_p_4 q_p_5 f_p_0 f_p_1 f_p_2 f_p_3 f_p_4 f_p_5 q_p
    have O' : Old w p2 := (by rw [hp]; exact Below.trans (b := w1) O oldB)
    replace B_p : Bx p2 (w.heap.size) #[.bool (sgnZ zx), .slice Ax (len (magZ zx)) cx, .slice Dx (len dx) ex, .bool (sgnZ zy), .slice Ay (len (magZ zy)) cy, .slice Dy (len dy) ey] := (bxK B_p hp)
    have zp2 : w1.heap.size ≤ p2.heap.size := (by rw [hp]; exact leA)
    clear hp O
    have O := O'
    clear O'
    refine (isGood_any (sgnZ zy) Ay Dy (len (magZ zy)) cy (len dy) ey _).mono ?_
    rintro e w2 ⟨rfl, o2⟩
    replace B_p := Bx.old B_p o2
    replace O := Old.trans O o2
    have zw2 := o2.size
    obtain ⟨q_p_0, q_p_1, q_p_2, q_p_3, q_p_4, q_p_5, f_p_0, f_p_1, f_p_2, f_p_3, f_p_4, f_p_5, q_p⟩ := B_p.all6
    go_wp2
    go_ret
    exact ret_boolQ (by rw [HD.out]; rw [show decide (0 < len dy) = decide (0 < dy) from decide_eq_decide.2 ⟨pos_len, len_pos⟩]; rfl) ⟨rfl, Below.trans (b := w2) O oldB⟩
  · have P1 := Lib.hid px
    have HD : Hid (decide (0 < dx) = false) := Lib.hid (by simpa using px)
    clear px
    have O : Old w (w.alloc (.cells #[.bool (sgnZ zx), .slice Ax (len (magZ zx)) cx, .slice Dx (len dx) ex, .bool (sgnZ zy), .slice Ay (len (magZ zy)) cy, .slice Dy (len dy) ey] 39)) := oldB
    have B_p : Bx (w.alloc (.cells #[.bool (sgnZ zx), .slice Ax (len (magZ zx)) cx, .slice Dx (len dx) ex, .bool (sgnZ zy), .slice Ay (len (magZ zy)) cy, .slice Dy (len dy) ey] 39)) (w.heap.size) #[.bool (sgnZ zx), .slice Ax (len (magZ zx)) cx, .slice Dx (len dx) ex, .bool (sgnZ zy), .slice Ay (len (magZ zy)) cy, .slice Dy (len dy) ey] := by have h := (Bx.new w #[.bool (sgnZ zx), .slice Ax (len (magZ zx)) cx, .slice Dx (len dx) ex, .bool (sgnZ zy), .slice Ay (len (magZ zy)) cy, .slice Dy (len dy) ey] 39); simpa using h
    have ze : w.heap.size + 1 ≤ (w.alloc (.cells #[.bool (sgnZ zx), .slice Ax (len (magZ zx)) cx, .slice Dx (len dx) ex, .bool (sgnZ zy), .slice Ay (len (magZ zy)) cy, .slice Dy (len dy) ey] 39)).heap.size := (by simp)
    go_enter Try.func168, Try.ntmps168
    go_wp2_with fail
    refine callsNamed ?_
    intro p1 hp
    have O' : Old w p1 := (by rw [hp]; exact Below.trans (b := (w.alloc (.cells #[.bool (sgnZ zx), .slice Ax (len (magZ zx)) cx, .slice Dx (len dx) ex, .bool (sgnZ zy), .slice Ay (len (magZ zy)) cy, .slice Dy (len dy) ey] 39))) O oldB)
    replace B_p : Bx p1 (w.heap.size) #[.bool (sgnZ zx), .slice Ax (len (magZ zx)) cx, .slice Dx (len dx) ex, .bool (sgnZ zy), .slice Ay (len (magZ zy)) cy, .slice Dy (len dy) ey] := (bxK B_p hp)
    have zp1 : (w.alloc (.cells #[.bool (sgnZ zx), .slice Ax (len (magZ zx)) cx, .slice Dx (len dx) ex, .bool (sgnZ zy), .slice Ay (len (magZ zy)) cy, .slice Dy (len dy) ey] 39)).heap.size ≤ p1.heap.size := (by rw [hp]; exact leA)
    clear hp O
    have O := O'
    clear O'
    refine (isGood_no (sgnZ zx) Ax Dx (len (magZ zx)) cx dx ex _ P1.out).mono ?_
    rintro e w1 ⟨rfl, o1⟩
    replace B_p := Bx.old B_p o1
    replace O := Old.trans O o1
    have zw1 := o1.size
    obtain ⟨q_p_0, q_p_1, q_p_2, q_p_3, q_p_4, q_p_5, f_p_0, f_p_1, f_p_2, f_p_3, f_p_4, f_p_5, q_p⟩ := B_p.all6
    go_wp2
    go_ret
    exact ret_boolQ (by rw [HD.out]; rfl) ⟨rfl, Below.trans (b := w1) O oldB⟩
set_option maxRecDepth 100000 in
set_option maxHeartbeats 8000000 in
theorem l05Valid_yes (zx : Int) (dx : Nat) (Ax Dx : Option Addr) (cx ex lx mx : Nat) (zy : Int) (dy : Nat) (Ay Dy : Option Addr) (cy ey ly my : Nat) (w : World) (hx : NatS w lx Ax cx (magZ zx)) (kx : NatS w mx Dx ex dx) (nx : normF (zx, dx)) (hy : NatS w ly Ay cy (magZ zy)) (ky : NatS w my Dy ey dy) (ny : normF (zy, dy)) (px : 0 < dx) (py : 0 < dy) :
    Calls Try.prog 124 #[.agg #[.bool (sgnZ zx), .slice Ax (len (magZ zx)) cx, .slice Dx (len dx) ex, .bool (sgnZ zy), .slice Ay (len (magZ zy)) cy, .slice Dy (len dy) ey]] w fun e w' => e = .returned (.agg #[.bool (sgnZ zx), .slice Ax (len (magZ zx)) cx, .slice Dx (len dx) ex, .bool (sgnZ zy), .slice Ay (len (magZ zy)) cy, .slice Dy (len dy) ey]) ∧ Old w w' := by
  have LNx := norm_len nx
  have Lax : len (magZ zx) ≤ 24 := LNx.1
  have Lbx : len dx ≤ 24 := LNx.2
  clear LNx
  have LNy := norm_len ny
  have Lay : len (magZ zy) ≤ 24 := LNy.1
  have Lby : len dy ≤ 24 := LNy.2
  clear LNy
  have HOK : Hid (rIsValidPoint (sgnZ zx) (len (magZ zx)) (digI (magZ zx)) (len dx) (digI dx) (sgnZ zy) (len (magZ zy)) (digI (magZ zy)) (len dy) (digI dy) = true) := Lib.hid (valid_yes nx ny px py)
  clear nx ny px py
  have O : Old w ((w.alloc (.cells #[.bool (sgnZ zx), .slice Ax (len (magZ zx)) cx, .slice Dx (len dx) ex, .bool (sgnZ zy), .slice Ay (len (magZ zy)) cy, .slice Dy (len dy) ey] 39)).alloc (.cells #[.bool false, .slice none 0 0, .slice none 0 0, .bool false, .slice none 0 0, .slice none 0 0] 39)) := oldB
  have B_p : Bx ((w.alloc (.cells #[.bool (sgnZ zx), .slice Ax (len (magZ zx)) cx, .slice Dx (len dx) ex, .bool (sgnZ zy), .slice Ay (len (magZ zy)) cy, .slice Dy (len dy) ey] 39)).alloc (.cells #[.bool false, .slice none 0 0, .slice none 0 0, .bool false, .slice none 0 0, .slice none 0 0] 39)) (w.heap.size) #[.bool (sgnZ zx), .slice Ax (len (magZ zx)) cx, .slice Dx (len dx) ex, .bool (sgnZ zy), .slice Ay (len (magZ zy)) cy, .slice Dy (len dy) ey] := by have h := (Bx.alloc (Bx.new w #[.bool (sgnZ zx), .slice Ax (len (magZ zx)) cx, .slice Dx (len dx) ex, .bool (sgnZ zy), .slice Ay (len (magZ zy)) cy, .slice Dy (len dy) ey] 39) (.cells #[.bool false, .slice none 0 0, .slice none 0 0, .bool false, .slice none 0 0, .slice none 0 0] 39)); simpa using h
  have B_r : Bx ((w.alloc (.cells #[.bool (sgnZ zx), .slice Ax (len (magZ zx)) cx, .slice Dx (len dx) ex, .bool (sgnZ zy), .slice Ay (len (magZ zy)) cy, .slice Dy (len dy) ey] 39)).alloc (.cells #[.bool false, .slice none 0 0, .slice none 0 0, .bool false, .slice none 0 0, .slice none 0 0] 39)) (w.heap.size + 1) #[.bool false, .slice none 0 0, .slice none 0 0, .bool false, .slice none 0 0, .slice none 0 0] := by have h := (Bx.new (w.alloc (.cells #[.bool (sgnZ zx), .slice Ax (len (magZ zx)) cx, .slice Dx (len dx) ex, .bool (sgnZ zy), .slice Ay (len (magZ zy)) cy, .slice Dy (len dy) ey] 39)) #[.bool false, .slice none 0 0, .slice none 0 0, .bool false, .slice none 0 0, .slice none 0 0] 39); simpa using h
  have ne_0_1 : ¬ (w.heap.size = w.heap.size + 1) := by omega
  have ne_1_0 : ¬ (w.heap.size + 1 = w.heap.size) := by omega
  have ze : w.heap.size + 2 ≤ ((w.alloc (.cells #[.bool (sgnZ zx), .slice Ax (len (magZ zx)) cx, .slice Dx (len dx) ex, .bool (sgnZ zy), .slice Ay (len (magZ zy)) cy, .slice Dy (len dy) ey] 39)).alloc (.cells #[.bool false, .slice none 0 0, .slice none 0 0, .bool false, .slice none 0 0, .slice none 0 0] 39)).heap.size := (by simp)
  go_enter Try.func124, Try.ntmps124
  go_wp2_with fail
  refine callsNamed ?_
  intro p1 hp
  have O' : Old w p1 := (by rw [hp]; exact Below.trans (b := ((w.alloc (.cells #[.bool (sgnZ zx), .slice Ax (len (magZ zx)) cx, .slice Dx (len dx) ex, .bool (sgnZ zy), .slice Ay (len (magZ zy)) cy, .slice Dy (len dy) ey] 39)).alloc (.cells #[.bool false, .slice none 0 0, .slice none 0 0, .bool false, .slice none 0 0, .slice none 0 0] 39))) O oldB)
  replace B_p : Bx p1 (w.heap.size) #[.bool (sgnZ zx), .slice Ax (len (magZ zx)) cx, .slice Dx (len dx) ex, .bool (sgnZ zy), .slice Ay (len (magZ zy)) cy, .slice Dy (len dy) ey] := (bxK B_p hp)
  replace B_r : Bx p1 (w.heap.size + 1) #[.bool false, .slice none 0 0, .slice none 0 0, .bool false, .slice none 0 0, .slice none 0 0] := (bxK B_r hp)
  have zp1 : ((w.alloc (.cells #[.bool (sgnZ zx), .slice Ax (len (magZ zx)) cx, .slice Dx (len dx) ex, .bool (sgnZ zy), .slice Ay (len (magZ zy)) cy, .slice Dy (len dy) ey] 39)).alloc (.cells #[.bool false, .slice none 0 0, .slice none 0 0, .bool false, .slice none 0 0, .slice none 0 0] 39)).heap.size ≤ p1.heap.size := (by rw [hp]; exact leA)
  clear hp O
  have O := O'
  clear O'
  refine (plain_to (by rw [HOK.out]) (spec_IsValidPoint (sgnZ zx) Ax (len (magZ zx)) cx lx (digI (magZ zx)) Dx (len dx) ex mx (digI dx) (sgnZ zy) Ay (len (magZ zy)) cy ly (digI (magZ zy)) Dy (len dy) ey my (digI dy) _ (Row.below (B := w.heap.size) hx O (Nat.le_refl _)) (Row.below (B := w.heap.size) kx O (Nat.le_refl _)) (Row.below (B := w.heap.size) hy O (Nat.le_refl _)) (Row.below (B := w.heap.size) ky O (Nat.le_refl _)) (by omega) (by omega) (by omega) (by omega))).mono ?_
  rintro e w1 ⟨rfl, o1⟩
  replace B_p := Bx.old B_p o1
  replace B_r := Bx.old B_r o1
  replace O := Old.trans O o1
  have zw1 := o1.size
  obtain ⟨q_p_0, q_p_1, q_p_2, q_p_3, q_p_4, q_p_5, f_p_0, f_p_1, f_p_2, f_p_3, f_p_4, f_p_5, q_p⟩ := B_p.all6
  obtain ⟨q_r_0, q_r_1, q_r_2, q_r_3, q_r_4, q_r_5, f_r_0, f_r_1, f_r_2, f_r_3, f_r_4, f_r_5, q_r⟩ := B_r.all6
  go_wp2
  refine bodyPost_ret (v := .agg #[.bool (sgnZ zx), .slice Ax (len (magZ zx)) cx, .slice Dx (len dx) ex, .bool (sgnZ zy), .slice Ay (len (magZ zy)) cy, .slice Dy (len dy) ey]) (by simp [results, Try.results124, go_sem, q_r_0, q_r_1, q_r_2, q_r_3, q_r_4, q_r_5]) rfl ⟨rfl, Below.trans (b := w1) O oldB⟩
set_option maxRecDepth 100000 in
set_option maxHeartbeats 8000000 in
theorem l05Valid_no (zx : Int) (dx : Nat) (Ax Dx : Option Addr) (cx ex lx mx : Nat) (zy : Int) (dy : Nat) (Ay Dy : Option Addr) (cy ey ly my : Nat) (w : World) (hx : NatS w lx Ax cx (magZ zx)) (kx : NatS w mx Dx ex dx) (nx : normF (zx, dx)) (hy : NatS w ly Ay cy (magZ zy)) (ky : NatS w my Dy ey dy) (ny : normF (zy, dy)) (hp : ¬ (0 < dx ∧ 0 < dy)) :
    Calls Try.prog 124 #[.agg #[.bool (sgnZ zx), .slice Ax (len (magZ zx)) cx, .slice Dx (len dx) ex, .bool (sgnZ zy), .slice Ay (len (magZ zy)) cy, .slice Dy (len dy) ey]] w fun e w' => e = .returned (.agg #[.bool false, .slice none 0 0, .slice none 0 0, .bool false, .slice none 0 0, .slice none 0 0]) ∧ Old w w' := by
  have LNx := norm_len nx
  have Lax : len (magZ zx) ≤ 24 := LNx.1
  have Lbx : len dx ≤ 24 := LNx.2
  clear LNx
  have LNy := norm_len ny
  have Lay : len (magZ zy) ≤ 24 := LNy.1
  have Lby : len dy ≤ 24 := LNy.2
  clear LNy
  have HOK : Hid (rIsValidPoint (sgnZ zx) (len (magZ zx)) (digI (magZ zx)) (len dx) (digI dx) (sgnZ zy) (len (magZ zy)) (digI (magZ zy)) (len dy) (digI dy) = false) := Lib.hid (valid_no nx ny hp)
  clear nx ny hp
  have O : Old w ((w.alloc (.cells #[.bool (sgnZ zx), .slice Ax (len (magZ zx)) cx, .slice Dx (len dx) ex, .bool (sgnZ zy), .slice Ay (len (magZ zy)) cy, .slice Dy (len dy) ey] 39)).alloc (.cells #[.bool false, .slice none 0 0, .slice none 0 0, .bool false, .slice none 0 0, .slice none 0 0] 39)) := oldB
  have B_p : Bx ((w.alloc (.cells #[.bool (sgnZ zx), .slice Ax (len (magZ zx)) cx, .slice Dx (len dx) ex, .bool (sgnZ zy), .slice Ay (len (magZ zy)) cy, .slice Dy (len dy) ey] 39)).alloc (.cells #[.bool false, .slice none 0 0, .slice none 0 0, .bool false, .slice none 0 0, .slice none 0 0] 39)) (w.heap.size) #[.bool (sgnZ zx), .slice Ax (len (magZ zx)) cx, .slice Dx (len dx) ex, .bool (sgnZ zy), .slice Ay (len (magZ zy)) cy, .slice Dy (len dy) ey] := by have h := (Bx.alloc (Bx.new w #[.bool (sgnZ zx), .slice Ax (len (magZ zx)) cx, .slice Dx (len dx) ex, .bool (sgnZ zy), .slice Ay (len (magZ zy)) cy, .slice Dy (len dy) ey] 39) (.cells #[.bool false, .slice none 0 0, .slice none 0 0, .bool false, .slice none 0 0, .slice none 0 0] 39)); simpa using h
  have B_r : Bx ((w.alloc (.cells #[.bool (sgnZ zx), .slice Ax (len (magZ zx)) cx, .slice Dx (len dx) ex, .bool (sgnZ zy), .slice Ay (len (magZ zy)) cy, .slice Dy (len dy) ey] 39)).alloc (.cells #[.bool false, .slice none 0 0, .slice none 0 0, .bool false, .slice none 0 0, .slice none 0 0] 39)) (w.heap.size + 1) #[.bool false, .slice none 0 0, .slice none 0 0, .bool false, .slice none 0 0, .slice none 0 0] := by have h := (Bx.new (w.alloc (.cells #[.bool (sgnZ zx), .slice Ax (len (magZ zx)) cx, .slice Dx (len dx) ex, .bool (sgnZ zy), .slice Ay (len (magZ zy)) cy, .slice Dy (len dy) ey] 39)) #[.bool false, .slice none 0 0, .slice none 0 0, .bool false, .slice none 0 0, .slice none 0 0] 39); simpa using h
  have ne_0_1 : ¬ (w.heap.size = w.heap.size + 1) := by omega
  have ne_1_0 : ¬ (w.heap.size + 1 = w.heap.size) := by omega
  have ze : w.heap.size + 2 ≤ ((w.alloc (.cells #[.bool (sgnZ zx), .slice Ax (len (magZ zx)) cx, .slice Dx (len dx) ex, .bool (sgnZ zy), .slice Ay (len (magZ zy)) cy, .slice Dy (len dy) ey] 39)).alloc (.cells #[.bool false, .slice none 0 0, .slice none 0 0, .bool false, .slice none 0 0, .slice none 0 0] 39)).heap.size := (by simp)
  go_enter Try.func124, Try.ntmps124
  go_wp2_with fail
  refine callsNamed ?_
  intro p1 hp
  have O' : Old w p1 := (by rw [hp]; exact Below.trans (b := ((w.alloc (.cells #[.bool (sgnZ zx), .slice Ax (len (magZ zx)) cx, .slice Dx (len dx) ex, .bool (sgnZ zy), .slice Ay (len (magZ zy)) cy, .slice Dy (len dy) ey] 39)).alloc (.cells #[.bool false, .slice none 0 0, .slice none 0 0, .bool false, .slice none 0 0, .slice none 0 0] 39))) O oldB)
  replace B_p : Bx p1 (w.heap.size) #[.bool (sgnZ zx), .slice Ax (len (magZ zx)) cx, .slice Dx (len dx) ex, .bool (sgnZ zy), .slice Ay (len (magZ zy)) cy, .slice Dy (len dy) ey] := (bxK B_p hp)
  replace B_r : Bx p1 (w.heap.size + 1) #[.bool false, .slice none 0 0, .slice none 0 0, .bool false, .slice none 0 0, .slice none 0 0] := (bxK B_r hp)
  have zp1 : ((w.alloc (.cells #[.bool (sgnZ zx), .slice Ax (len (magZ zx)) cx, .slice Dx (len dx) ex, .bool (sgnZ zy), .slice Ay (len (magZ zy)) cy, .slice Dy (len dy) ey] 39)).alloc (.cells #[.bool false, .slice none 0 0, .slice none 0 0, .bool false, .slice none 0 0, .slice none 0 0] 39)).heap.size ≤ p1.heap.size := (by rw [hp]; exact leA)
  clear hp O
  have O := O'
  clear O'
  refine (plain_to (by rw [HOK.out]) (spec_IsValidPoint (sgnZ zx) Ax (len (magZ zx)) cx lx (digI (magZ zx)) Dx (len dx) ex mx (digI dx) (sgnZ zy) Ay (len (magZ zy)) cy ly (digI (magZ zy)) Dy (len dy) ey my (digI dy) _ (Row.below (B := w.heap.size) hx O (Nat.le_refl _)) (Row.below (B := w.heap.size) kx O (Nat.le_refl _)) (Row.below (B := w.heap.size) hy O (Nat.le_refl _)) (Row.below (B := w.heap.size) ky O (Nat.le_refl _)) (by omega) (by omega) (by omega) (by omega))).mono ?_
  rintro e w1 ⟨rfl, o1⟩
  replace B_p := Bx.old B_p o1
  replace B_r := Bx.old B_r o1
  replace O := Old.trans O o1
  have zw1 := o1.size
  obtain ⟨q_p_0, q_p_1, q_p_2, q_p_3, q_p_4, q_p_5, f_p_0, f_p_1, f_p_2, f_p_3, f_p_4, f_p_5, q_p⟩ := B_p.all6
  obtain ⟨q_r_0, q_r_1, q_r_2, q_r_3, q_r_4, q_r_5, f_r_0, f_r_1, f_r_2, f_r_3, f_r_4, f_r_5, q_r⟩ := B_r.all6
  go_wp2
  refine bodyPost_ret (v := .agg #[.bool false, .slice none 0 0, .slice none 0 0, .bool false, .slice none 0 0, .slice none 0 0]) (by simp [results, Try.results124, go_sem, q_r_0, q_r_1, q_r_2, q_r_3, q_r_4, q_r_5]) rfl ⟨rfl, Below.trans (b := w1) O oldB⟩
theorem l05Valid_any (zx : Int) (dx : Nat) (Ax Dx : Option Addr) (cx ex lx mx : Nat) (zy : Int) (dy : Nat) (Ay Dy : Option Addr) (cy ey ly my : Nat) (lo : Nat) (w : World) (hx : NatS w lx Ax cx (magZ zx)) (kx : NatS w mx Dx ex dx) (nx : normF (zx, dx)) (hy : NatS w ly Ay cy (magZ zy)) (ky : NatS w my Dy ey dy) (ny : normF (zy, dy)) (hl : lo ≤ lx ∧ lo ≤ mx ∧ lo ≤ ly ∧ lo ≤ my) (ap : Apart Ax (len (magZ zx)) Dx (len dx) ∧ Apart Ax (len (magZ zx)) Ay (len (magZ zy)) ∧ Apart Ax (len (magZ zx)) Dy (len dy) ∧ Apart Dx (len dx) Ay (len (magZ zy)) ∧ Apart Dx (len dx) Dy (len dy) ∧ Apart Ay (len (magZ zy)) Dy (len dy)) :
    Calls Try.prog 124 #[.agg #[.bool (sgnZ zx), .slice Ax (len (magZ zx)) cx, .slice Dx (len dx) ex, .bool (sgnZ zy), .slice Ay (len (magZ zy)) cy, .slice Dy (len dy) ey]] w fun e w' => RetP e w' lo (pointF (zx, dx) (zy, dy)) ∧ Old w w' := by
  by_cases hp : 0 < dx ∧ 0 < dy
  · refine (l05Valid_yes zx dx Ax Dx cx ex lx mx zy dy Ay Dy cy ey ly my w hx kx nx hy ky ny hp.1 hp.2).mono ?_
    rintro e w' ⟨rfl, o⟩
    exact ⟨⟨zx, dx, zy, dy, Ax, cx, Dx, ex, Ay, cy, Dy, ey, pointF_yes hp.1 hp.2, rfl, Row.more (Row.below hx o (Nat.le_refl _)) hl.1, Row.more (Row.below kx o (Nat.le_refl _)) hl.2.1, Row.more (Row.below hy o (Nat.le_refl _)) hl.2.2.1, Row.more (Row.below ky o (Nat.le_refl _)) hl.2.2.2, ap⟩, o⟩
  · refine (l05Valid_no zx dx Ax Dx cx ex lx mx zy dy Ay Dy cy ey ly my w hx kx nx hy ky ny hp).mono ?_
    rintro e w' ⟨rfl, o⟩
    exact ⟨RetP.to (RetP.zero rfl) (pointF_no hp).symm, o⟩
set_option maxRecDepth 100000 in
set_option maxHeartbeats 8000000 in
theorem pointOr_yes (zx : Int) (dx : Nat) (Ax Dx : Option Addr) (cx ex lx mx : Nat) (zy : Int) (dy : Nat) (Ay Dy : Option Addr) (cy ey ly my : Nat) (w : World) (hx : NatS w lx Ax cx (magZ zx)) (kx : NatS w mx Dx ex dx) (nx : normF (zx, dx)) (hy : NatS w ly Ay cy (magZ zy)) (ky : NatS w my Dy ey dy) (ny : normF (zy, dy)) (px : 0 < dx) (py : 0 < dy) :
    Calls Try.prog 153 #[.agg #[.bool (sgnZ zx), .slice Ax (len (magZ zx)) cx, .slice Dx (len dx) ex, .bool (sgnZ zy), .slice Ay (len (magZ zy)) cy, .slice Dy (len dy) ey]] w fun e w' => e = .returned (.agg #[.bool (sgnZ zx), .slice Ax (len (magZ zx)) cx, .slice Dx (len dx) ex, .bool (sgnZ zy), .slice Ay (len (magZ zy)) cy, .slice Dy (len dy) ey]) ∧ Old w w' := by
  have LNx := norm_len nx
  have Lax : len (magZ zx) ≤ 24 := LNx.1
  have Lbx : len dx ≤ 24 := LNx.2
  clear LNx
  have LNy := norm_len ny
  have Lay : len (magZ zy) ≤ 24 := LNy.1
  have Lby : len dy ≤ 24 := LNy.2
  clear LNy
  have HOK : Hid (true = (decide (0 < dx) && decide (0 < dy))) := Lib.hid (by rw [decide_eq_true px, decide_eq_true py]; rfl)
  clear nx ny px py
  have O : Old w ((w.alloc (.cells #[.bool (sgnZ zx), .slice Ax (len (magZ zx)) cx, .slice Dx (len dx) ex, .bool (sgnZ zy), .slice Ay (len (magZ zy)) cy, .slice Dy (len dy) ey] 39)).alloc (.cells #[.bool false, .slice none 0 0, .slice none 0 0, .bool false, .slice none 0 0, .slice none 0 0] 39)) := oldB
  have B_p : Bx ((w.alloc (.cells #[.bool (sgnZ zx), .slice Ax (len (magZ zx)) cx, .slice Dx (len dx) ex, .bool (sgnZ zy), .slice Ay (len (magZ zy)) cy, .slice Dy (len dy) ey] 39)).alloc (.cells #[.bool false, .slice none 0 0, .slice none 0 0, .bool false, .slice none 0 0, .slice none 0 0] 39)) (w.heap.size) #[.bool (sgnZ zx), .slice Ax (len (magZ zx)) cx, .slice Dx (len dx) ex, .bool (sgnZ zy), .slice Ay (len (magZ zy)) cy, .slice Dy (len dy) ey] := by have h := (Bx.alloc (Bx.new w #[.bool (sgnZ zx), .slice Ax (len (magZ zx)) cx, .slice Dx (len dx) ex, .bool (sgnZ zy), .slice Ay (len (magZ zy)) cy, .slice Dy (len dy) ey] 39) (.cells #[.bool false, .slice none 0 0, .slice none 0 0, .bool false, .slice none 0 0, .slice none 0 0] 39)); simpa using h
  have B_r : Bx ((w.alloc (.cells #[.bool (sgnZ zx), .slice Ax (len (magZ zx)) cx, .slice Dx (len dx) ex, .bool (sgnZ zy), .slice Ay (len (magZ zy)) cy, .slice Dy (len dy) ey] 39)).alloc (.cells #[.bool false, .slice none 0 0, .slice none 0 0, .bool false, .slice none 0 0, .slice none 0 0] 39)) (w.heap.size + 1) #[.bool false, .slice none 0 0, .slice none 0 0, .bool false, .slice none 0 0, .slice none 0 0] := by have h := (Bx.new (w.alloc (.cells #[.bool (sgnZ zx), .slice Ax (len (magZ zx)) cx, .slice Dx (len dx) ex, .bool (sgnZ zy), .slice Ay (len (magZ zy)) cy, .slice Dy (len dy) ey] 39)) #[.bool false, .slice none 0 0, .slice none 0 0, .bool false, .slice none 0 0, .slice none 0 0] 39); simpa using h
  have ne_0_1 : ¬ (w.heap.size = w.heap.size + 1) := by omega
  have ne_1_0 : ¬ (w.heap.size + 1 = w.heap.size) := by omega
  have ze : w.heap.size + 2 ≤ ((w.alloc (.cells #[.bool (sgnZ zx), .slice Ax (len (magZ zx)) cx, .slice Dx (len dx) ex, .bool (sgnZ zy), .slice Ay (len (magZ zy)) cy, .slice Dy (len dy) ey] 39)).alloc (.cells #[.bool false, .slice none 0 0, .slice none 0 0, .bool false, .slice none 0 0, .slice none 0 0] 39)).heap.size := (by simp)
  go_enter Try.func153, Try.ntmps153
  go_wp2_with fail
  refine callsNamed ?_
  intro p1 hp
  have O' : Old w p1 := (by rw [hp]; exact Below.trans (b := ((w.alloc (.cells #[.bool (sgnZ zx), .slice Ax (len (magZ zx)) cx, .slice Dx (len dx) ex, .bool (sgnZ zy), .slice Ay (len (magZ zy)) cy, .slice Dy (len dy) ey] 39)).alloc (.cells #[.bool false, .slice none 0 0, .slice none 0 0, .bool false, .slice none 0 0, .slice none 0 0] 39))) O oldB)
  replace B_p : Bx p1 (w.heap.size) #[.bool (sgnZ zx), .slice Ax (len (magZ zx)) cx, .slice Dx (len dx) ex, .bool (sgnZ zy), .slice Ay (len (magZ zy)) cy, .slice Dy (len dy) ey] := (bxK B_p hp)
  replace B_r : Bx p1 (w.heap.size + 1) #[.bool false, .slice none 0 0, .slice none 0 0, .bool false, .slice none 0 0, .slice none 0 0] := (bxK B_r hp)
  have zp1 : ((w.alloc (.cells #[.bool (sgnZ zx), .slice Ax (len (magZ zx)) cx, .slice Dx (len dx) ex, .bool (sgnZ zy), .slice Ay (len (magZ zy)) cy, .slice Dy (len dy) ey] 39)).alloc (.cells #[.bool false, .slice none 0 0, .slice none 0 0, .bool false, .slice none 0 0, .slice none 0 0] 39)).heap.size ≤ p1.heap.size := (by rw [hp]; exact leA)
  clear hp O
  have O := O'
  clear O'
  refine (isGoodPoint_any zx dx Ax Dx cx ex lx mx zy dy Ay Dy cy ey ly my _ true HOK.out).mono ?_
  rintro e w1 ⟨rfl, o1⟩
  replace B_p := Bx.old B_p o1
  replace B_r := Bx.old B_r o1
  replace O := Old.trans O o1
  have zw1 := o1.size
  obtain ⟨q_p_0, q_p_1, q_p_2, q_p_3, q_p_4, q_p_5, f_p_0, f_p_1, f_p_2, f_p_3, f_p_4, f_p_5, q_p⟩ := B_p.all6
  obtain ⟨q_r_0, q_r_1, q_r_2, q_r_3, q_r_4, q_r_5, f_r_0, f_r_1, f_r_2, f_r_3, f_r_4, f_r_5, q_r⟩ := B_r.all6
  go_wp2
  refine bodyPost_ret (v := .agg #[.bool (sgnZ zx), .slice Ax (len (magZ zx)) cx, .slice Dx (len dx) ex, .bool (sgnZ zy), .slice Ay (len (magZ zy)) cy, .slice Dy (len dy) ey]) (by simp [results, Try.results153, go_sem, q_r_0, q_r_1, q_r_2, q_r_3, q_r_4, q_r_5]) rfl ⟨rfl, Below.trans (b := w1) O oldB⟩
set_option maxRecDepth 100000 in
set_option maxHeartbeats 8000000 in
theorem pointOr_no (zx : Int) (dx : Nat) (Ax Dx : Option Addr) (cx ex lx mx : Nat) (zy : Int) (dy : Nat) (Ay Dy : Option Addr) (cy ey ly my : Nat) (w : World) (hx : NatS w lx Ax cx (magZ zx)) (kx : NatS w mx Dx ex dx) (nx : normF (zx, dx)) (hy : NatS w ly Ay cy (magZ zy)) (ky : NatS w my Dy ey dy) (ny : normF (zy, dy)) (hp : ¬ (0 < dx ∧ 0 < dy)) :
    Calls Try.prog 153 #[.agg #[.bool (sgnZ zx), .slice Ax (len (magZ zx)) cx, .slice Dx (len dx) ex, .bool (sgnZ zy), .slice Ay (len (magZ zy)) cy, .slice Dy (len dy) ey]] w fun e w' => e = .returned (.agg #[.bool false, .slice none 0 0, .slice none 0 0, .bool false, .slice none 0 0, .slice none 0 0]) ∧ Old w w' := by
  have LNx := norm_len nx
  have Lax : len (magZ zx) ≤ 24 := LNx.1
  have Lbx : len dx ≤ 24 := LNx.2
  clear LNx
  have LNy := norm_len ny
  have Lay : len (magZ zy) ≤ 24 := LNy.1
  have Lby : len dy ≤ 24 := LNy.2
  clear LNy
  have HOK : Hid (false = (decide (0 < dx) && decide (0 < dy))) := Lib.hid (by cases h1 : decide (0 < dx) <;> cases h2 : decide (0 < dy) <;> first | rfl | exact absurd ⟨of_decide_eq_true h1, of_decide_eq_true h2⟩ hp)
  clear nx ny hp
  have O : Old w ((w.alloc (.cells #[.bool (sgnZ zx), .slice Ax (len (magZ zx)) cx, .slice Dx (len dx) ex, .bool (sgnZ zy), .slice Ay (len (magZ zy)) cy, .slice Dy (len dy) ey] 39)).alloc (.cells #[.bool false, .slice none 0 0, .slice none 0 0, .bool false, .slice none 0 0, .slice none 0 0] 39)) := oldB
  have B_p : Bx ((w.alloc (.cells #[.bool (sgnZ zx), .slice Ax (len (magZ zx)) cx, .slice Dx (len dx) ex, .bool (sgnZ zy), .slice Ay (len (magZ zy)) cy, .slice Dy (len dy) ey] 39)).alloc (.cells #[.bool false, .slice none 0 0, .slice none 0 0, .bool false, .slice none 0 0, .slice none 0 0] 39)) (w.heap.size) #[.bool (sgnZ zx), .slice Ax (len (magZ zx)) cx, .slice Dx (len dx) ex, .bool (sgnZ zy), .slice Ay (len (magZ zy)) cy, .slice Dy (len dy) ey] := by have h := (Bx.alloc (Bx.new w #[.bool (sgnZ zx), .slice Ax (len (magZ zx)) cx, .slice Dx (len dx) ex, .bool (sgnZ zy), .slice Ay (len (magZ zy)) cy, .slice Dy (len dy) ey] 39) (.cells #[.bool false, .slice none 0 0, .slice none 0 0, .bool false, .slice none 0 0, .slice none 0 0] 39)); simpa using h
  have B_r : Bx ((w.alloc (.cells #[.bool (sgnZ zx), .slice Ax (len (magZ zx)) cx, .slice Dx (len dx) ex, .bool (sgnZ zy), .slice Ay (len (magZ zy)) cy, .slice Dy (len dy) ey] 39)).alloc (.cells #[.bool false, .slice none 0 0, .slice none 0 0, .bool false, .slice none 0 0, .slice none 0 0] 39)) (w.heap.size + 1) #[.bool false, .slice none 0 0, .slice none 0 0, .bool false, .slice none 0 0, .slice none 0 0] := by have h := (Bx.new (w.alloc (.cells #[.bool (sgnZ zx), .slice Ax (len (magZ zx)) cx, .slice Dx (len dx) ex, .bool (sgnZ zy), .slice Ay (len (magZ zy)) cy, .slice Dy (len dy) ey] 39)) #[.bool false, .slice none 0 0, .slice none 0 0, .bool false, .slice none 0 0, .slice none 0 0] 39); simpa using h
  have ne_0_1 : ¬ (w.heap.size = w.heap.size + 1) := by omega
  have ne_1_0 : ¬ (w.heap.size + 1 = w.heap.size) := by omega
  have ze : w.heap.size + 2 ≤ ((w.alloc (.cells #[.bool (sgnZ zx), .slice Ax (len (magZ zx)) cx, .slice Dx (len dx) ex, .bool (sgnZ zy), .slice Ay (len (magZ zy)) cy, .slice Dy (len dy) ey] 39)).alloc (.cells #[.bool false, .slice none 0 0, .slice none 0 0, .bool false, .slice none 0 0, .slice none 0 0] 39)).heap.size := (by simp)
  go_enter Try.func153, Try.ntmps153
  go_wp2_with fail
  refine callsNamed ?_
  intro p1 hp
  have O' : Old w p1 := (by rw [hp]; exact Below.trans (b := ((w.alloc (.cells #[.bool (sgnZ zx), .slice Ax (len (magZ zx)) cx, .slice Dx (len dx) ex, .bool (sgnZ zy), .slice Ay (len (magZ zy)) cy, .slice Dy (len dy) ey] 39)).alloc (.cells #[.bool false, .slice none 0 0, .slice none 0 0, .bool false, .slice none 0 0, .slice none 0 0] 39))) O oldB)
  replace B_p : Bx p1 (w.heap.size) #[.bool (sgnZ zx), .slice Ax (len (magZ zx)) cx, .slice Dx (len dx) ex, .bool (sgnZ zy), .slice Ay (len (magZ zy)) cy, .slice Dy (len dy) ey] := (bxK B_p hp)
  replace B_r : Bx p1 (w.heap.size + 1) #[.bool false, .slice none 0 0, .slice none 0 0, .bool false, .slice none 0 0, .slice none 0 0] := (bxK B_r hp)
  have zp1 : ((w.alloc (.cells #[.bool (sgnZ zx), .slice Ax (len (magZ zx)) cx, .slice Dx (len dx) ex, .bool (sgnZ zy), .slice Ay (len (magZ zy)) cy, .slice Dy (len dy) ey] 39)).alloc (.cells #[.bool false, .slice none 0 0, .slice none 0 0, .bool false, .slice none 0 0, .slice none 0 0] 39)).heap.size ≤ p1.heap.size := (by rw [hp]; exact leA)
  clear hp O
  have O := O'
  clear O'
  refine (isGoodPoint_any zx dx Ax Dx cx ex lx mx zy dy Ay Dy cy ey ly my _ false HOK.out).mono ?_
  rintro e w1 ⟨rfl, o1⟩
  replace B_p := Bx.old B_p o1
  replace B_r := Bx.old B_r o1
  replace O := Old.trans O o1
  have zw1 := o1.size
  obtain ⟨q_p_0, q_p_1, q_p_2, q_p_3, q_p_4, q_p_5, f_p_0, f_p_1, f_p_2, f_p_3, f_p_4, f_p_5, q_p⟩ := B_p.all6
  obtain ⟨q_r_0, q_r_1, q_r_2, q_r_3, q_r_4, q_r_5, f_r_0, f_r_1, f_r_2, f_r_3, f_r_4, f_r_5, q_r⟩ := B_r.all6
  go_wp2
  refine bodyPost_ret (v := .agg #[.bool false, .slice none 0 0, .slice none 0 0, .bool false, .slice none 0 0, .slice none 0 0]) (by simp [results, Try.results153, go_sem, q_r_0, q_r_1, q_r_2, q_r_3, q_r_4, q_r_5]) rfl ⟨rfl, Below.trans (b := w1) O oldB⟩
theorem pointOr_any (zx : Int) (dx : Nat) (Ax Dx : Option Addr) (cx ex lx mx : Nat) (zy : Int) (dy : Nat) (Ay Dy : Option Addr) (cy ey ly my : Nat) (lo : Nat) (w : World) (hx : NatS w lx Ax cx (magZ zx)) (kx : NatS w mx Dx ex dx) (nx : normF (zx, dx)) (hy : NatS w ly Ay cy (magZ zy)) (ky : NatS w my Dy ey dy) (ny : normF (zy, dy)) (hl : lo ≤ lx ∧ lo ≤ mx ∧ lo ≤ ly ∧ lo ≤ my) (ap : Apart Ax (len (magZ zx)) Dx (len dx) ∧ Apart Ax (len (magZ zx)) Ay (len (magZ zy)) ∧ Apart Ax (len (magZ zx)) Dy (len dy) ∧ Apart Dx (len dx) Ay (len (magZ zy)) ∧ Apart Dx (len dx) Dy (len dy) ∧ Apart Ay (len (magZ zy)) Dy (len dy)) :
    Calls Try.prog 153 #[.agg #[.bool (sgnZ zx), .slice Ax (len (magZ zx)) cx, .slice Dx (len dx) ex, .bool (sgnZ zy), .slice Ay (len (magZ zy)) cy, .slice Dy (len dy) ey]] w fun e w' => RetP e w' lo (pointF (zx, dx) (zy, dy)) ∧ Old w w' := by
  by_cases hp : 0 < dx ∧ 0 < dy
  · refine (pointOr_yes zx dx Ax Dx cx ex lx mx zy dy Ay Dy cy ey ly my w hx kx nx hy ky ny hp.1 hp.2).mono ?_
    rintro e w' ⟨rfl, o⟩
    exact ⟨⟨zx, dx, zy, dy, Ax, cx, Dx, ex, Ay, cy, Dy, ey, pointF_yes hp.1 hp.2, rfl, Row.more (Row.below hx o (Nat.le_refl _)) hl.1, Row.more (Row.below kx o (Nat.le_refl _)) hl.2.1, Row.more (Row.below hy o (Nat.le_refl _)) hl.2.2.1, Row.more (Row.below ky o (Nat.le_refl _)) hl.2.2.2, ap⟩, o⟩
  · refine (pointOr_no zx dx Ax Dx cx ex lx mx zy dy Ay Dy cy ey ly my w hx kx nx hy ky ny hp).mono ?_
    rintro e w' ⟨rfl, o⟩
    exact ⟨RetP.to (RetP.zero rfl) (pointF_no hp).symm, o⟩
end Go.Proofs.Ytnkeenejcpkelaa
