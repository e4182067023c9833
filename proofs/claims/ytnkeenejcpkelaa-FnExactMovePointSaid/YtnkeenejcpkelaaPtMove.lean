import Derived.Test.YtnkeenejcpkelaaPtOps
import Derived.Test.YtnkeenejcpkelaaRatIntE
import Derived.Test.YtnkeenejcpkelaaRatAddES
import Derived.Test.YtnkeenejcpkelaaRatAddI
/-
  A point with a vector added: both MovePoint's.
-/
namespace Go.Proofs.Ytnkeenejcpkelaa
set_option linter.unusedVariables false
open Go.RowKit Num
attribute [local go_sem ↓] Go.wp_at_zero Go.wp_at_succ
theorem spec_RatAdd_rv (b1 : Bool) (A1 : Option Addr) (n1 c1 l1 : Nat) (f1 : Nat → Int) (D1 : Option Addr) (m1 e1 u1 : Nat) (g1 : Nat → Int) (z2 : Int) (d2 : Nat) (A2 D2 : Option Addr) (c2 e2 l2 m2 : Nat) (w : World) (h1 : Row w l1 A1 n1 c1 f1) (k1 : Row w u1 D1 m1 e1 g1) (h2 : NatS w l2 A2 c2 (magZ z2)) (k2 : NatS w m2 D2 e2 d2) (n2 : normF (z2, d2)) (hn1 : n1 ≤ 1048576) (hm1 : m1 ≤ 1048576) :
    Calls Try.prog 69 #[.agg #[.bool b1, .slice A1 n1 c1, .slice D1 m1 e1], .agg #[.bool (sgnZ z2), .slice A2 (len (magZ z2)) c2, .slice D2 (len d2) e2]] w fun e w' => RetR e w' w.heap.size (addF (vR b1 n1 f1 m1 g1) (z2, d2)) ∧ Old w w' := by
  have hl2 := norm_len n2
  simp only at hl2
  have h := spec_RatAdd b1 A1 n1 c1 l1 f1 D1 m1 e1 u1 g1 (sgnZ z2) A2 (len (magZ z2)) c2 l2 (digI (magZ z2)) D2 (len d2) e2 m2 (digI d2) w h1 k1 h2 k2 hn1 hm1 (by omega) (by omega)
  unfold vRatAdd at h
  rw [vR_val n2] at h
  exact h
noncomputable def vMovePoint (bpx : Bool) (npx : Nat) (fpx : Nat → Int) (mpx : Nat) (gpx : Nat → Int) (bpy : Bool) (npy : Nat) (fpy : Nat → Int) (mpy : Nat) (gpy : Nat → Int) (a : Int) (b : Int) : Fr × Fr := pointF (addF (vR bpx npx fpx mpx gpx) (vRatFromInt a)) (addF (vR bpy npy fpy mpy gpy) (vRatFromInt b))
theorem vMovePoint_norm (bpx : Bool) (npx : Nat) (fpx : Nat → Int) (mpx : Nat) (gpx : Nat → Int) (bpy : Bool) (npy : Nat) (fpy : Nat → Int) (mpy : Nat) (gpy : Nat → Int) (a : Int) (b : Int) : normF (vMovePoint bpx npx fpx mpx gpx bpy npy fpy mpy gpy a b).1 ∧ normF (vMovePoint bpx npx fpx mpx gpx bpy npy fpy mpy gpy a b).2 := pointF_norm (addF_norm _ _) (addF_norm _ _)
set_option maxRecDepth 100000 in
set_option maxHeartbeats 8000000 in
theorem movePoint_any (a b : Int) (zpx : Int) (dpx : Nat) (Apx Dpx : Option Addr) (cpx epx lpx mpx : Nat) (zpy : Int) (dpy : Nat) (Apy Dpy : Option Addr) (cpy epy lpy mpy : Nat) (w : World) (ha : -9223372036854775808 ≤ a ∧ a ≤ 9223372036854775807) (hb : -9223372036854775808 ≤ b ∧ b ≤ 9223372036854775807) (hpx : NatS w lpx Apx cpx (magZ zpx)) (kpx : NatS w mpx Dpx epx dpx) (npx : normF (zpx, dpx)) (hpy : NatS w lpy Apy cpy (magZ zpy)) (kpy : NatS w mpy Dpy epy dpy) (npy : normF (zpy, dpy)) :
    Calls Try.prog 125 #[.agg #[.bool (sgnZ zpx), .slice Apx (len (magZ zpx)) cpx, .slice Dpx (len dpx) epx, .bool (sgnZ zpy), .slice Apy (len (magZ zpy)) cpy, .slice Dpy (len dpy) epy], .agg #[.int .i64 a, .int .i64 b]] w fun e w' => RetP e w' w.heap.size (pointF (addF (zpx, dpx) (vRatFromInt a)) (addF (zpy, dpy) (vRatFromInt b))) ∧ Old w w' := by
  have HA := Lib.hid ha
  have HB := Lib.hid hb
  clear ha hb
  have Npx := Lib.hid npx
  have LNpx := norm_len npx
  have Lapx : len (magZ zpx) ≤ 24 := LNpx.1
  have Lbpx : len dpx ≤ 24 := LNpx.2
  clear npx LNpx
  have Npy := Lib.hid npy
  have LNpy := norm_len npy
  have Lapy : len (magZ zpy) ≤ 24 := LNpy.1
  have Lbpy : len dpy ≤ 24 := LNpy.2
  clear npy LNpy
  obtain ⟨z5, d5, hv5⟩ : ∃ z d, vRatFromInt a = ((z, d) : Fr) := ⟨(vRatFromInt a).1, (vRatFromInt a).2, rfl⟩
  have N5 : Hid (normF (z5, d5)) := Lib.hid (by rw [← hv5]; exact vRatFromInt_norm a)
  have HV5 := Lib.hid hv5
  clear hv5
  obtain ⟨z6, d6, hv6⟩ : ∃ z d, vRatFromInt b = ((z, d) : Fr) := ⟨(vRatFromInt b).1, (vRatFromInt b).2, rfl⟩
  have N6 : Hid (normF (z6, d6)) := Lib.hid (by rw [← hv6]; exact vRatFromInt_norm b)
  have HV6 := Lib.hid hv6
  clear hv6
  obtain ⟨z7, d7, hv7⟩ : ∃ z d, addF (zpx, dpx) (z5, d5) = ((z, d) : Fr) := ⟨(addF (zpx, dpx) (z5, d5)).1, (addF (zpx, dpx) (z5, d5)).2, rfl⟩
  have N7 : Hid (normF (z7, d7)) := Lib.hid (by rw [← hv7]; exact addF_norm _ _)
  have HV7 := Lib.hid hv7
  clear hv7
  obtain ⟨z8, d8, hv8⟩ : ∃ z d, addF (zpy, dpy) (z6, d6) = ((z, d) : Fr) := ⟨(addF (zpy, dpy) (z6, d6)).1, (addF (zpy, dpy) (z6, d6)).2, rfl⟩
  have N8 : Hid (normF (z8, d8)) := Lib.hid (by rw [← hv8]; exact addF_norm _ _)
  have HV8 := Lib.hid hv8
  clear hv8
  have O : Old w (((w.alloc (.cells #[.bool (sgnZ zpx), .slice Apx (len (magZ zpx)) cpx, .slice Dpx (len dpx) epx, .bool (sgnZ zpy), .slice Apy (len (magZ zpy)) cpy, .slice Dpy (len dpy) epy] 39)).alloc (.cells #[.int .i64 a, .int .i64 b] 48)).alloc (.cells #[.bool false, .slice none 0 0, .slice none 0 0, .bool false, .slice none 0 0, .slice none 0 0] 39)) := oldB
  have B_p : Bx (((w.alloc (.cells #[.bool (sgnZ zpx), .slice Apx (len (magZ zpx)) cpx, .slice Dpx (len dpx) epx, .bool (sgnZ zpy), .slice Apy (len (magZ zpy)) cpy, .slice Dpy (len dpy) epy] 39)).alloc (.cells #[.int .i64 a, .int .i64 b] 48)).alloc (.cells #[.bool false, .slice none 0 0, .slice none 0 0, .bool false, .slice none 0 0, .slice none 0 0] 39)) (w.heap.size) #[.bool (sgnZ zpx), .slice Apx (len (magZ zpx)) cpx, .slice Dpx (len dpx) epx, .bool (sgnZ zpy), .slice Apy (len (magZ zpy)) cpy, .slice Dpy (len dpy) epy] := by have h := (Bx.alloc (Bx.alloc (Bx.new w #[.bool (sgnZ zpx), .slice Apx (len (magZ zpx)) cpx, .slice Dpx (len dpx) epx, .bool (sgnZ zpy), .slice Apy (len (magZ zpy)) cpy, .slice Dpy (len dpy) epy] 39) (.cells #[.int .i64 a, .int .i64 b] 48)) (.cells #[.bool false, .slice none 0 0, .slice none 0 0, .bool false, .slice none 0 0, .slice none 0 0] 39)); simpa using h
  have B_v : Bx (((w.alloc (.cells #[.bool (sgnZ zpx), .slice Apx (len (magZ zpx)) cpx, .slice Dpx (len dpx) epx, .bool (sgnZ zpy), .slice Apy (len (magZ zpy)) cpy, .slice Dpy (len dpy) epy] 39)).alloc (.cells #[.int .i64 a, .int .i64 b] 48)).alloc (.cells #[.bool false, .slice none 0 0, .slice none 0 0, .bool false, .slice none 0 0, .slice none 0 0] 39)) (w.heap.size + 1) #[.int .i64 a, .int .i64 b] := by have h := (Bx.alloc (Bx.new (w.alloc (.cells #[.bool (sgnZ zpx), .slice Apx (len (magZ zpx)) cpx, .slice Dpx (len dpx) epx, .bool (sgnZ zpy), .slice Apy (len (magZ zpy)) cpy, .slice Dpy (len dpy) epy] 39)) #[.int .i64 a, .int .i64 b] 48) (.cells #[.bool false, .slice none 0 0, .slice none 0 0, .bool false, .slice none 0 0, .slice none 0 0] 39)); simpa using h
  have B_r : Bx (((w.alloc (.cells #[.bool (sgnZ zpx), .slice Apx (len (magZ zpx)) cpx, .slice Dpx (len dpx) epx, .bool (sgnZ zpy), .slice Apy (len (magZ zpy)) cpy, .slice Dpy (len dpy) epy] 39)).alloc (.cells #[.int .i64 a, .int .i64 b] 48)).alloc (.cells #[.bool false, .slice none 0 0, .slice none 0 0, .bool false, .slice none 0 0, .slice none 0 0] 39)) (w.heap.size + 1 + 1) #[.bool false, .slice none 0 0, .slice none 0 0, .bool false, .slice none 0 0, .slice none 0 0] := by have h := (Bx.new ((w.alloc (.cells #[.bool (sgnZ zpx), .slice Apx (len (magZ zpx)) cpx, .slice Dpx (len dpx) epx, .bool (sgnZ zpy), .slice Apy (len (magZ zpy)) cpy, .slice Dpy (len dpy) epy] 39)).alloc (.cells #[.int .i64 a, .int .i64 b] 48)) #[.bool false, .slice none 0 0, .slice none 0 0, .bool false, .slice none 0 0, .slice none 0 0] 39); simpa using h
  have ne_0_1 : ¬ (w.heap.size = w.heap.size + 1) := by omega
  have ne_0_2 : ¬ (w.heap.size = w.heap.size + 1 + 1) := by omega
  have ne_1_0 : ¬ (w.heap.size + 1 = w.heap.size) := by omega
  have ne_1_2 : ¬ (w.heap.size + 1 = w.heap.size + 1 + 1) := by omega
  have ne_2_0 : ¬ (w.heap.size + 1 + 1 = w.heap.size) := by omega
  have ne_2_1 : ¬ (w.heap.size + 1 + 1 = w.heap.size + 1) := by omega
  have ze : w.heap.size + 3 ≤ (((w.alloc (.cells #[.bool (sgnZ zpx), .slice Apx (len (magZ zpx)) cpx, .slice Dpx (len dpx) epx, .bool (sgnZ zpy), .slice Apy (len (magZ zpy)) cpy, .slice Dpy (len dpy) epy] 39)).alloc (.cells #[.int .i64 a, .int .i64 b] 48)).alloc (.cells #[.bool false, .slice none 0 0, .slice none 0 0, .bool false, .slice none 0 0, .slice none 0 0] 39)).heap.size := (by simp)
  go_enter Try.func125, Try.ntmps125
  go_wp2_with fail
  go_region_held3 (fun w' => w'.cell? ⟨w.heap.size, 0, none⟩ = some (.bool (sgnZ zpx)) ∧ w'.cell? ⟨w.heap.size, 1, none⟩ = some (.slice Apx (len (magZ zpx)) cpx) ∧ w'.cell? ⟨w.heap.size, 2, none⟩ = some (.slice Dpx (len dpx) epx) ∧ w'.cell? ⟨w.heap.size, 3, none⟩ = some (.bool (sgnZ zpy)) ∧ w'.cell? ⟨w.heap.size, 4, none⟩ = some (.slice Apy (len (magZ zpy)) cpy) ∧ w'.cell? ⟨w.heap.size, 5, none⟩ = some (.slice Dpy (len dpy) epy) ∧ w'.cell? ⟨w.heap.size + 1, 0, none⟩ = some (.int .i64 a) ∧ w'.cell? ⟨w.heap.size + 1, 1, none⟩ = some (.int .i64 b)) (go_keep)
    (first
     | (go_at_call 87; refine callsNamed ?_; intro p1 hp; have O' : Old w p1 := (by rw [hp]; exact Below.trans (b := (((w.alloc (.cells #[.bool (sgnZ zpx), .slice Apx (len (magZ zpx)) cpx, .slice Dpx (len dpx) epx, .bool (sgnZ zpy), .slice Apy (len (magZ zpy)) cpy, .slice Dpy (len dpy) epy] 39)).alloc (.cells #[.int .i64 a, .int .i64 b] 48)).alloc (.cells #[.bool false, .slice none 0 0, .slice none 0 0, .bool false, .slice none 0 0, .slice none 0 0] 39))) O oldB); replace B_p : Bx p1 (w.heap.size) #[.bool (sgnZ zpx), .slice Apx (len (magZ zpx)) cpx, .slice Dpx (len dpx) epx, .bool (sgnZ zpy), .slice Apy (len (magZ zpy)) cpy, .slice Dpy (len dpy) epy] := (bxK B_p hp); replace B_v : Bx p1 (w.heap.size + 1) #[.int .i64 a, .int .i64 b] := (bxK B_v hp); replace B_r : Bx p1 (w.heap.size + 1 + 1) #[.bool false, .slice none 0 0, .slice none 0 0, .bool false, .slice none 0 0, .slice none 0 0] := (bxK B_r hp); have zp1 : (((w.alloc (.cells #[.bool (sgnZ zpx), .slice Apx (len (magZ zpx)) cpx, .slice Dpx (len dpx) epx, .bool (sgnZ zpy), .slice Apy (len (magZ zpy)) cpy, .slice Dpy (len dpy) epy] 39)).alloc (.cells #[.int .i64 a, .int .i64 b] 48)).alloc (.cells #[.bool false, .slice none 0 0, .slice none 0 0, .bool false, .slice none 0 0, .slice none 0 0] 39)).heap.size ≤ p1.heap.size := (by rw [hp]; exact leA); clear hp O; have O := O'; clear O'; (with_reducible refine (retZ_to HV5.out (ratInt_any a _ HA.out)).mono ?_); rintro e w1 ⟨⟨A5, c5, D5, e5, rfl, r5, s5, ap5⟩, o1⟩; replace B_p := Bx.old B_p o1; replace B_v := Bx.old B_v o1; replace B_r := Bx.old B_r o1; replace O := Old.trans O o1; have zw1 := o1.size; replace r5 := Row.more (lo' := p1.heap.size) r5 leA; replace s5 := Row.more (lo' := p1.heap.size) s5 leA; have lim_r5 := Row.lim r5; have lim_s5 := Row.lim s5; have AP5 := Lib.hid ap5; clear ap5; obtain ⟨q_p_0, q_p_1, q_p_2, q_p_3, q_p_4, q_p_5, f_p_0, f_p_1, f_p_2, f_p_3, f_p_4, f_p_5, q_p⟩ := B_p.all6; obtain ⟨q_v_0, q_v_1, f_v_0, f_v_1, q_v⟩ := B_v.all2; obtain ⟨q_r_0, q_r_1, q_r_2, q_r_3, q_r_4, q_r_5, f_r_0, f_r_1, f_r_2, f_r_3, f_r_4, f_r_5, q_r⟩ := B_r.all6)
     | (go_at_call 119; refine callsNamed ?_; intro p2 hp; clear q_p_0 q_p_1 q_p_2 q_p_3 q_p_4 q_p_5 f_p_0 f_p_1 f_p_2 f_p_3 f_p_4 f_p_5 q_p q_v_0 q_v_1 f_v_0 f_v_1 q_v q_r_0 q_r_1 q_r_2 q_r_3 q_r_4 q_r_5 f_r_0 f_r_1 f_r_2 f_r_3 f_r_4 f_r_5 q_r; have O' : Old w p2 := (by rw [hp]; exact Below.trans (b := w1) O oldB); replace B_p : Bx p2 (w.heap.size) #[.bool (sgnZ zpx), .slice Apx (len (magZ zpx)) cpx, .slice Dpx (len dpx) epx, .bool (sgnZ zpy), .slice Apy (len (magZ zpy)) cpy, .slice Dpy (len dpy) epy] := (bxK B_p hp); replace B_v : Bx p2 (w.heap.size + 1) #[.int .i64 a, .int .i64 b] := (bxK B_v hp); replace B_r : Bx p2 (w.heap.size + 1 + 1) #[.bool false, .slice none 0 0, .slice none 0 0, .bool false, .slice none 0 0, .slice none 0 0] := (bxK B_r hp); replace r5 := rowK r5 hp; replace s5 := rowK s5 hp; have zp2 : w1.heap.size ≤ p2.heap.size := (by rw [hp]; exact leA); clear hp O; have O := O'; clear O'; (with_reducible refine (retZ_to HV7.out (ratAdd_any zpx dpx Apx Dpx cpx epx lpx mpx z5 d5 A5 D5 c5 e5 _ _ _ (Row.below (B := w.heap.size) hpx O (Nat.le_refl _)) (Row.below (B := w.heap.size) kpx O (Nat.le_refl _)) Npx.out r5 s5 N5.out)).mono ?_); rintro e w2 ⟨⟨A7, c7, D7, e7, rfl, r7, s7, ap7⟩, o2⟩; replace B_p := Bx.old B_p o2; replace B_v := Bx.old B_v o2; replace B_r := Bx.old B_r o2; replace r5 := Row.below r5 o2 (Nat.le_refl _); replace s5 := Row.below s5 o2 (Nat.le_refl _); replace O := Old.trans O o2; have zw2 := o2.size; replace r7 := Row.more (lo' := p2.heap.size) r7 leA; replace s7 := Row.more (lo' := p2.heap.size) s7 leA; have lim_r7 := Row.lim r7; have lim_s7 := Row.lim s7; have AP7 := Lib.hid ap7; clear ap7; obtain ⟨q_p_0, q_p_1, q_p_2, q_p_3, q_p_4, q_p_5, f_p_0, f_p_1, f_p_2, f_p_3, f_p_4, f_p_5, q_p⟩ := B_p.all6; obtain ⟨q_v_0, q_v_1, f_v_0, f_v_1, q_v⟩ := B_v.all2; obtain ⟨q_r_0, q_r_1, q_r_2, q_r_3, q_r_4, q_r_5, f_r_0, f_r_1, f_r_2, f_r_3, f_r_4, f_r_5, q_r⟩ := B_r.all6)
     | (go_at_call 87; refine callsNamed ?_; intro p3 hp; clear q_p_0 q_p_1 q_p_2 q_p_3 q_p_4 q_p_5 f_p_0 f_p_1 f_p_2 f_p_3 f_p_4 f_p_5 q_p q_v_0 q_v_1 f_v_0 f_v_1 q_v q_r_0 q_r_1 q_r_2 q_r_3 q_r_4 q_r_5 f_r_0 f_r_1 f_r_2 f_r_3 f_r_4 f_r_5 q_r; have O' : Old w p3 := (by rw [hp]; exact Below.trans (b := w2) O oldB); replace B_p : Bx p3 (w.heap.size) #[.bool (sgnZ zpx), .slice Apx (len (magZ zpx)) cpx, .slice Dpx (len dpx) epx, .bool (sgnZ zpy), .slice Apy (len (magZ zpy)) cpy, .slice Dpy (len dpy) epy] := (bxK B_p hp); replace B_v : Bx p3 (w.heap.size + 1) #[.int .i64 a, .int .i64 b] := (bxK B_v hp); replace B_r : Bx p3 (w.heap.size + 1 + 1) #[.bool false, .slice none 0 0, .slice none 0 0, .bool false, .slice none 0 0, .slice none 0 0] := (bxK B_r hp); replace r5 := rowK r5 hp; replace s5 := rowK s5 hp; replace r7 := rowK r7 hp; replace s7 := rowK s7 hp; have zp3 : w2.heap.size ≤ p3.heap.size := (by rw [hp]; exact leA); clear hp O; have O := O'; clear O'; (with_reducible refine (retZ_to HV6.out (ratInt_any b _ HB.out)).mono ?_); rintro e w3 ⟨⟨A6, c6, D6, e6, rfl, r6, s6, ap6⟩, o3⟩; replace B_p := Bx.old B_p o3; replace B_v := Bx.old B_v o3; replace B_r := Bx.old B_r o3; replace r5 := Row.below r5 o3 (Nat.le_refl _); replace s5 := Row.below s5 o3 (Nat.le_refl _); replace r7 := Row.below r7 o3 (Nat.le_refl _); replace s7 := Row.below s7 o3 (Nat.le_refl _); replace O := Old.trans O o3; have zw3 := o3.size; replace r6 := Row.more (lo' := p3.heap.size) r6 leA; replace s6 := Row.more (lo' := p3.heap.size) s6 leA; have lim_r6 := Row.lim r6; have lim_s6 := Row.lim s6; have AP6 := Lib.hid ap6; clear ap6; obtain ⟨q_p_0, q_p_1, q_p_2, q_p_3, q_p_4, q_p_5, f_p_0, f_p_1, f_p_2, f_p_3, f_p_4, f_p_5, q_p⟩ := B_p.all6; obtain ⟨q_v_0, q_v_1, f_v_0, f_v_1, q_v⟩ := B_v.all2; obtain ⟨q_r_0, q_r_1, q_r_2, q_r_3, q_r_4, q_r_5, f_r_0, f_r_1, f_r_2, f_r_3, f_r_4, f_r_5, q_r⟩ := B_r.all6)
     | (go_at_call 119; refine callsNamed ?_; intro p4 hp; clear q_p_0 q_p_1 q_p_2 q_p_3 q_p_4 q_p_5 f_p_0 f_p_1 f_p_2 f_p_3 f_p_4 f_p_5 q_p q_v_0 q_v_1 f_v_0 f_v_1 q_v q_r_0 q_r_1 q_r_2 q_r_3 q_r_4 q_r_5 f_r_0 f_r_1 f_r_2 f_r_3 f_r_4 f_r_5 q_r; have O' : Old w p4 := (by rw [hp]; exact Below.trans (b := w3) O oldB); replace B_p : Bx p4 (w.heap.size) #[.bool (sgnZ zpx), .slice Apx (len (magZ zpx)) cpx, .slice Dpx (len dpx) epx, .bool (sgnZ zpy), .slice Apy (len (magZ zpy)) cpy, .slice Dpy (len dpy) epy] := (bxK B_p hp); replace B_v : Bx p4 (w.heap.size + 1) #[.int .i64 a, .int .i64 b] := (bxK B_v hp); replace B_r : Bx p4 (w.heap.size + 1 + 1) #[.bool false, .slice none 0 0, .slice none 0 0, .bool false, .slice none 0 0, .slice none 0 0] := (bxK B_r hp); replace r5 := rowK r5 hp; replace s5 := rowK s5 hp; replace r7 := rowK r7 hp; replace s7 := rowK s7 hp; replace r6 := rowK r6 hp; replace s6 := rowK s6 hp; have zp4 : w3.heap.size ≤ p4.heap.size := (by rw [hp]; exact leA); clear hp O; have O := O'; clear O'; (with_reducible refine (retZ_to HV8.out (ratAdd_any zpy dpy Apy Dpy cpy epy lpy mpy z6 d6 A6 D6 c6 e6 _ _ _ (Row.below (B := w.heap.size) hpy O (Nat.le_refl _)) (Row.below (B := w.heap.size) kpy O (Nat.le_refl _)) Npy.out r6 s6 N6.out)).mono ?_); rintro e w4 ⟨⟨A8, c8, D8, e8, rfl, r8, s8, ap8⟩, o4⟩; replace B_p := Bx.old B_p o4; replace B_v := Bx.old B_v o4; replace B_r := Bx.old B_r o4; replace r5 := Row.below r5 o4 (Nat.le_refl _); replace s5 := Row.below s5 o4 (Nat.le_refl _); replace r7 := Row.below r7 o4 (Nat.le_refl _); replace s7 := Row.below s7 o4 (Nat.le_refl _); replace r6 := Row.below r6 o4 (Nat.le_refl _); replace s6 := Row.below s6 o4 (Nat.le_refl _); replace O := Old.trans O o4; have zw4 := o4.size; replace r8 := Row.more (lo' := p4.heap.size) r8 leA; replace s8 := Row.more (lo' := p4.heap.size) s8 leA; have lim_r8 := Row.lim r8; have lim_s8 := Row.lim s8; have AP8 := Lib.hid ap8; clear ap8; obtain ⟨q_p_0, q_p_1, q_p_2, q_p_3, q_p_4, q_p_5, f_p_0, f_p_1, f_p_2, f_p_3, f_p_4, f_p_5, q_p⟩ := B_p.all6; obtain ⟨q_v_0, q_v_1, f_v_0, f_v_1, q_v⟩ := B_v.all2; obtain ⟨q_r_0, q_r_1, q_r_2, q_r_3, q_r_4, q_r_5, f_r_0, f_r_1, f_r_2, f_r_3, f_r_4, f_r_5, q_r⟩ := B_r.all6)
     | (go_at_call 153; refine callsNamed ?_; intro p5 hp; clear q_p_0 q_p_1 q_p_2 q_p_3 q_p_4 q_p_5 f_p_0 f_p_1 f_p_2 f_p_3 f_p_4 f_p_5 q_p q_v_0 q_v_1 f_v_0 f_v_1 q_v q_r_0 q_r_1 q_r_2 q_r_3 q_r_4 q_r_5 f_r_0 f_r_1 f_r_2 f_r_3 f_r_4 f_r_5 q_r; have O' : Old w p5 := (by rw [hp]; exact Below.trans (b := w4) O oldB); replace B_p : Bx p5 (w.heap.size) #[.bool (sgnZ zpx), .slice Apx (len (magZ zpx)) cpx, .slice Dpx (len dpx) epx, .bool (sgnZ zpy), .slice Apy (len (magZ zpy)) cpy, .slice Dpy (len dpy) epy] := (bxK B_p hp); replace B_v : Bx p5 (w.heap.size + 1) #[.int .i64 a, .int .i64 b] := (bxK B_v hp); replace B_r : Bx p5 (w.heap.size + 1 + 1) #[.bool false, .slice none 0 0, .slice none 0 0, .bool false, .slice none 0 0, .slice none 0 0] := (bxK B_r hp); replace r5 := rowK r5 hp; replace s5 := rowK s5 hp; replace r7 := rowK r7 hp; replace s7 := rowK s7 hp; replace r6 := rowK r6 hp; replace s6 := rowK s6 hp; replace r8 := rowK r8 hp; replace s8 := rowK s8 hp; have zp5 : w4.heap.size ≤ p5.heap.size := (by rw [hp]; exact leA); clear hp O; have O := O'; clear O'; refine (pointOr_any z7 d7 A7 D7 c7 e7 _ _ z8 d8 A8 D8 c8 e8 _ _ (w.heap.size + 3) _ r7 s7 N7.out r8 s8 N8.out ⟨by omega, by omega, by omega, by omega⟩ ⟨AP7.out, Apart.of lim_r7 r8 (by omega), Apart.of lim_r7 s8 (by omega), Apart.of lim_s7 r8 (by omega), Apart.of lim_s7 s8 (by omega), AP8.out⟩).mono ?_; rintro e w5 ⟨⟨z9, d9, z10, d10, A9, c9, D9, e9, A10, c10, D10, e10, hv9, rfl, r9, s9, r10, s10, ap9⟩, o5⟩; replace B_p := Bx.old B_p o5; replace B_v := Bx.old B_v o5; replace B_r := Bx.old B_r o5; replace r5 := Row.below r5 o5 (Nat.le_refl _); replace s5 := Row.below s5 o5 (Nat.le_refl _); replace r7 := Row.below r7 o5 (Nat.le_refl _); replace s7 := Row.below s7 o5 (Nat.le_refl _); replace r6 := Row.below r6 o5 (Nat.le_refl _); replace s6 := Row.below s6 o5 (Nat.le_refl _); replace r8 := Row.below r8 o5 (Nat.le_refl _); replace s8 := Row.below s8 o5 (Nat.le_refl _); replace O := Old.trans O o5; have zw5 := o5.size; have lim_r9 := Row.lim r9; have lim_s9 := Row.lim s9; have lim_r10 := Row.lim r10; have lim_s10 := Row.lim s10; have HV9 := Lib.hid hv9; have AP9 := Lib.hid ap9; clear hv9 ap9; obtain ⟨q_p_0, q_p_1, q_p_2, q_p_3, q_p_4, q_p_5, f_p_0, f_p_1, f_p_2, f_p_3, f_p_4, f_p_5, q_p⟩ := B_p.all6; obtain ⟨q_v_0, q_v_1, f_v_0, f_v_1, q_v⟩ := B_v.all2; obtain ⟨q_r_0, q_r_1, q_r_2, q_r_3, q_r_4, q_r_5, f_r_0, f_r_1, f_r_2, f_r_3, f_r_4, f_r_5, q_r⟩ := B_r.all6))
  go_wp2
  refine bodyPost_ret (v := .agg #[.bool (sgnZ z9), .slice A9 (len (magZ z9)) c9, .slice D9 (len d9) e9, .bool (sgnZ z10), .slice A10 (len (magZ z10)) c10, .slice D10 (len d10) e10]) (by simp [results, Try.results125, go_sem, q_r_0, q_r_1, q_r_2, q_r_3, q_r_4, q_r_5]) rfl ⟨⟨z9, d9, z10, d10, A9, c9, D9, e9, A10, c10, D10, e10, (by rw [← HV9.out, ← HV7.out, ← HV8.out, ← HV5.out, ← HV6.out]), rfl, ?_, ?_, ?_, ?_, AP9.out⟩, ?_⟩
  · refine Row.more (lo := (w.heap.size + 3)) ?_ leA
    repeat' (first | (with_reducible exact r9) | (with_reducible refine Row.far_set ?_ (by first | (simp <;> done) | (simp; omega) | omega) _))
  · refine Row.more (lo := (w.heap.size + 3)) ?_ leA
    repeat' (first | (with_reducible exact s9) | (with_reducible refine Row.far_set ?_ (by first | (simp <;> done) | (simp; omega) | omega) _))
  · refine Row.more (lo := (w.heap.size + 3)) ?_ leA
    repeat' (first | (with_reducible exact r10) | (with_reducible refine Row.far_set ?_ (by first | (simp <;> done) | (simp; omega) | omega) _))
  · refine Row.more (lo := (w.heap.size + 3)) ?_ leA
    repeat' (first | (with_reducible exact s10) | (with_reducible refine Row.far_set ?_ (by first | (simp <;> done) | (simp; omega) | omega) _))
  · exact Below.trans (b := w5) O oldB
set_option maxRecDepth 100000 in
set_option maxHeartbeats 8000000 in
theorem spec_MovePoint (a b : Int) (bpx : Bool) (Apx : Option Addr) (npx cpx lpx : Nat) (fpx : Nat → Int) (Dpx : Option Addr) (mpx epx upx : Nat) (gpx : Nat → Int) (bpy : Bool) (Apy : Option Addr) (npy cpy lpy : Nat) (fpy : Nat → Int) (Dpy : Option Addr) (mpy epy upy : Nat) (gpy : Nat → Int) (w : World) (ha : -9223372036854775808 ≤ a ∧ a ≤ 9223372036854775807) (hb : -9223372036854775808 ≤ b ∧ b ≤ 9223372036854775807) (hpx : Row w lpx Apx npx cpx fpx) (kpx : Row w upx Dpx mpx epx gpx) (hpy : Row w lpy Apy npy cpy fpy) (kpy : Row w upy Dpy mpy epy gpy) (hnpx : npx ≤ 1048576) (hmpx : mpx ≤ 1048576) (hnpy : npy ≤ 1048576) (hmpy : mpy ≤ 1048576) :
    Calls Try.prog 77 #[.agg #[.bool bpx, .slice Apx npx cpx, .slice Dpx mpx epx, .bool bpy, .slice Apy npy cpy, .slice Dpy mpy epy], .agg #[.int .i64 a, .int .i64 b]] w fun e w' => RetP e w' w.heap.size (vMovePoint bpx npx fpx mpx gpx bpy npy fpy mpy gpy a b) ∧ Old w w' := by
  unfold vMovePoint
  have HA := Lib.hid ha
  have HB := Lib.hid hb
  clear ha hb
  obtain ⟨z5, d5, hv5⟩ : ∃ z d, vRatFromInt a = ((z, d) : Fr) := ⟨(vRatFromInt a).1, (vRatFromInt a).2, rfl⟩
  have N5 : Hid (normF (z5, d5)) := Lib.hid (by rw [← hv5]; exact vRatFromInt_norm a)
  have HV5 := Lib.hid hv5
  clear hv5
  obtain ⟨z6, d6, hv6⟩ : ∃ z d, vRatFromInt b = ((z, d) : Fr) := ⟨(vRatFromInt b).1, (vRatFromInt b).2, rfl⟩
  have N6 : Hid (normF (z6, d6)) := Lib.hid (by rw [← hv6]; exact vRatFromInt_norm b)
  have HV6 := Lib.hid hv6
  clear hv6
  obtain ⟨z7, d7, hv7⟩ : ∃ z d, addF (vR bpx npx fpx mpx gpx) (z5, d5) = ((z, d) : Fr) := ⟨(addF (vR bpx npx fpx mpx gpx) (z5, d5)).1, (addF (vR bpx npx fpx mpx gpx) (z5, d5)).2, rfl⟩
  have N7 : Hid (normF (z7, d7)) := Lib.hid (by rw [← hv7]; exact addF_norm _ _)
  have HV7 := Lib.hid hv7
  clear hv7
  obtain ⟨z8, d8, hv8⟩ : ∃ z d, addF (vR bpy npy fpy mpy gpy) (z6, d6) = ((z, d) : Fr) := ⟨(addF (vR bpy npy fpy mpy gpy) (z6, d6)).1, (addF (vR bpy npy fpy mpy gpy) (z6, d6)).2, rfl⟩
  have N8 : Hid (normF (z8, d8)) := Lib.hid (by rw [← hv8]; exact addF_norm _ _)
  have HV8 := Lib.hid hv8
  clear hv8
  have O : Old w (((w.alloc (.cells #[.bool bpx, .slice Apx npx cpx, .slice Dpx mpx epx, .bool bpy, .slice Apy npy cpy, .slice Dpy mpy epy] 39)).alloc (.cells #[.int .i64 a, .int .i64 b] 48)).alloc (.cells #[.bool false, .slice none 0 0, .slice none 0 0, .bool false, .slice none 0 0, .slice none 0 0] 39)) := oldB
  have B_p : Bx (((w.alloc (.cells #[.bool bpx, .slice Apx npx cpx, .slice Dpx mpx epx, .bool bpy, .slice Apy npy cpy, .slice Dpy mpy epy] 39)).alloc (.cells #[.int .i64 a, .int .i64 b] 48)).alloc (.cells #[.bool false, .slice none 0 0, .slice none 0 0, .bool false, .slice none 0 0, .slice none 0 0] 39)) (w.heap.size) #[.bool bpx, .slice Apx npx cpx, .slice Dpx mpx epx, .bool bpy, .slice Apy npy cpy, .slice Dpy mpy epy] := by have h := (Bx.alloc (Bx.alloc (Bx.new w #[.bool bpx, .slice Apx npx cpx, .slice Dpx mpx epx, .bool bpy, .slice Apy npy cpy, .slice Dpy mpy epy] 39) (.cells #[.int .i64 a, .int .i64 b] 48)) (.cells #[.bool false, .slice none 0 0, .slice none 0 0, .bool false, .slice none 0 0, .slice none 0 0] 39)); simpa using h
  have B_v : Bx (((w.alloc (.cells #[.bool bpx, .slice Apx npx cpx, .slice Dpx mpx epx, .bool bpy, .slice Apy npy cpy, .slice Dpy mpy epy] 39)).alloc (.cells #[.int .i64 a, .int .i64 b] 48)).alloc (.cells #[.bool false, .slice none 0 0, .slice none 0 0, .bool false, .slice none 0 0, .slice none 0 0] 39)) (w.heap.size + 1) #[.int .i64 a, .int .i64 b] := by have h := (Bx.alloc (Bx.new (w.alloc (.cells #[.bool bpx, .slice Apx npx cpx, .slice Dpx mpx epx, .bool bpy, .slice Apy npy cpy, .slice Dpy mpy epy] 39)) #[.int .i64 a, .int .i64 b] 48) (.cells #[.bool false, .slice none 0 0, .slice none 0 0, .bool false, .slice none 0 0, .slice none 0 0] 39)); simpa using h
  have B_r : Bx (((w.alloc (.cells #[.bool bpx, .slice Apx npx cpx, .slice Dpx mpx epx, .bool bpy, .slice Apy npy cpy, .slice Dpy mpy epy] 39)).alloc (.cells #[.int .i64 a, .int .i64 b] 48)).alloc (.cells #[.bool false, .slice none 0 0, .slice none 0 0, .bool false, .slice none 0 0, .slice none 0 0] 39)) (w.heap.size + 1 + 1) #[.bool false, .slice none 0 0, .slice none 0 0, .bool false, .slice none 0 0, .slice none 0 0] := by have h := (Bx.new ((w.alloc (.cells #[.bool bpx, .slice Apx npx cpx, .slice Dpx mpx epx, .bool bpy, .slice Apy npy cpy, .slice Dpy mpy epy] 39)).alloc (.cells #[.int .i64 a, .int .i64 b] 48)) #[.bool false, .slice none 0 0, .slice none 0 0, .bool false, .slice none 0 0, .slice none 0 0] 39); simpa using h
  have ne_0_1 : ¬ (w.heap.size = w.heap.size + 1) := by omega
  have ne_0_2 : ¬ (w.heap.size = w.heap.size + 1 + 1) := by omega
  have ne_1_0 : ¬ (w.heap.size + 1 = w.heap.size) := by omega
  have ne_1_2 : ¬ (w.heap.size + 1 = w.heap.size + 1 + 1) := by omega
  have ne_2_0 : ¬ (w.heap.size + 1 + 1 = w.heap.size) := by omega
  have ne_2_1 : ¬ (w.heap.size + 1 + 1 = w.heap.size + 1) := by omega
  have ze : w.heap.size + 3 ≤ (((w.alloc (.cells #[.bool bpx, .slice Apx npx cpx, .slice Dpx mpx epx, .bool bpy, .slice Apy npy cpy, .slice Dpy mpy epy] 39)).alloc (.cells #[.int .i64 a, .int .i64 b] 48)).alloc (.cells #[.bool false, .slice none 0 0, .slice none 0 0, .bool false, .slice none 0 0, .slice none 0 0] 39)).heap.size := (by simp)
  go_enter Try.func77, Try.ntmps77
  go_wp2_with fail
  go_region_held3 (fun w' => w'.cell? ⟨w.heap.size, 0, none⟩ = some (.bool bpx) ∧ w'.cell? ⟨w.heap.size, 1, none⟩ = some (.slice Apx npx cpx) ∧ w'.cell? ⟨w.heap.size, 2, none⟩ = some (.slice Dpx mpx epx) ∧ w'.cell? ⟨w.heap.size, 3, none⟩ = some (.bool bpy) ∧ w'.cell? ⟨w.heap.size, 4, none⟩ = some (.slice Apy npy cpy) ∧ w'.cell? ⟨w.heap.size, 5, none⟩ = some (.slice Dpy mpy epy) ∧ w'.cell? ⟨w.heap.size + 1, 0, none⟩ = some (.int .i64 a) ∧ w'.cell? ⟨w.heap.size + 1, 1, none⟩ = some (.int .i64 b)) (go_keep)
    (first
     | (go_at_call 34; refine callsNamed ?_; intro p1 hp; have O' : Old w p1 := (by rw [hp]; exact Below.trans (b := (((w.alloc (.cells #[.bool bpx, .slice Apx npx cpx, .slice Dpx mpx epx, .bool bpy, .slice Apy npy cpy, .slice Dpy mpy epy] 39)).alloc (.cells #[.int .i64 a, .int .i64 b] 48)).alloc (.cells #[.bool false, .slice none 0 0, .slice none 0 0, .bool false, .slice none 0 0, .slice none 0 0] 39))) O oldB); replace B_p : Bx p1 (w.heap.size) #[.bool bpx, .slice Apx npx cpx, .slice Dpx mpx epx, .bool bpy, .slice Apy npy cpy, .slice Dpy mpy epy] := (bxK B_p hp); replace B_v : Bx p1 (w.heap.size + 1) #[.int .i64 a, .int .i64 b] := (bxK B_v hp); replace B_r : Bx p1 (w.heap.size + 1 + 1) #[.bool false, .slice none 0 0, .slice none 0 0, .bool false, .slice none 0 0, .slice none 0 0] := (bxK B_r hp); have zp1 : (((w.alloc (.cells #[.bool bpx, .slice Apx npx cpx, .slice Dpx mpx epx, .bool bpy, .slice Apy npy cpy, .slice Dpy mpy epy] 39)).alloc (.cells #[.int .i64 a, .int .i64 b] 48)).alloc (.cells #[.bool false, .slice none 0 0, .slice none 0 0, .bool false, .slice none 0 0, .slice none 0 0] 39)).heap.size ≤ p1.heap.size := (by rw [hp]; exact leA); clear hp O; have O := O'; clear O'; (with_reducible refine (retZ_to HV5.out (spec_RatFromInt a _ HA.out)).mono ?_); rintro e w1 ⟨⟨A5, c5, D5, e5, rfl, r5, s5, ap5⟩, o1⟩; replace B_p := Bx.old B_p o1; replace B_v := Bx.old B_v o1; replace B_r := Bx.old B_r o1; replace O := Old.trans O o1; have zw1 := o1.size; replace r5 := Row.more (lo' := p1.heap.size) r5 leA; replace s5 := Row.more (lo' := p1.heap.size) s5 leA; have lim_r5 := Row.lim r5; have lim_s5 := Row.lim s5; have AP5 := Lib.hid ap5; clear ap5; obtain ⟨q_p_0, q_p_1, q_p_2, q_p_3, q_p_4, q_p_5, f_p_0, f_p_1, f_p_2, f_p_3, f_p_4, f_p_5, q_p⟩ := B_p.all6; obtain ⟨q_v_0, q_v_1, f_v_0, f_v_1, q_v⟩ := B_v.all2; obtain ⟨q_r_0, q_r_1, q_r_2, q_r_3, q_r_4, q_r_5, f_r_0, f_r_1, f_r_2, f_r_3, f_r_4, f_r_5, q_r⟩ := B_r.all6)
     | (go_at_call 69; refine callsNamed ?_; intro p2 hp; clear q_p_0 q_p_1 q_p_2 q_p_3 q_p_4 q_p_5 f_p_0 f_p_1 f_p_2 f_p_3 f_p_4 f_p_5 q_p q_v_0 q_v_1 f_v_0 f_v_1 q_v q_r_0 q_r_1 q_r_2 q_r_3 q_r_4 q_r_5 f_r_0 f_r_1 f_r_2 f_r_3 f_r_4 f_r_5 q_r; have O' : Old w p2 := (by rw [hp]; exact Below.trans (b := w1) O oldB); replace B_p : Bx p2 (w.heap.size) #[.bool bpx, .slice Apx npx cpx, .slice Dpx mpx epx, .bool bpy, .slice Apy npy cpy, .slice Dpy mpy epy] := (bxK B_p hp); replace B_v : Bx p2 (w.heap.size + 1) #[.int .i64 a, .int .i64 b] := (bxK B_v hp); replace B_r : Bx p2 (w.heap.size + 1 + 1) #[.bool false, .slice none 0 0, .slice none 0 0, .bool false, .slice none 0 0, .slice none 0 0] := (bxK B_r hp); replace r5 := rowK r5 hp; replace s5 := rowK s5 hp; have zp2 : w1.heap.size ≤ p2.heap.size := (by rw [hp]; exact leA); clear hp O; have O := O'; clear O'; (with_reducible refine (retZ_to HV7.out (spec_RatAdd_rv bpx Apx npx cpx lpx fpx Dpx mpx epx upx gpx z5 d5 A5 D5 c5 e5 _ _ _ (Row.below (B := w.heap.size) hpx O (Nat.le_refl _)) (Row.below (B := w.heap.size) kpx O (Nat.le_refl _)) r5 s5 N5.out hnpx hmpx)).mono ?_); rintro e w2 ⟨⟨A7, c7, D7, e7, rfl, r7, s7, ap7⟩, o2⟩; replace B_p := Bx.old B_p o2; replace B_v := Bx.old B_v o2; replace B_r := Bx.old B_r o2; replace r5 := Row.below r5 o2 (Nat.le_refl _); replace s5 := Row.below s5 o2 (Nat.le_refl _); replace O := Old.trans O o2; have zw2 := o2.size; replace r7 := Row.more (lo' := p2.heap.size) r7 leA; replace s7 := Row.more (lo' := p2.heap.size) s7 leA; have lim_r7 := Row.lim r7; have lim_s7 := Row.lim s7; have AP7 := Lib.hid ap7; clear ap7; obtain ⟨q_p_0, q_p_1, q_p_2, q_p_3, q_p_4, q_p_5, f_p_0, f_p_1, f_p_2, f_p_3, f_p_4, f_p_5, q_p⟩ := B_p.all6; obtain ⟨q_v_0, q_v_1, f_v_0, f_v_1, q_v⟩ := B_v.all2; obtain ⟨q_r_0, q_r_1, q_r_2, q_r_3, q_r_4, q_r_5, f_r_0, f_r_1, f_r_2, f_r_3, f_r_4, f_r_5, q_r⟩ := B_r.all6)
     | (go_at_call 34; refine callsNamed ?_; intro p3 hp; clear q_p_0 q_p_1 q_p_2 q_p_3 q_p_4 q_p_5 f_p_0 f_p_1 f_p_2 f_p_3 f_p_4 f_p_5 q_p q_v_0 q_v_1 f_v_0 f_v_1 q_v q_r_0 q_r_1 q_r_2 q_r_3 q_r_4 q_r_5 f_r_0 f_r_1 f_r_2 f_r_3 f_r_4 f_r_5 q_r; have O' : Old w p3 := (by rw [hp]; exact Below.trans (b := w2) O oldB); replace B_p : Bx p3 (w.heap.size) #[.bool bpx, .slice Apx npx cpx, .slice Dpx mpx epx, .bool bpy, .slice Apy npy cpy, .slice Dpy mpy epy] := (bxK B_p hp); replace B_v : Bx p3 (w.heap.size + 1) #[.int .i64 a, .int .i64 b] := (bxK B_v hp); replace B_r : Bx p3 (w.heap.size + 1 + 1) #[.bool false, .slice none 0 0, .slice none 0 0, .bool false, .slice none 0 0, .slice none 0 0] := (bxK B_r hp); replace r5 := rowK r5 hp; replace s5 := rowK s5 hp; replace r7 := rowK r7 hp; replace s7 := rowK s7 hp; have zp3 : w2.heap.size ≤ p3.heap.size := (by rw [hp]; exact leA); clear hp O; have O := O'; clear O'; (with_reducible refine (retZ_to HV6.out (spec_RatFromInt b _ HB.out)).mono ?_); rintro e w3 ⟨⟨A6, c6, D6, e6, rfl, r6, s6, ap6⟩, o3⟩; replace B_p := Bx.old B_p o3; replace B_v := Bx.old B_v o3; replace B_r := Bx.old B_r o3; replace r5 := Row.below r5 o3 (Nat.le_refl _); replace s5 := Row.below s5 o3 (Nat.le_refl _); replace r7 := Row.below r7 o3 (Nat.le_refl _); replace s7 := Row.below s7 o3 (Nat.le_refl _); replace O := Old.trans O o3; have zw3 := o3.size; replace r6 := Row.more (lo' := p3.heap.size) r6 leA; replace s6 := Row.more (lo' := p3.heap.size) s6 leA; have lim_r6 := Row.lim r6; have lim_s6 := Row.lim s6; have AP6 := Lib.hid ap6; clear ap6; obtain ⟨q_p_0, q_p_1, q_p_2, q_p_3, q_p_4, q_p_5, f_p_0, f_p_1, f_p_2, f_p_3, f_p_4, f_p_5, q_p⟩ := B_p.all6; obtain ⟨q_v_0, q_v_1, f_v_0, f_v_1, q_v⟩ := B_v.all2; obtain ⟨q_r_0, q_r_1, q_r_2, q_r_3, q_r_4, q_r_5, f_r_0, f_r_1, f_r_2, f_r_3, f_r_4, f_r_5, q_r⟩ := B_r.all6)
     | (go_at_call 69; refine callsNamed ?_; intro p4 hp; clear q_p_0 q_p_1 q_p_2 q_p_3 q_p_4 q_p_5 f_p_0 f_p_1 f_p_2 f_p_3 f_p_4 f_p_5 q_p q_v_0 q_v_1 f_v_0 f_v_1 q_v q_r_0 q_r_1 q_r_2 q_r_3 q_r_4 q_r_5 f_r_0 f_r_1 f_r_2 f_r_3 f_r_4 f_r_5 q_r; have O' : Old w p4 := (by rw [hp]; exact Below.trans (b := w3) O oldB); replace B_p : Bx p4 (w.heap.size) #[.bool bpx, .slice Apx npx cpx, .slice Dpx mpx epx, .bool bpy, .slice Apy npy cpy, .slice Dpy mpy epy] := (bxK B_p hp); replace B_v : Bx p4 (w.heap.size + 1) #[.int .i64 a, .int .i64 b] := (bxK B_v hp); replace B_r : Bx p4 (w.heap.size + 1 + 1) #[.bool false, .slice none 0 0, .slice none 0 0, .bool false, .slice none 0 0, .slice none 0 0] := (bxK B_r hp); replace r5 := rowK r5 hp; replace s5 := rowK s5 hp; replace r7 := rowK r7 hp; replace s7 := rowK s7 hp; replace r6 := rowK r6 hp; replace s6 := rowK s6 hp; have zp4 : w3.heap.size ≤ p4.heap.size := (by rw [hp]; exact leA); clear hp O; have O := O'; clear O'; (with_reducible refine (retZ_to HV8.out (spec_RatAdd_rv bpy Apy npy cpy lpy fpy Dpy mpy epy upy gpy z6 d6 A6 D6 c6 e6 _ _ _ (Row.below (B := w.heap.size) hpy O (Nat.le_refl _)) (Row.below (B := w.heap.size) kpy O (Nat.le_refl _)) r6 s6 N6.out hnpy hmpy)).mono ?_); rintro e w4 ⟨⟨A8, c8, D8, e8, rfl, r8, s8, ap8⟩, o4⟩; replace B_p := Bx.old B_p o4; replace B_v := Bx.old B_v o4; replace B_r := Bx.old B_r o4; replace r5 := Row.below r5 o4 (Nat.le_refl _); replace s5 := Row.below s5 o4 (Nat.le_refl _); replace r7 := Row.below r7 o4 (Nat.le_refl _); replace s7 := Row.below s7 o4 (Nat.le_refl _); replace r6 := Row.below r6 o4 (Nat.le_refl _); replace s6 := Row.below s6 o4 (Nat.le_refl _); replace O := Old.trans O o4; have zw4 := o4.size; replace r8 := Row.more (lo' := p4.heap.size) r8 leA; replace s8 := Row.more (lo' := p4.heap.size) s8 leA; have lim_r8 := Row.lim r8; have lim_s8 := Row.lim s8; have AP8 := Lib.hid ap8; clear ap8; obtain ⟨q_p_0, q_p_1, q_p_2, q_p_3, q_p_4, q_p_5, f_p_0, f_p_1, f_p_2, f_p_3, f_p_4, f_p_5, q_p⟩ := B_p.all6; obtain ⟨q_v_0, q_v_1, f_v_0, f_v_1, q_v⟩ := B_v.all2; obtain ⟨q_r_0, q_r_1, q_r_2, q_r_3, q_r_4, q_r_5, f_r_0, f_r_1, f_r_2, f_r_3, f_r_4, f_r_5, q_r⟩ := B_r.all6)
     | (go_at_call 124; refine callsNamed ?_; intro p5 hp; clear q_p_0 q_p_1 q_p_2 q_p_3 q_p_4 q_p_5 f_p_0 f_p_1 f_p_2 f_p_3 f_p_4 f_p_5 q_p q_v_0 q_v_1 f_v_0 f_v_1 q_v q_r_0 q_r_1 q_r_2 q_r_3 q_r_4 q_r_5 f_r_0 f_r_1 f_r_2 f_r_3 f_r_4 f_r_5 q_r; have O' : Old w p5 := (by rw [hp]; exact Below.trans (b := w4) O oldB); replace B_p : Bx p5 (w.heap.size) #[.bool bpx, .slice Apx npx cpx, .slice Dpx mpx epx, .bool bpy, .slice Apy npy cpy, .slice Dpy mpy epy] := (bxK B_p hp); replace B_v : Bx p5 (w.heap.size + 1) #[.int .i64 a, .int .i64 b] := (bxK B_v hp); replace B_r : Bx p5 (w.heap.size + 1 + 1) #[.bool false, .slice none 0 0, .slice none 0 0, .bool false, .slice none 0 0, .slice none 0 0] := (bxK B_r hp); replace r5 := rowK r5 hp; replace s5 := rowK s5 hp; replace r7 := rowK r7 hp; replace s7 := rowK s7 hp; replace r6 := rowK r6 hp; replace s6 := rowK s6 hp; replace r8 := rowK r8 hp; replace s8 := rowK s8 hp; have zp5 : w4.heap.size ≤ p5.heap.size := (by rw [hp]; exact leA); clear hp O; have O := O'; clear O'; refine (l05Valid_any z7 d7 A7 D7 c7 e7 _ _ z8 d8 A8 D8 c8 e8 _ _ (w.heap.size + 3) _ r7 s7 N7.out r8 s8 N8.out ⟨by omega, by omega, by omega, by omega⟩ ⟨AP7.out, Apart.of lim_r7 r8 (by omega), Apart.of lim_r7 s8 (by omega), Apart.of lim_s7 r8 (by omega), Apart.of lim_s7 s8 (by omega), AP8.out⟩).mono ?_; rintro e w5 ⟨⟨z9, d9, z10, d10, A9, c9, D9, e9, A10, c10, D10, e10, hv9, rfl, r9, s9, r10, s10, ap9⟩, o5⟩; replace B_p := Bx.old B_p o5; replace B_v := Bx.old B_v o5; replace B_r := Bx.old B_r o5; replace r5 := Row.below r5 o5 (Nat.le_refl _); replace s5 := Row.below s5 o5 (Nat.le_refl _); replace r7 := Row.below r7 o5 (Nat.le_refl _); replace s7 := Row.below s7 o5 (Nat.le_refl _); replace r6 := Row.below r6 o5 (Nat.le_refl _); replace s6 := Row.below s6 o5 (Nat.le_refl _); replace r8 := Row.below r8 o5 (Nat.le_refl _); replace s8 := Row.below s8 o5 (Nat.le_refl _); replace O := Old.trans O o5; have zw5 := o5.size; have lim_r9 := Row.lim r9; have lim_s9 := Row.lim s9; have lim_r10 := Row.lim r10; have lim_s10 := Row.lim s10; have HV9 := Lib.hid hv9; have AP9 := Lib.hid ap9; clear hv9 ap9; obtain ⟨q_p_0, q_p_1, q_p_2, q_p_3, q_p_4, q_p_5, f_p_0, f_p_1, f_p_2, f_p_3, f_p_4, f_p_5, q_p⟩ := B_p.all6; obtain ⟨q_v_0, q_v_1, f_v_0, f_v_1, q_v⟩ := B_v.all2; obtain ⟨q_r_0, q_r_1, q_r_2, q_r_3, q_r_4, q_r_5, f_r_0, f_r_1, f_r_2, f_r_3, f_r_4, f_r_5, q_r⟩ := B_r.all6))
  go_wp2
  refine bodyPost_ret (v := .agg #[.bool (sgnZ z9), .slice A9 (len (magZ z9)) c9, .slice D9 (len d9) e9, .bool (sgnZ z10), .slice A10 (len (magZ z10)) c10, .slice D10 (len d10) e10]) (by simp [results, Try.results77, go_sem, q_r_0, q_r_1, q_r_2, q_r_3, q_r_4, q_r_5]) rfl ⟨⟨z9, d9, z10, d10, A9, c9, D9, e9, A10, c10, D10, e10, (by rw [← HV9.out, ← HV7.out, ← HV8.out, ← HV5.out, ← HV6.out]), rfl, ?_, ?_, ?_, ?_, AP9.out⟩, ?_⟩
  · refine Row.more (lo := (w.heap.size + 3)) ?_ leA
    repeat' (first | (with_reducible exact r9) | (with_reducible refine Row.far_set ?_ (by first | (simp <;> done) | (simp; omega) | omega) _))
  · refine Row.more (lo := (w.heap.size + 3)) ?_ leA
    repeat' (first | (with_reducible exact s9) | (with_reducible refine Row.far_set ?_ (by first | (simp <;> done) | (simp; omega) | omega) _))
  · refine Row.more (lo := (w.heap.size + 3)) ?_ leA
    repeat' (first | (with_reducible exact r10) | (with_reducible refine Row.far_set ?_ (by first | (simp <;> done) | (simp; omega) | omega) _))
  · refine Row.more (lo := (w.heap.size + 3)) ?_ leA
    repeat' (first | (with_reducible exact s10) | (with_reducible refine Row.far_set ?_ (by first | (simp <;> done) | (simp; omega) | omega) _))
  · exact Below.trans (b := w5) O oldB
set_option maxRecDepth 100000 in
set_option maxHeartbeats 8000000 in
theorem impl_MovePoint_no (a : Int) (b : Int) (bpx : Bool) (Apx : Option Addr) (npx cpx lpx : Nat) (fpx : Nat → Int) (Dpx : Option Addr) (mpx epx upx : Nat) (gpx : Nat → Int) (bpy : Bool) (Apy : Option Addr) (npy cpy lpy : Nat) (fpy : Nat → Int) (Dpy : Option Addr) (mpy epy upy : Nat) (gpy : Nat → Int) (w : World) (hpx : Row w lpx Apx npx cpx fpx) (kpx : Row w upx Dpx mpx epx gpx) (hpy : Row w lpy Apy npy cpy fpy) (kpy : Row w upy Dpy mpy epy gpy) (hnpx : npx ≤ 1048576) (hmpx : mpx ≤ 1048576) (hnpy : npy ≤ 1048576) (hmpy : mpy ≤ 1048576) (q : (rIsValidPoint bpx npx fpx mpx gpx bpy npy fpy mpy gpy) = false) :
    Calls Try.prog 78 #[.agg #[.bool bpx, .slice Apx npx cpx, .slice Dpx mpx epx, .bool bpy, .slice Apy npy cpy, .slice Dpy mpy epy], .agg #[.int .i64 a, .int .i64 b]] w fun e w' => RetP e w' w.heap.size (((0, 0), (0, 0))) ∧ Old w w' := by
  have Q := Lib.hid q
  clear q
  have O : Old w (((w.alloc (.cells #[.bool bpx, .slice Apx npx cpx, .slice Dpx mpx epx, .bool bpy, .slice Apy npy cpy, .slice Dpy mpy epy] 39)).alloc (.cells #[.int .i64 a, .int .i64 b] 48)).alloc (.cells #[.bool false, .slice none 0 0, .slice none 0 0, .bool false, .slice none 0 0, .slice none 0 0] 39)) := oldB
  have B_p : Bx (((w.alloc (.cells #[.bool bpx, .slice Apx npx cpx, .slice Dpx mpx epx, .bool bpy, .slice Apy npy cpy, .slice Dpy mpy epy] 39)).alloc (.cells #[.int .i64 a, .int .i64 b] 48)).alloc (.cells #[.bool false, .slice none 0 0, .slice none 0 0, .bool false, .slice none 0 0, .slice none 0 0] 39)) (w.heap.size) #[.bool bpx, .slice Apx npx cpx, .slice Dpx mpx epx, .bool bpy, .slice Apy npy cpy, .slice Dpy mpy epy] := by have h := (Bx.alloc (Bx.alloc (Bx.new w #[.bool bpx, .slice Apx npx cpx, .slice Dpx mpx epx, .bool bpy, .slice Apy npy cpy, .slice Dpy mpy epy] 39) (.cells #[.int .i64 a, .int .i64 b] 48)) (.cells #[.bool false, .slice none 0 0, .slice none 0 0, .bool false, .slice none 0 0, .slice none 0 0] 39)); simpa using h
  have B_v : Bx (((w.alloc (.cells #[.bool bpx, .slice Apx npx cpx, .slice Dpx mpx epx, .bool bpy, .slice Apy npy cpy, .slice Dpy mpy epy] 39)).alloc (.cells #[.int .i64 a, .int .i64 b] 48)).alloc (.cells #[.bool false, .slice none 0 0, .slice none 0 0, .bool false, .slice none 0 0, .slice none 0 0] 39)) (w.heap.size + 1) #[.int .i64 a, .int .i64 b] := by have h := (Bx.alloc (Bx.new (w.alloc (.cells #[.bool bpx, .slice Apx npx cpx, .slice Dpx mpx epx, .bool bpy, .slice Apy npy cpy, .slice Dpy mpy epy] 39)) #[.int .i64 a, .int .i64 b] 48) (.cells #[.bool false, .slice none 0 0, .slice none 0 0, .bool false, .slice none 0 0, .slice none 0 0] 39)); simpa using h
  have B_r : Bx (((w.alloc (.cells #[.bool bpx, .slice Apx npx cpx, .slice Dpx mpx epx, .bool bpy, .slice Apy npy cpy, .slice Dpy mpy epy] 39)).alloc (.cells #[.int .i64 a, .int .i64 b] 48)).alloc (.cells #[.bool false, .slice none 0 0, .slice none 0 0, .bool false, .slice none 0 0, .slice none 0 0] 39)) (w.heap.size + 1 + 1) #[.bool false, .slice none 0 0, .slice none 0 0, .bool false, .slice none 0 0, .slice none 0 0] := by have h := (Bx.new ((w.alloc (.cells #[.bool bpx, .slice Apx npx cpx, .slice Dpx mpx epx, .bool bpy, .slice Apy npy cpy, .slice Dpy mpy epy] 39)).alloc (.cells #[.int .i64 a, .int .i64 b] 48)) #[.bool false, .slice none 0 0, .slice none 0 0, .bool false, .slice none 0 0, .slice none 0 0] 39); simpa using h
  have ne_0_1 : ¬ (w.heap.size = w.heap.size + 1) := by omega
  have ne_0_2 : ¬ (w.heap.size = w.heap.size + 1 + 1) := by omega
  have ne_1_0 : ¬ (w.heap.size + 1 = w.heap.size) := by omega
  have ne_1_2 : ¬ (w.heap.size + 1 = w.heap.size + 1 + 1) := by omega
  have ne_2_0 : ¬ (w.heap.size + 1 + 1 = w.heap.size) := by omega
  have ne_2_1 : ¬ (w.heap.size + 1 + 1 = w.heap.size + 1) := by omega
  have ze : w.heap.size + 3 ≤ (((w.alloc (.cells #[.bool bpx, .slice Apx npx cpx, .slice Dpx mpx epx, .bool bpy, .slice Apy npy cpy, .slice Dpy mpy epy] 39)).alloc (.cells #[.int .i64 a, .int .i64 b] 48)).alloc (.cells #[.bool false, .slice none 0 0, .slice none 0 0, .bool false, .slice none 0 0, .slice none 0 0] 39)).heap.size := (by simp)
  go_enter Try.func78, Try.ntmps78
  go_wp2_with fail
  refine callsNamed ?_
  intro p1 hp
  have O' : Old w p1 := (by rw [hp]; exact Below.trans (b := (((w.alloc (.cells #[.bool bpx, .slice Apx npx cpx, .slice Dpx mpx epx, .bool bpy, .slice Apy npy cpy, .slice Dpy mpy epy] 39)).alloc (.cells #[.int .i64 a, .int .i64 b] 48)).alloc (.cells #[.bool false, .slice none 0 0, .slice none 0 0, .bool false, .slice none 0 0, .slice none 0 0] 39))) O oldB)
  replace B_p : Bx p1 (w.heap.size) #[.bool bpx, .slice Apx npx cpx, .slice Dpx mpx epx, .bool bpy, .slice Apy npy cpy, .slice Dpy mpy epy] := (bxK B_p hp)
  replace B_v : Bx p1 (w.heap.size + 1) #[.int .i64 a, .int .i64 b] := (bxK B_v hp)
  replace B_r : Bx p1 (w.heap.size + 1 + 1) #[.bool false, .slice none 0 0, .slice none 0 0, .bool false, .slice none 0 0, .slice none 0 0] := (bxK B_r hp)
  have E : Bx p1 (w.heap.size + 1 + 1 + 1) #[.bool bpx, .slice Apx npx cpx, .slice Dpx mpx epx, .bool bpy, .slice Apy npy cpy, .slice Dpy mpy epy] := (by rw [hp]; have h := Bx.new (((w.alloc (.cells #[.bool bpx, .slice Apx npx cpx, .slice Dpx mpx epx, .bool bpy, .slice Apy npy cpy, .slice Dpy mpy epy] 39)).alloc (.cells #[.int .i64 a, .int .i64 b] 48)).alloc (.cells #[.bool false, .slice none 0 0, .slice none 0 0, .bool false, .slice none 0 0, .slice none 0 0] 39)) #[.bool bpx, .slice Apx npx cpx, .slice Dpx mpx epx, .bool bpy, .slice Apy npy cpy, .slice Dpy mpy epy] 39; simpa using h)
  have zp1 : (((w.alloc (.cells #[.bool bpx, .slice Apx npx cpx, .slice Dpx mpx epx, .bool bpy, .slice Apy npy cpy, .slice Dpy mpy epy] 39)).alloc (.cells #[.int .i64 a, .int .i64 b] 48)).alloc (.cells #[.bool false, .slice none 0 0, .slice none 0 0, .bool false, .slice none 0 0, .slice none 0 0] 39)).heap.size ≤ p1.heap.size := (by rw [hp]; exact leA)
  clear hp O
  have O := O'
  clear O'
  refine (plain_to (by rw [Q.out]) (arePoints_1 bpx Apx npx cpx lpx fpx Dpx mpx epx upx gpx bpy Apy npy cpy lpy fpy Dpy mpy epy upy gpy _ _ E (Row.below (B := w.heap.size) hpx O (Nat.le_refl _)) (Row.below (B := w.heap.size) kpx O (Nat.le_refl _)) (Row.below (B := w.heap.size) hpy O (Nat.le_refl _)) (Row.below (B := w.heap.size) kpy O (Nat.le_refl _)) hnpx hmpx hnpy hmpy)).mono ?_
  rintro e w1 ⟨rfl, o1⟩
  replace B_p := Bx.old B_p o1
  replace B_v := Bx.old B_v o1
  replace B_r := Bx.old B_r o1
  replace O := Old.trans O o1
  have zw1 := o1.size
  obtain ⟨q_p_0, q_p_1, q_p_2, q_p_3, q_p_4, q_p_5, f_p_0, f_p_1, f_p_2, f_p_3, f_p_4, f_p_5, q_p⟩ := B_p.all6
  obtain ⟨q_v_0, q_v_1, f_v_0, f_v_1, q_v⟩ := B_v.all2
  obtain ⟨q_r_0, q_r_1, q_r_2, q_r_3, q_r_4, q_r_5, f_r_0, f_r_1, f_r_2, f_r_3, f_r_4, f_r_5, q_r⟩ := B_r.all6
  go_wp2
  refine bodyPost_ret (v := .agg #[.bool false, .slice none 0 0, .slice none 0 0, .bool false, .slice none 0 0, .slice none 0 0]) (by simp [results, Try.results78, go_sem, q_r_0, q_r_1, q_r_2, q_r_3, q_r_4, q_r_5]) rfl ⟨RetP.zero rfl, Below.trans (b := w1) O oldB⟩
set_option maxRecDepth 100000 in
set_option maxHeartbeats 8000000 in
theorem impl_MovePoint_yes (a : Int) (b : Int) (zpx : Int) (dpx : Nat) (Apx Dpx : Option Addr) (cpx epx lpx mpx : Nat) (zpy : Int) (dpy : Nat) (Apy Dpy : Option Addr) (cpy epy lpy mpy : Nat) (w : World) (ha : -9223372036854775808 ≤ a ∧ a ≤ 9223372036854775807) (hb : -9223372036854775808 ≤ b ∧ b ≤ 9223372036854775807) (hpx : NatS w lpx Apx cpx (magZ zpx)) (kpx : NatS w mpx Dpx epx dpx) (npx : normF (zpx, dpx)) (hpy : NatS w lpy Apy cpy (magZ zpy)) (kpy : NatS w mpy Dpy epy dpy) (npy : normF (zpy, dpy)) (ppx : 0 < dpx) (ppy : 0 < dpy) :
    Calls Try.prog 78 #[.agg #[.bool (sgnZ zpx), .slice Apx (len (magZ zpx)) cpx, .slice Dpx (len dpx) epx, .bool (sgnZ zpy), .slice Apy (len (magZ zpy)) cpy, .slice Dpy (len dpy) epy], .agg #[.int .i64 a, .int .i64 b]] w fun e w' => RetP e w' w.heap.size (pointF (addF (zpx, dpx) (vRatFromInt a)) (addF (zpy, dpy) (vRatFromInt b))) ∧ Old w w' := by
  have Q : Hid ((rIsValidPoint (sgnZ zpx) (len (magZ zpx)) (digI (magZ zpx)) (len dpx) (digI dpx) (sgnZ zpy) (len (magZ zpy)) (digI (magZ zpy)) (len dpy) (digI dpy)) = true) := Lib.hid (by rw [valid_yes npx npy ppx ppy])
  have Ha := Lib.hid ha
  clear ha
  have Hb := Lib.hid hb
  clear hb
  have Npx := Lib.hid npx
  have LNpx := norm_len npx
  have Lapx : len (magZ zpx) ≤ 24 := LNpx.1
  have Lbpx : len dpx ≤ 24 := LNpx.2
  clear npx LNpx
  have Npy := Lib.hid npy
  have LNpy := norm_len npy
  have Lapy : len (magZ zpy) ≤ 24 := LNpy.1
  have Lbpy : len dpy ≤ 24 := LNpy.2
  clear npy LNpy
  clear ppx ppy
  have O : Old w (((w.alloc (.cells #[.bool (sgnZ zpx), .slice Apx (len (magZ zpx)) cpx, .slice Dpx (len dpx) epx, .bool (sgnZ zpy), .slice Apy (len (magZ zpy)) cpy, .slice Dpy (len dpy) epy] 39)).alloc (.cells #[.int .i64 a, .int .i64 b] 48)).alloc (.cells #[.bool false, .slice none 0 0, .slice none 0 0, .bool false, .slice none 0 0, .slice none 0 0] 39)) := oldB
  have B_p : Bx (((w.alloc (.cells #[.bool (sgnZ zpx), .slice Apx (len (magZ zpx)) cpx, .slice Dpx (len dpx) epx, .bool (sgnZ zpy), .slice Apy (len (magZ zpy)) cpy, .slice Dpy (len dpy) epy] 39)).alloc (.cells #[.int .i64 a, .int .i64 b] 48)).alloc (.cells #[.bool false, .slice none 0 0, .slice none 0 0, .bool false, .slice none 0 0, .slice none 0 0] 39)) (w.heap.size) #[.bool (sgnZ zpx), .slice Apx (len (magZ zpx)) cpx, .slice Dpx (len dpx) epx, .bool (sgnZ zpy), .slice Apy (len (magZ zpy)) cpy, .slice Dpy (len dpy) epy] := by have h := (Bx.alloc (Bx.alloc (Bx.new w #[.bool (sgnZ zpx), .slice Apx (len (magZ zpx)) cpx, .slice Dpx (len dpx) epx, .bool (sgnZ zpy), .slice Apy (len (magZ zpy)) cpy, .slice Dpy (len dpy) epy] 39) (.cells #[.int .i64 a, .int .i64 b] 48)) (.cells #[.bool false, .slice none 0 0, .slice none 0 0, .bool false, .slice none 0 0, .slice none 0 0] 39)); simpa using h
  have B_v : Bx (((w.alloc (.cells #[.bool (sgnZ zpx), .slice Apx (len (magZ zpx)) cpx, .slice Dpx (len dpx) epx, .bool (sgnZ zpy), .slice Apy (len (magZ zpy)) cpy, .slice Dpy (len dpy) epy] 39)).alloc (.cells #[.int .i64 a, .int .i64 b] 48)).alloc (.cells #[.bool false, .slice none 0 0, .slice none 0 0, .bool false, .slice none 0 0, .slice none 0 0] 39)) (w.heap.size + 1) #[.int .i64 a, .int .i64 b] := by have h := (Bx.alloc (Bx.new (w.alloc (.cells #[.bool (sgnZ zpx), .slice Apx (len (magZ zpx)) cpx, .slice Dpx (len dpx) epx, .bool (sgnZ zpy), .slice Apy (len (magZ zpy)) cpy, .slice Dpy (len dpy) epy] 39)) #[.int .i64 a, .int .i64 b] 48) (.cells #[.bool false, .slice none 0 0, .slice none 0 0, .bool false, .slice none 0 0, .slice none 0 0] 39)); simpa using h
  have B_r : Bx (((w.alloc (.cells #[.bool (sgnZ zpx), .slice Apx (len (magZ zpx)) cpx, .slice Dpx (len dpx) epx, .bool (sgnZ zpy), .slice Apy (len (magZ zpy)) cpy, .slice Dpy (len dpy) epy] 39)).alloc (.cells #[.int .i64 a, .int .i64 b] 48)).alloc (.cells #[.bool false, .slice none 0 0, .slice none 0 0, .bool false, .slice none 0 0, .slice none 0 0] 39)) (w.heap.size + 1 + 1) #[.bool false, .slice none 0 0, .slice none 0 0, .bool false, .slice none 0 0, .slice none 0 0] := by have h := (Bx.new ((w.alloc (.cells #[.bool (sgnZ zpx), .slice Apx (len (magZ zpx)) cpx, .slice Dpx (len dpx) epx, .bool (sgnZ zpy), .slice Apy (len (magZ zpy)) cpy, .slice Dpy (len dpy) epy] 39)).alloc (.cells #[.int .i64 a, .int .i64 b] 48)) #[.bool false, .slice none 0 0, .slice none 0 0, .bool false, .slice none 0 0, .slice none 0 0] 39); simpa using h
  have ne_0_1 : ¬ (w.heap.size = w.heap.size + 1) := by omega
  have ne_0_2 : ¬ (w.heap.size = w.heap.size + 1 + 1) := by omega
  have ne_1_0 : ¬ (w.heap.size + 1 = w.heap.size) := by omega
  have ne_1_2 : ¬ (w.heap.size + 1 = w.heap.size + 1 + 1) := by omega
  have ne_2_0 : ¬ (w.heap.size + 1 + 1 = w.heap.size) := by omega
  have ne_2_1 : ¬ (w.heap.size + 1 + 1 = w.heap.size + 1) := by omega
  have ze : w.heap.size + 3 ≤ (((w.alloc (.cells #[.bool (sgnZ zpx), .slice Apx (len (magZ zpx)) cpx, .slice Dpx (len dpx) epx, .bool (sgnZ zpy), .slice Apy (len (magZ zpy)) cpy, .slice Dpy (len dpy) epy] 39)).alloc (.cells #[.int .i64 a, .int .i64 b] 48)).alloc (.cells #[.bool false, .slice none 0 0, .slice none 0 0, .bool false, .slice none 0 0, .slice none 0 0] 39)).heap.size := (by simp)
  go_enter Try.func78, Try.ntmps78
  go_wp2_with fail
  refine callsNamed ?_
  intro p1 hp
  have O' : Old w p1 := (by rw [hp]; exact Below.trans (b := (((w.alloc (.cells #[.bool (sgnZ zpx), .slice Apx (len (magZ zpx)) cpx, .slice Dpx (len dpx) epx, .bool (sgnZ zpy), .slice Apy (len (magZ zpy)) cpy, .slice Dpy (len dpy) epy] 39)).alloc (.cells #[.int .i64 a, .int .i64 b] 48)).alloc (.cells #[.bool false, .slice none 0 0, .slice none 0 0, .bool false, .slice none 0 0, .slice none 0 0] 39))) O oldB)
  replace B_p : Bx p1 (w.heap.size) #[.bool (sgnZ zpx), .slice Apx (len (magZ zpx)) cpx, .slice Dpx (len dpx) epx, .bool (sgnZ zpy), .slice Apy (len (magZ zpy)) cpy, .slice Dpy (len dpy) epy] := (bxK B_p hp)
  replace B_v : Bx p1 (w.heap.size + 1) #[.int .i64 a, .int .i64 b] := (bxK B_v hp)
  replace B_r : Bx p1 (w.heap.size + 1 + 1) #[.bool false, .slice none 0 0, .slice none 0 0, .bool false, .slice none 0 0, .slice none 0 0] := (bxK B_r hp)
  have E : Bx p1 (w.heap.size + 1 + 1 + 1) #[.bool (sgnZ zpx), .slice Apx (len (magZ zpx)) cpx, .slice Dpx (len dpx) epx, .bool (sgnZ zpy), .slice Apy (len (magZ zpy)) cpy, .slice Dpy (len dpy) epy] := (by rw [hp]; have h := Bx.new (((w.alloc (.cells #[.bool (sgnZ zpx), .slice Apx (len (magZ zpx)) cpx, .slice Dpx (len dpx) epx, .bool (sgnZ zpy), .slice Apy (len (magZ zpy)) cpy, .slice Dpy (len dpy) epy] 39)).alloc (.cells #[.int .i64 a, .int .i64 b] 48)).alloc (.cells #[.bool false, .slice none 0 0, .slice none 0 0, .bool false, .slice none 0 0, .slice none 0 0] 39)) #[.bool (sgnZ zpx), .slice Apx (len (magZ zpx)) cpx, .slice Dpx (len dpx) epx, .bool (sgnZ zpy), .slice Apy (len (magZ zpy)) cpy, .slice Dpy (len dpy) epy] 39; simpa using h)
  have zp1 : (((w.alloc (.cells #[.bool (sgnZ zpx), .slice Apx (len (magZ zpx)) cpx, .slice Dpx (len dpx) epx, .bool (sgnZ zpy), .slice Apy (len (magZ zpy)) cpy, .slice Dpy (len dpy) epy] 39)).alloc (.cells #[.int .i64 a, .int .i64 b] 48)).alloc (.cells #[.bool false, .slice none 0 0, .slice none 0 0, .bool false, .slice none 0 0, .slice none 0 0] 39)).heap.size ≤ p1.heap.size := (by rw [hp]; exact leA)
  clear hp O
  have O := O'
  clear O'
  refine (plain_to (by rw [Q.out]) (arePoints_1 (sgnZ zpx) Apx (len (magZ zpx)) cpx lpx (digI (magZ zpx)) Dpx (len dpx) epx mpx (digI dpx) (sgnZ zpy) Apy (len (magZ zpy)) cpy lpy (digI (magZ zpy)) Dpy (len dpy) epy mpy (digI dpy) _ _ E (Row.below (B := w.heap.size) hpx O (Nat.le_refl _)) (Row.below (B := w.heap.size) kpx O (Nat.le_refl _)) (Row.below (B := w.heap.size) hpy O (Nat.le_refl _)) (Row.below (B := w.heap.size) kpy O (Nat.le_refl _)) (by omega) (by omega) (by omega) (by omega))).mono ?_
  rintro e w1 ⟨rfl, o1⟩
  replace B_p := Bx.old B_p o1
  replace B_v := Bx.old B_v o1
  replace B_r := Bx.old B_r o1
  replace O := Old.trans O o1
  have zw1 := o1.size
  obtain ⟨q_p_0, q_p_1, q_p_2, q_p_3, q_p_4, q_p_5, f_p_0, f_p_1, f_p_2, f_p_3, f_p_4, f_p_5, q_p⟩ := B_p.all6
  obtain ⟨q_v_0, q_v_1, f_v_0, f_v_1, q_v⟩ := B_v.all2
  obtain ⟨q_r_0, q_r_1, q_r_2, q_r_3, q_r_4, q_r_5, f_r_0, f_r_1, f_r_2, f_r_3, f_r_4, f_r_5, q_r⟩ := B_r.all6
  go_wp2_with fail
  refine callsNamed ?_
  intro p2 hp
  clear q_p_0 q_p_1 q_p_2 q_p_3 q_p_4 q_p_5 f_p_0 f_p_1 f_p_2 f_p_3 f_p_4 f_p_5 q_p q_v_0 q_v_1 f_v_0 f_v_1 q_v q_r_0 q_r_1 q_r_2 q_r_3 q_r_4 q_r_5 f_r_0 f_r_1 f_r_2 f_r_3 f_r_4 f_r_5 q_r
  have O' : Old w p2 := (by rw [hp]; exact Below.trans (b := w1) O oldB)
  replace B_p : Bx p2 (w.heap.size) #[.bool (sgnZ zpx), .slice Apx (len (magZ zpx)) cpx, .slice Dpx (len dpx) epx, .bool (sgnZ zpy), .slice Apy (len (magZ zpy)) cpy, .slice Dpy (len dpy) epy] := (bxK B_p hp)
  replace B_v : Bx p2 (w.heap.size + 1) #[.int .i64 a, .int .i64 b] := (bxK B_v hp)
  replace B_r : Bx p2 (w.heap.size + 1 + 1) #[.bool false, .slice none 0 0, .slice none 0 0, .bool false, .slice none 0 0, .slice none 0 0] := (bxK B_r hp)
  clear E
  have zp2 : w1.heap.size ≤ p2.heap.size := (by rw [hp]; exact leA)
  clear hp O
  have O := O'
  clear O'
  refine (movePoint_any a b zpx dpx Apx Dpx cpx epx lpx mpx zpy dpy Apy Dpy cpy epy lpy mpy _ Ha.out Hb.out (Row.below (B := w.heap.size) hpx O (Nat.le_refl _)) (Row.below (B := w.heap.size) kpx O (Nat.le_refl _)) Npx.out (Row.below (B := w.heap.size) hpy O (Nat.le_refl _)) (Row.below (B := w.heap.size) kpy O (Nat.le_refl _)) Npy.out).mono ?_
  rintro e w2 ⟨⟨z9, d9, z10, d10, A9, c9, D9, e9, A10, c10, D10, e10, hv9, rfl, r9, s9, r10, s10, ap9⟩, o2⟩
  replace B_p := Bx.old B_p o2
  replace B_v := Bx.old B_v o2
  replace B_r := Bx.old B_r o2
  replace O := Old.trans O o2
  have zw2 := o2.size
  replace r9 := Row.more (lo' := p2.heap.size) r9 leA
  replace s9 := Row.more (lo' := p2.heap.size) s9 leA
  replace r10 := Row.more (lo' := p2.heap.size) r10 leA
  replace s10 := Row.more (lo' := p2.heap.size) s10 leA
  have lim_r9 := Row.lim r9
  have lim_s9 := Row.lim s9
  have lim_r10 := Row.lim r10
  have lim_s10 := Row.lim s10
  have HV9 := Lib.hid hv9
  have AP9 := Lib.hid ap9
  clear hv9 ap9
  obtain ⟨q_p_0, q_p_1, q_p_2, q_p_3, q_p_4, q_p_5, f_p_0, f_p_1, f_p_2, f_p_3, f_p_4, f_p_5, q_p⟩ := B_p.all6
  obtain ⟨q_v_0, q_v_1, f_v_0, f_v_1, q_v⟩ := B_v.all2
  obtain ⟨q_r_0, q_r_1, q_r_2, q_r_3, q_r_4, q_r_5, f_r_0, f_r_1, f_r_2, f_r_3, f_r_4, f_r_5, q_r⟩ := B_r.all6
  go_wp2
  refine bodyPost_ret (v := .agg #[.bool (sgnZ z9), .slice A9 (len (magZ z9)) c9, .slice D9 (len d9) e9, .bool (sgnZ z10), .slice A10 (len (magZ z10)) c10, .slice D10 (len d10) e10]) (by simp [results, Try.results78, go_sem, q_r_0, q_r_1, q_r_2, q_r_3, q_r_4, q_r_5]) rfl ⟨⟨z9, d9, z10, d10, A9, c9, D9, e9, A10, c10, D10, e10, HV9.out, rfl, ?_, ?_, ?_, ?_, AP9.out⟩, ?_⟩
  · refine Row.more (lo := p2.heap.size) ?_ leA
    repeat' (first | (with_reducible exact r9) | (with_reducible refine Row.far_set ?_ (by first | (simp <;> done) | (simp; omega) | omega) _))
  · refine Row.more (lo := p2.heap.size) ?_ leA
    repeat' (first | (with_reducible exact s9) | (with_reducible refine Row.far_set ?_ (by first | (simp <;> done) | (simp; omega) | omega) _))
  · refine Row.more (lo := p2.heap.size) ?_ leA
    repeat' (first | (with_reducible exact r10) | (with_reducible refine Row.far_set ?_ (by first | (simp <;> done) | (simp; omega) | omega) _))
  · refine Row.more (lo := p2.heap.size) ?_ leA
    repeat' (first | (with_reducible exact s10) | (with_reducible refine Row.far_set ?_ (by first | (simp <;> done) | (simp; omega) | omega) _))
  · exact Below.trans (b := w2) O oldB
theorem impl_MovePoint (a : Int) (b : Int) (bpx : Bool) (Apx : Option Addr) (npx cpx lpx : Nat) (fpx : Nat → Int) (Dpx : Option Addr) (mpx epx upx : Nat) (gpx : Nat → Int) (bpy : Bool) (Apy : Option Addr) (npy cpy lpy : Nat) (fpy : Nat → Int) (Dpy : Option Addr) (mpy epy upy : Nat) (gpy : Nat → Int) (w : World) (ha : -9223372036854775808 ≤ a ∧ a ≤ 9223372036854775807) (hb : -9223372036854775808 ≤ b ∧ b ≤ 9223372036854775807) (hpx : Row w lpx Apx npx cpx fpx) (kpx : Row w upx Dpx mpx epx gpx) (hpy : Row w lpy Apy npy cpy fpy) (kpy : Row w upy Dpy mpy epy gpy) (hnpx : npx ≤ 1048576) (hmpx : mpx ≤ 1048576) (hnpy : npy ≤ 1048576) (hmpy : mpy ≤ 1048576) :
    Calls Try.prog 78 #[.agg #[.bool bpx, .slice Apx npx cpx, .slice Dpx mpx epx, .bool bpy, .slice Apy npy cpy, .slice Dpy mpy epy], .agg #[.int .i64 a, .int .i64 b]] w fun e w' => RetP e w' w.heap.size (vMovePoint bpx npx fpx mpx gpx bpy npy fpy mpy gpy a b) ∧ Old w w' := by
  by_cases qpx : okR bpx npx fpx mpx gpx
  case neg =>
    have e : vMovePoint bpx npx fpx mpx gpx bpy npy fpy mpy gpy a b = ((0, 0), (0, 0)) := by unfold vMovePoint; rw [vR_no qpx, addF_no1 rfl]; exact pointF_no fun h => absurd h.1 (Nat.lt_irrefl 0)
    rw [e]
    exact impl_MovePoint_no a b bpx Apx npx cpx lpx fpx Dpx mpx epx upx gpx bpy Apy npy cpy lpy fpy Dpy mpy epy upy gpy w hpx kpx hpy kpy hnpx hmpx hnpy hmpy (by unfold rIsValidPoint; rw [rRatOk_no qpx]; simp)
  by_cases qpy : okR bpy npy fpy mpy gpy
  case neg =>
    have e : vMovePoint bpx npx fpx mpx gpx bpy npy fpy mpy gpy a b = ((0, 0), (0, 0)) := by unfold vMovePoint; rw [vR_no qpy, addF_no1 (a := (0, 0)) rfl]; exact pointF_no fun h => absurd h.2 (Nat.lt_irrefl 0)
    rw [e]
    exact impl_MovePoint_no a b bpx Apx npx cpx lpx fpx Dpx mpx epx upx gpx bpy Apy npy cpy lpy fpy Dpy mpy epy upy gpy w hpx kpx hpy kpy hnpx hmpx hnpy hmpy (by unfold rIsValidPoint; rw [rRatOk_no qpy]; simp)
  unfold vMovePoint
  obtain ⟨zpx, dpx, f1px, f2px, f3px, ppx, nnpx, vpx, spx, spx'⟩ := okR_z qpx hpx kpx
  obtain ⟨zpy, dpy, f1py, f2py, f3py, ppy, nnpy, vpy, spy, spy'⟩ := okR_z qpy hpy kpy
  rw [vpx, f1px, f2px, f3px, vpy, f1py, f2py, f3py]
  exact impl_MovePoint_yes a b zpx dpx Apx Dpx cpx epx lpx upx zpy dpy Apy Dpy cpy epy lpy upy w ha hb spx spx' nnpx spy spy' nnpy ppx ppy
end Go.Proofs.Ytnkeenejcpkelaa
