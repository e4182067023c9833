import Derived.Test.YtnkeenejcpkelaaPtZ
import Derived.Test.YtnkeenejcpkelaaRatMulES
import Derived.Test.YtnkeenejcpkelaaRatSubES
import Derived.Test.YtnkeenejcpkelaaRatSignES
import Derived.Test.YtnkeenejcpkelaaRatMulI
import Derived.Test.YtnkeenejcpkelaaRatSubI
import Derived.Test.YtnkeenejcpkelaaRatCmpI
/-
  The side of a line on which a point lies: both Side's.
-/
namespace Go.Proofs.Ytnkeenejcpkelaa
set_option linter.unusedVariables false
open Go.RowKit Num
attribute [local go_sem ↓] Go.wp_at_zero Go.wp_at_succ
theorem ret_int {e : Ending} {b b' : Int} {P : Prop} (h : b = b') (k : e = .returned (.int .i64 b') ∧ P) : e = .returned (.int .i64 b) ∧ P := h ▸ k
noncomputable def rSide (bpx : Bool) (npx : Nat) (fpx : Nat → Int) (mpx : Nat) (gpx : Nat → Int) (bpy : Bool) (npy : Nat) (fpy : Nat → Int) (mpy : Nat) (gpy : Nat → Int) (bqx : Bool) (nqx : Nat) (fqx : Nat → Int) (mqx : Nat) (gqx : Nat → Int) (bqy : Bool) (nqy : Nat) (fqy : Nat → Int) (mqy : Nat) (gqy : Nat → Int) (brx : Bool) (nrx : Nat) (frx : Nat → Int) (mrx : Nat) (grx : Nat → Int) (bry : Bool) (nry : Nat) (fry : Nat → Int) (mry : Nat) (gry : Nat → Int) : Int := sgnF (subF (mulF (subF (vR bqx nqx fqx mqx gqx) (vR bpx npx fpx mpx gpx)) (subF (vR bry nry fry mry gry) (vR bpy npy fpy mpy gpy))) (mulF (subF (vR bqy nqy fqy mqy gqy) (vR bpy npy fpy mpy gpy)) (subF (vR brx nrx frx mrx grx) (vR bpx npx fpx mpx gpx))))
set_option maxRecDepth 100000 in
set_option maxHeartbeats 8000000 in
theorem side_any (zpx : Int) (dpx : Nat) (Apx Dpx : Option Addr) (cpx epx lpx mpx : Nat) (zpy : Int) (dpy : Nat) (Apy Dpy : Option Addr) (cpy epy lpy mpy : Nat) (zqx : Int) (dqx : Nat) (Aqx Dqx : Option Addr) (cqx eqx lqx mqx : Nat) (zqy : Int) (dqy : Nat) (Aqy Dqy : Option Addr) (cqy eqy lqy mqy : Nat) (zrx : Int) (drx : Nat) (Arx Drx : Option Addr) (crx erx lrx mrx : Nat) (zry : Int) (dry : Nat) (Ary Dry : Option Addr) (cry ery lry mry : Nat) (w : World) (hpx : NatS w lpx Apx cpx (magZ zpx)) (kpx : NatS w mpx Dpx epx dpx) (npx : normF (zpx, dpx)) (hpy : NatS w lpy Apy cpy (magZ zpy)) (kpy : NatS w mpy Dpy epy dpy) (npy : normF (zpy, dpy)) (hqx : NatS w lqx Aqx cqx (magZ zqx)) (kqx : NatS w mqx Dqx eqx dqx) (nqx : normF (zqx, dqx)) (hqy : NatS w lqy Aqy cqy (magZ zqy)) (kqy : NatS w mqy Dqy eqy dqy) (nqy : normF (zqy, dqy)) (hrx : NatS w lrx Arx crx (magZ zrx)) (krx : NatS w mrx Drx erx drx) (nrx : normF (zrx, drx)) (hry : NatS w lry Ary cry (magZ zry)) (kry : NatS w mry Dry ery dry) (nry : normF (zry, dry)) :
    Calls Try.prog 122 #[.agg #[.bool (sgnZ zpx), .slice Apx (len (magZ zpx)) cpx, .slice Dpx (len dpx) epx, .bool (sgnZ zpy), .slice Apy (len (magZ zpy)) cpy, .slice Dpy (len dpy) epy], .agg #[.bool (sgnZ zqx), .slice Aqx (len (magZ zqx)) cqx, .slice Dqx (len dqx) eqx, .bool (sgnZ zqy), .slice Aqy (len (magZ zqy)) cqy, .slice Dqy (len dqy) eqy], .agg #[.bool (sgnZ zrx), .slice Arx (len (magZ zrx)) crx, .slice Drx (len drx) erx, .bool (sgnZ zry), .slice Ary (len (magZ zry)) cry, .slice Dry (len dry) ery]] w fun e w' => e = .returned (.int .i64 (sgnF (subF (mulF (subF (zqx, dqx) (zpx, dpx)) (subF (zry, dry) (zpy, dpy))) (mulF (subF (zqy, dqy) (zpy, dpy)) (subF (zrx, drx) (zpx, dpx)))))) ∧ Old w w' := by
  have Npx := Lib.hid npx
  have LNpx := norm_len npx
  have Lapx : len (magZ zpx) ≤ 24 := LNpx.1
  have Lbpx : len dpx ≤ 24 := LNpx.2
  clear npx LNpx
  have Npy := Lib.hid npy
  have LNpy := norm_len npy
  have Lapy : len (magZ zpy) ≤ 24 := LNpy.1
  have Lbpy : len dpy ≤ 24 := LNpy.2
  clear npy LNpy
  have Nqx := Lib.hid nqx
  have LNqx := norm_len nqx
  have Laqx : len (magZ zqx) ≤ 24 := LNqx.1
  have Lbqx : len dqx ≤ 24 := LNqx.2
  clear nqx LNqx
  have Nqy := Lib.hid nqy
  have LNqy := norm_len nqy
  have Laqy : len (magZ zqy) ≤ 24 := LNqy.1
  have Lbqy : len dqy ≤ 24 := LNqy.2
  clear nqy LNqy
  have Nrx := Lib.hid nrx
  have LNrx := norm_len nrx
  have Larx : len (magZ zrx) ≤ 24 := LNrx.1
  have Lbrx : len drx ≤ 24 := LNrx.2
  clear nrx LNrx
  have Nry := Lib.hid nry
  have LNry := norm_len nry
  have Lary : len (magZ zry) ≤ 24 := LNry.1
  have Lbry : len dry ≤ 24 := LNry.2
  clear nry LNry
  obtain ⟨z1, d1, hv1⟩ : ∃ z d, subF (zqx, dqx) (zpx, dpx) = ((z, d) : Fr) := ⟨(subF (zqx, dqx) (zpx, dpx)).1, (subF (zqx, dqx) (zpx, dpx)).2, rfl⟩
  have N1 : Hid (normF (z1, d1)) := Lib.hid (by rw [← hv1]; exact subF_norm _ _)
  have HV1 := Lib.hid hv1
  clear hv1
  obtain ⟨z2, d2, hv2⟩ : ∃ z d, subF (zry, dry) (zpy, dpy) = ((z, d) : Fr) := ⟨(subF (zry, dry) (zpy, dpy)).1, (subF (zry, dry) (zpy, dpy)).2, rfl⟩
  have N2 : Hid (normF (z2, d2)) := Lib.hid (by rw [← hv2]; exact subF_norm _ _)
  have HV2 := Lib.hid hv2
  clear hv2
  obtain ⟨z3, d3, hv3⟩ : ∃ z d, subF (zqy, dqy) (zpy, dpy) = ((z, d) : Fr) := ⟨(subF (zqy, dqy) (zpy, dpy)).1, (subF (zqy, dqy) (zpy, dpy)).2, rfl⟩
  have N3 : Hid (normF (z3, d3)) := Lib.hid (by rw [← hv3]; exact subF_norm _ _)
  have HV3 := Lib.hid hv3
  clear hv3
  obtain ⟨z4, d4, hv4⟩ : ∃ z d, subF (zrx, drx) (zpx, dpx) = ((z, d) : Fr) := ⟨(subF (zrx, drx) (zpx, dpx)).1, (subF (zrx, drx) (zpx, dpx)).2, rfl⟩
  have N4 : Hid (normF (z4, d4)) := Lib.hid (by rw [← hv4]; exact subF_norm _ _)
  have HV4 := Lib.hid hv4
  clear hv4
  obtain ⟨z5, d5, hv5⟩ : ∃ z d, mulF (z1, d1) (z2, d2) = ((z, d) : Fr) := ⟨(mulF (z1, d1) (z2, d2)).1, (mulF (z1, d1) (z2, d2)).2, rfl⟩
  have N5 : Hid (normF (z5, d5)) := Lib.hid (by rw [← hv5]; exact mulF_norm _ _)
  have HV5 := Lib.hid hv5
  clear hv5
  obtain ⟨z6, d6, hv6⟩ : ∃ z d, mulF (z3, d3) (z4, d4) = ((z, d) : Fr) := ⟨(mulF (z3, d3) (z4, d4)).1, (mulF (z3, d3) (z4, d4)).2, rfl⟩
  have N6 : Hid (normF (z6, d6)) := Lib.hid (by rw [← hv6]; exact mulF_norm _ _)
  have HV6 := Lib.hid hv6
  clear hv6
  obtain ⟨z7, d7, hv7⟩ : ∃ z d, subF (z5, d5) (z6, d6) = ((z, d) : Fr) := ⟨(subF (z5, d5) (z6, d6)).1, (subF (z5, d5) (z6, d6)).2, rfl⟩
  have N7 : Hid (normF (z7, d7)) := Lib.hid (by rw [← hv7]; exact subF_norm _ _)
  have HV7 := Lib.hid hv7
  clear hv7
  have HE : Hid (sgnF (subF (mulF (subF (zqx, dqx) (zpx, dpx)) (subF (zry, dry) (zpy, dpy))) (mulF (subF (zqy, dqy) (zpy, dpy)) (subF (zrx, drx) (zpx, dpx)))) = sgnF (z7, d7)) := Lib.hid (by rw [HV1.out, HV2.out, HV3.out, HV4.out, HV5.out, HV6.out, HV7.out])
  have O : Old w (((w.alloc (.cells #[.bool (sgnZ zpx), .slice Apx (len (magZ zpx)) cpx, .slice Dpx (len dpx) epx, .bool (sgnZ zpy), .slice Apy (len (magZ zpy)) cpy, .slice Dpy (len dpy) epy] 39)).alloc (.cells #[.bool (sgnZ zqx), .slice Aqx (len (magZ zqx)) cqx, .slice Dqx (len dqx) eqx, .bool (sgnZ zqy), .slice Aqy (len (magZ zqy)) cqy, .slice Dqy (len dqy) eqy] 39)).alloc (.cells #[.bool (sgnZ zrx), .slice Arx (len (magZ zrx)) crx, .slice Drx (len drx) erx, .bool (sgnZ zry), .slice Ary (len (magZ zry)) cry, .slice Dry (len dry) ery] 39)) := oldB
  have B_p : Bx (((w.alloc (.cells #[.bool (sgnZ zpx), .slice Apx (len (magZ zpx)) cpx, .slice Dpx (len dpx) epx, .bool (sgnZ zpy), .slice Apy (len (magZ zpy)) cpy, .slice Dpy (len dpy) epy] 39)).alloc (.cells #[.bool (sgnZ zqx), .slice Aqx (len (magZ zqx)) cqx, .slice Dqx (len dqx) eqx, .bool (sgnZ zqy), .slice Aqy (len (magZ zqy)) cqy, .slice Dqy (len dqy) eqy] 39)).alloc (.cells #[.bool (sgnZ zrx), .slice Arx (len (magZ zrx)) crx, .slice Drx (len drx) erx, .bool (sgnZ zry), .slice Ary (len (magZ zry)) cry, .slice Dry (len dry) ery] 39)) (w.heap.size) #[.bool (sgnZ zpx), .slice Apx (len (magZ zpx)) cpx, .slice Dpx (len dpx) epx, .bool (sgnZ zpy), .slice Apy (len (magZ zpy)) cpy, .slice Dpy (len dpy) epy] := by have h := (Bx.alloc (Bx.alloc (Bx.new w #[.bool (sgnZ zpx), .slice Apx (len (magZ zpx)) cpx, .slice Dpx (len dpx) epx, .bool (sgnZ zpy), .slice Apy (len (magZ zpy)) cpy, .slice Dpy (len dpy) epy] 39) (.cells #[.bool (sgnZ zqx), .slice Aqx (len (magZ zqx)) cqx, .slice Dqx (len dqx) eqx, .bool (sgnZ zqy), .slice Aqy (len (magZ zqy)) cqy, .slice Dqy (len dqy) eqy] 39)) (.cells #[.bool (sgnZ zrx), .slice Arx (len (magZ zrx)) crx, .slice Drx (len drx) erx, .bool (sgnZ zry), .slice Ary (len (magZ zry)) cry, .slice Dry (len dry) ery] 39)); simpa using h
  have B_q : Bx (((w.alloc (.cells #[.bool (sgnZ zpx), .slice Apx (len (magZ zpx)) cpx, .slice Dpx (len dpx) epx, .bool (sgnZ zpy), .slice Apy (len (magZ zpy)) cpy, .slice Dpy (len dpy) epy] 39)).alloc (.cells #[.bool (sgnZ zqx), .slice Aqx (len (magZ zqx)) cqx, .slice Dqx (len dqx) eqx, .bool (sgnZ zqy), .slice Aqy (len (magZ zqy)) cqy, .slice Dqy (len dqy) eqy] 39)).alloc (.cells #[.bool (sgnZ zrx), .slice Arx (len (magZ zrx)) crx, .slice Drx (len drx) erx, .bool (sgnZ zry), .slice Ary (len (magZ zry)) cry, .slice Dry (len dry) ery] 39)) (w.heap.size + 1) #[.bool (sgnZ zqx), .slice Aqx (len (magZ zqx)) cqx, .slice Dqx (len dqx) eqx, .bool (sgnZ zqy), .slice Aqy (len (magZ zqy)) cqy, .slice Dqy (len dqy) eqy] := by have h := (Bx.alloc (Bx.new (w.alloc (.cells #[.bool (sgnZ zpx), .slice Apx (len (magZ zpx)) cpx, .slice Dpx (len dpx) epx, .bool (sgnZ zpy), .slice Apy (len (magZ zpy)) cpy, .slice Dpy (len dpy) epy] 39)) #[.bool (sgnZ zqx), .slice Aqx (len (magZ zqx)) cqx, .slice Dqx (len dqx) eqx, .bool (sgnZ zqy), .slice Aqy (len (magZ zqy)) cqy, .slice Dqy (len dqy) eqy] 39) (.cells #[.bool (sgnZ zrx), .slice Arx (len (magZ zrx)) crx, .slice Drx (len drx) erx, .bool (sgnZ zry), .slice Ary (len (magZ zry)) cry, .slice Dry (len dry) ery] 39)); simpa using h
  have B_r : Bx (((w.alloc (.cells #[.bool (sgnZ zpx), .slice Apx (len (magZ zpx)) cpx, .slice Dpx (len dpx) epx, .bool (sgnZ zpy), .slice Apy (len (magZ zpy)) cpy, .slice Dpy (len dpy) epy] 39)).alloc (.cells #[.bool (sgnZ zqx), .slice Aqx (len (magZ zqx)) cqx, .slice Dqx (len dqx) eqx, .bool (sgnZ zqy), .slice Aqy (len (magZ zqy)) cqy, .slice Dqy (len dqy) eqy] 39)).alloc (.cells #[.bool (sgnZ zrx), .slice Arx (len (magZ zrx)) crx, .slice Drx (len drx) erx, .bool (sgnZ zry), .slice Ary (len (magZ zry)) cry, .slice Dry (len dry) ery] 39)) (w.heap.size + 1 + 1) #[.bool (sgnZ zrx), .slice Arx (len (magZ zrx)) crx, .slice Drx (len drx) erx, .bool (sgnZ zry), .slice Ary (len (magZ zry)) cry, .slice Dry (len dry) ery] := by have h := (Bx.new ((w.alloc (.cells #[.bool (sgnZ zpx), .slice Apx (len (magZ zpx)) cpx, .slice Dpx (len dpx) epx, .bool (sgnZ zpy), .slice Apy (len (magZ zpy)) cpy, .slice Dpy (len dpy) epy] 39)).alloc (.cells #[.bool (sgnZ zqx), .slice Aqx (len (magZ zqx)) cqx, .slice Dqx (len dqx) eqx, .bool (sgnZ zqy), .slice Aqy (len (magZ zqy)) cqy, .slice Dqy (len dqy) eqy] 39)) #[.bool (sgnZ zrx), .slice Arx (len (magZ zrx)) crx, .slice Drx (len drx) erx, .bool (sgnZ zry), .slice Ary (len (magZ zry)) cry, .slice Dry (len dry) ery] 39); simpa using h
  have ne_0_1 : ¬ (w.heap.size = w.heap.size + 1) := by omega
  have ne_0_2 : ¬ (w.heap.size = w.heap.size + 1 + 1) := by omega
  have ne_1_0 : ¬ (w.heap.size + 1 = w.heap.size) := by omega
  have ne_1_2 : ¬ (w.heap.size + 1 = w.heap.size + 1 + 1) := by omega
  have ne_2_0 : ¬ (w.heap.size + 1 + 1 = w.heap.size) := by omega
  have ne_2_1 : ¬ (w.heap.size + 1 + 1 = w.heap.size + 1) := by omega
  have ze : w.heap.size + 3 ≤ (((w.alloc (.cells #[.bool (sgnZ zpx), .slice Apx (len (magZ zpx)) cpx, .slice Dpx (len dpx) epx, .bool (sgnZ zpy), .slice Apy (len (magZ zpy)) cpy, .slice Dpy (len dpy) epy] 39)).alloc (.cells #[.bool (sgnZ zqx), .slice Aqx (len (magZ zqx)) cqx, .slice Dqx (len dqx) eqx, .bool (sgnZ zqy), .slice Aqy (len (magZ zqy)) cqy, .slice Dqy (len dqy) eqy] 39)).alloc (.cells #[.bool (sgnZ zrx), .slice Arx (len (magZ zrx)) crx, .slice Drx (len drx) erx, .bool (sgnZ zry), .slice Ary (len (magZ zry)) cry, .slice Dry (len dry) ery] 39)).heap.size := (by simp)
  go_enter Try.func122, Try.ntmps122
  go_upto_region 1 with fail
  obtain ⟨w0, hw0⟩ : ∃ x, x = (((w.alloc (.cells #[.bool (sgnZ zpx), .slice Apx (len (magZ zpx)) cpx, .slice Dpx (len dpx) epx, .bool (sgnZ zpy), .slice Apy (len (magZ zpy)) cpy, .slice Dpy (len dpy) epy] 39)).alloc (.cells #[.bool (sgnZ zqx), .slice Aqx (len (magZ zqx)) cqx, .slice Dqx (len dqx) eqx, .bool (sgnZ zqy), .slice Aqy (len (magZ zqy)) cqy, .slice Dqy (len dqy) eqy] 39)).alloc (.cells #[.bool (sgnZ zrx), .slice Arx (len (magZ zrx)) crx, .slice Drx (len drx) erx, .bool (sgnZ zry), .slice Ary (len (magZ zry)) cry, .slice Dry (len dry) ery] 39)) := ⟨_, rfl⟩
  rw [← hw0] at O ze B_p B_q B_r ⊢
  clear hw0
  obtain ⟨q_p_0, q_p_1, q_p_2, q_p_3, q_p_4, q_p_5, f_p_0, f_p_1, f_p_2, f_p_3, f_p_4, f_p_5, q_p⟩ := B_p.all6
  obtain ⟨q_q_0, q_q_1, q_q_2, q_q_3, q_q_4, q_q_5, f_q_0, f_q_1, f_q_2, f_q_3, f_q_4, f_q_5, q_q⟩ := B_q.all6
  obtain ⟨q_r_0, q_r_1, q_r_2, q_r_3, q_r_4, q_r_5, f_r_0, f_r_1, f_r_2, f_r_3, f_r_4, f_r_5, q_r⟩ := B_r.all6
  have ne_w0_p : ¬ (w0.heap.size = w.heap.size) := (by omega)
  have ne_w0_q : ¬ (w0.heap.size = w.heap.size + 1) := (by omega)
  have ne_w0_r : ¬ (w0.heap.size = w.heap.size + 1 + 1) := (by omega)
  have en_w0_p : ¬ (w.heap.size = w0.heap.size) := (by omega)
  have en_w0_q : ¬ (w.heap.size + 1 = w0.heap.size) := (by omega)
  have en_w0_r : ¬ (w.heap.size + 1 + 1 = w0.heap.size) := (by omega)
  go_cut [7] (fun sl wx => ∃ (g : Nat) (A5 D5 : Option Addr) (c5 e5 : Nat), sl = .pointer (some ⟨g, 0, none⟩) ∧ w0.heap.size ≤ g ∧ Bx wx g #[.bool (sgnZ z5), .slice A5 (len (magZ z5)) c5, .slice D5 (len d5) e5] ∧ Row wx w0.heap.size A5 (len (magZ z5)) c5 (digI (magZ z5)) ∧ Row wx w0.heap.size D5 (len d5) e5 (digI d5) ∧ Old w0 wx)
  case first =>
    have OP : Old w0 w0 := Old.refl _
    go_region_held3 (fun w' => w'.cell? ⟨w.heap.size, 0, none⟩ = some (.bool (sgnZ zpx)) ∧ w'.cell? ⟨w.heap.size, 1, none⟩ = some (.slice Apx (len (magZ zpx)) cpx) ∧ w'.cell? ⟨w.heap.size, 2, none⟩ = some (.slice Dpx (len dpx) epx) ∧ w'.cell? ⟨w.heap.size, 3, none⟩ = some (.bool (sgnZ zpy)) ∧ w'.cell? ⟨w.heap.size, 4, none⟩ = some (.slice Apy (len (magZ zpy)) cpy) ∧ w'.cell? ⟨w.heap.size, 5, none⟩ = some (.slice Dpy (len dpy) epy) ∧ w'.cell? ⟨w.heap.size + 1, 0, none⟩ = some (.bool (sgnZ zqx)) ∧ w'.cell? ⟨w.heap.size + 1, 1, none⟩ = some (.slice Aqx (len (magZ zqx)) cqx) ∧ w'.cell? ⟨w.heap.size + 1, 2, none⟩ = some (.slice Dqx (len dqx) eqx) ∧ w'.cell? ⟨w.heap.size + 1, 3, none⟩ = some (.bool (sgnZ zqy)) ∧ w'.cell? ⟨w.heap.size + 1, 4, none⟩ = some (.slice Aqy (len (magZ zqy)) cqy) ∧ w'.cell? ⟨w.heap.size + 1, 5, none⟩ = some (.slice Dqy (len dqy) eqy) ∧ w'.cell? ⟨w.heap.size + 1 + 1, 0, none⟩ = some (.bool (sgnZ zrx)) ∧ w'.cell? ⟨w.heap.size + 1 + 1, 1, none⟩ = some (.slice Arx (len (magZ zrx)) crx) ∧ w'.cell? ⟨w.heap.size + 1 + 1, 2, none⟩ = some (.slice Drx (len drx) erx) ∧ w'.cell? ⟨w.heap.size + 1 + 1, 3, none⟩ = some (.bool (sgnZ zry)) ∧ w'.cell? ⟨w.heap.size + 1 + 1, 4, none⟩ = some (.slice Ary (len (magZ zry)) cry) ∧ w'.cell? ⟨w.heap.size + 1 + 1, 5, none⟩ = some (.slice Dry (len dry) ery)) (go_keep)
      (first
       | (go_at_call 120; refine callsNamed ?_; intro p1 hp; clear q_p_0 q_p_1 q_p_2 q_p_3 q_p_4 q_p_5 f_p_0 f_p_1 f_p_2 f_p_3 f_p_4 f_p_5 q_p q_q_0 q_q_1 q_q_2 q_q_3 q_q_4 q_q_5 f_q_0 f_q_1 f_q_2 f_q_3 f_q_4 f_q_5 q_q q_r_0 q_r_1 q_r_2 q_r_3 q_r_4 q_r_5 f_r_0 f_r_1 f_r_2 f_r_3 f_r_4 f_r_5 q_r; have O' : Old w p1 := (by rw [hp]; exact Below.trans (b := w0) O oldB); replace B_p : Bx p1 (w.heap.size) #[.bool (sgnZ zpx), .slice Apx (len (magZ zpx)) cpx, .slice Dpx (len dpx) epx, .bool (sgnZ zpy), .slice Apy (len (magZ zpy)) cpy, .slice Dpy (len dpy) epy] := (bxK B_p hp); replace B_q : Bx p1 (w.heap.size + 1) #[.bool (sgnZ zqx), .slice Aqx (len (magZ zqx)) cqx, .slice Dqx (len dqx) eqx, .bool (sgnZ zqy), .slice Aqy (len (magZ zqy)) cqy, .slice Dqy (len dqy) eqy] := (bxK B_q hp); replace B_r : Bx p1 (w.heap.size + 1 + 1) #[.bool (sgnZ zrx), .slice Arx (len (magZ zrx)) crx, .slice Drx (len drx) erx, .bool (sgnZ zry), .slice Ary (len (magZ zry)) cry, .slice Dry (len dry) ery] := (bxK B_r hp); replace OP : Old w0 p1 := (by rw [hp]; exact Below.trans (b := w0) OP oldB); (first | (replace E := bxK E hp) | (have E : Bx p1 w0.heap.size #[.bool false, .slice none 0 0, .slice none 0 0] := (eNew hp); have nE_p : ¬ (w0.heap.size = w.heap.size) := (by omega); have eN_p : ¬ (w.heap.size = w0.heap.size) := (by omega); have nE_q : ¬ (w0.heap.size = w.heap.size + 1) := (by omega); have eN_q : ¬ (w.heap.size + 1 = w0.heap.size) := (by omega); have nE_r : ¬ (w0.heap.size = w.heap.size + 1 + 1) := (by omega); have eN_r : ¬ (w.heap.size + 1 + 1 = w0.heap.size) := (by omega); have ltE := Bx.lt E) | skip); have zp1 : w0.heap.size ≤ p1.heap.size := (by rw [hp]; exact leA); clear hp O; have O := O'; clear O'; (with_reducible refine (retZ_to HV1.out (ratSub_any zqx dqx Aqx Dqx cqx eqx lqx mqx zpx dpx Apx Dpx cpx epx lpx mpx _ (Row.below (B := w.heap.size) hqx O (Nat.le_refl _)) (Row.below (B := w.heap.size) kqx O (Nat.le_refl _)) Nqx.out (Row.below (B := w.heap.size) hpx O (Nat.le_refl _)) (Row.below (B := w.heap.size) kpx O (Nat.le_refl _)) Npx.out)).mono ?_); rintro e w1 ⟨⟨A1, c1, D1, e1, rfl, r1, s1, ap1⟩, o1⟩; replace B_p := Bx.old B_p o1; replace B_q := Bx.old B_q o1; replace B_r := Bx.old B_r o1; replace O := Old.trans O o1; replace OP := Old.trans OP o1; (first | (replace E := Bx.old E o1) | skip); have zw1 := o1.size; replace r1 := Row.more (lo' := p1.heap.size) r1 leA; replace s1 := Row.more (lo' := p1.heap.size) s1 leA; have lim_r1 := Row.lim r1; have lim_s1 := Row.lim s1; have AP1 := Lib.hid ap1; clear ap1; obtain ⟨q_p_0, q_p_1, q_p_2, q_p_3, q_p_4, q_p_5, f_p_0, f_p_1, f_p_2, f_p_3, f_p_4, f_p_5, q_p⟩ := B_p.all6; obtain ⟨q_q_0, q_q_1, q_q_2, q_q_3, q_q_4, q_q_5, f_q_0, f_q_1, f_q_2, f_q_3, f_q_4, f_q_5, q_q⟩ := B_q.all6; obtain ⟨q_r_0, q_r_1, q_r_2, q_r_3, q_r_4, q_r_5, f_r_0, f_r_1, f_r_2, f_r_3, f_r_4, f_r_5, q_r⟩ := B_r.all6; have ne_w1_p : ¬ (w1.heap.size = w.heap.size) := (by omega); have ne_w1_q : ¬ (w1.heap.size = w.heap.size + 1) := (by omega); have ne_w1_r : ¬ (w1.heap.size = w.heap.size + 1 + 1) := (by omega); have en_w1_p : ¬ (w.heap.size = w1.heap.size) := (by omega); have en_w1_q : ¬ (w.heap.size + 1 = w1.heap.size) := (by omega); have en_w1_r : ¬ (w.heap.size + 1 + 1 = w1.heap.size) := (by omega); (first | (have qE0 := E.cell 0 rfl; have qE1 := E.cell 1 rfl; have qE2 := E.cell 2 rfl; have fE0 := E.frozen 0; have fE1 := E.frozen 1; have fE2 := E.frozen 2; have qE := E.lt) | skip))
       | (go_at_call 120; (first | (clear qE0 qE1 qE2 fE0 fE1 fE2 qE) | skip); refine callsNamed ?_; intro p2 hp; clear q_p_0 q_p_1 q_p_2 q_p_3 q_p_4 q_p_5 f_p_0 f_p_1 f_p_2 f_p_3 f_p_4 f_p_5 q_p q_q_0 q_q_1 q_q_2 q_q_3 q_q_4 q_q_5 f_q_0 f_q_1 f_q_2 f_q_3 f_q_4 f_q_5 q_q q_r_0 q_r_1 q_r_2 q_r_3 q_r_4 q_r_5 f_r_0 f_r_1 f_r_2 f_r_3 f_r_4 f_r_5 q_r; have O' : Old w p2 := (by rw [hp]; exact Below.trans (b := w1) O oldB); replace B_p : Bx p2 (w.heap.size) #[.bool (sgnZ zpx), .slice Apx (len (magZ zpx)) cpx, .slice Dpx (len dpx) epx, .bool (sgnZ zpy), .slice Apy (len (magZ zpy)) cpy, .slice Dpy (len dpy) epy] := (bxK B_p hp); replace B_q : Bx p2 (w.heap.size + 1) #[.bool (sgnZ zqx), .slice Aqx (len (magZ zqx)) cqx, .slice Dqx (len dqx) eqx, .bool (sgnZ zqy), .slice Aqy (len (magZ zqy)) cqy, .slice Dqy (len dqy) eqy] := (bxK B_q hp); replace B_r : Bx p2 (w.heap.size + 1 + 1) #[.bool (sgnZ zrx), .slice Arx (len (magZ zrx)) crx, .slice Drx (len drx) erx, .bool (sgnZ zry), .slice Ary (len (magZ zry)) cry, .slice Dry (len dry) ery] := (bxK B_r hp); replace r1 := rowK r1 hp; replace s1 := rowK s1 hp; replace OP : Old w0 p2 := (by rw [hp]; exact Below.trans (b := w1) OP oldB); (first | (replace E := bxK E hp) | (have E : Bx p2 w1.heap.size #[.bool false, .slice none 0 0, .slice none 0 0] := (eNew hp); have nE_p : ¬ (w1.heap.size = w.heap.size) := (by omega); have eN_p : ¬ (w.heap.size = w1.heap.size) := (by omega); have nE_q : ¬ (w1.heap.size = w.heap.size + 1) := (by omega); have eN_q : ¬ (w.heap.size + 1 = w1.heap.size) := (by omega); have nE_r : ¬ (w1.heap.size = w.heap.size + 1 + 1) := (by omega); have eN_r : ¬ (w.heap.size + 1 + 1 = w1.heap.size) := (by omega); have ltE := Bx.lt E) | skip); have zp2 : w1.heap.size ≤ p2.heap.size := (by rw [hp]; exact leA); clear hp O; have O := O'; clear O'; (with_reducible refine (retZ_to HV2.out (ratSub_any zry dry Ary Dry cry ery lry mry zpy dpy Apy Dpy cpy epy lpy mpy _ (Row.below (B := w.heap.size) hry O (Nat.le_refl _)) (Row.below (B := w.heap.size) kry O (Nat.le_refl _)) Nry.out (Row.below (B := w.heap.size) hpy O (Nat.le_refl _)) (Row.below (B := w.heap.size) kpy O (Nat.le_refl _)) Npy.out)).mono ?_); rintro e w2 ⟨⟨A2, c2, D2, e2, rfl, r2, s2, ap2⟩, o2⟩; replace B_p := Bx.old B_p o2; replace B_q := Bx.old B_q o2; replace B_r := Bx.old B_r o2; replace r1 := Row.below r1 o2 (Nat.le_refl _); replace s1 := Row.below s1 o2 (Nat.le_refl _); replace O := Old.trans O o2; replace OP := Old.trans OP o2; (first | (replace E := Bx.old E o2) | skip); have zw2 := o2.size; replace r2 := Row.more (lo' := p2.heap.size) r2 leA; replace s2 := Row.more (lo' := p2.heap.size) s2 leA; have lim_r2 := Row.lim r2; have lim_s2 := Row.lim s2; have AP2 := Lib.hid ap2; clear ap2; obtain ⟨q_p_0, q_p_1, q_p_2, q_p_3, q_p_4, q_p_5, f_p_0, f_p_1, f_p_2, f_p_3, f_p_4, f_p_5, q_p⟩ := B_p.all6; obtain ⟨q_q_0, q_q_1, q_q_2, q_q_3, q_q_4, q_q_5, f_q_0, f_q_1, f_q_2, f_q_3, f_q_4, f_q_5, q_q⟩ := B_q.all6; obtain ⟨q_r_0, q_r_1, q_r_2, q_r_3, q_r_4, q_r_5, f_r_0, f_r_1, f_r_2, f_r_3, f_r_4, f_r_5, q_r⟩ := B_r.all6; have ne_w2_p : ¬ (w2.heap.size = w.heap.size) := (by omega); have ne_w2_q : ¬ (w2.heap.size = w.heap.size + 1) := (by omega); have ne_w2_r : ¬ (w2.heap.size = w.heap.size + 1 + 1) := (by omega); have en_w2_p : ¬ (w.heap.size = w2.heap.size) := (by omega); have en_w2_q : ¬ (w.heap.size + 1 = w2.heap.size) := (by omega); have en_w2_r : ¬ (w.heap.size + 1 + 1 = w2.heap.size) := (by omega); (first | (have qE0 := E.cell 0 rfl; have qE1 := E.cell 1 rfl; have qE2 := E.cell 2 rfl; have fE0 := E.frozen 0; have fE1 := E.frozen 1; have fE2 := E.frozen 2; have qE := E.lt) | skip))
       | (go_at_call 114; (first | (clear qE0 qE1 qE2 fE0 fE1 fE2 qE) | skip); refine callsNamed ?_; intro p3 hp; clear q_p_0 q_p_1 q_p_2 q_p_3 q_p_4 q_p_5 f_p_0 f_p_1 f_p_2 f_p_3 f_p_4 f_p_5 q_p q_q_0 q_q_1 q_q_2 q_q_3 q_q_4 q_q_5 f_q_0 f_q_1 f_q_2 f_q_3 f_q_4 f_q_5 q_q q_r_0 q_r_1 q_r_2 q_r_3 q_r_4 q_r_5 f_r_0 f_r_1 f_r_2 f_r_3 f_r_4 f_r_5 q_r; have O' : Old w p3 := (by rw [hp]; exact Below.trans (b := w2) O oldB); replace B_p : Bx p3 (w.heap.size) #[.bool (sgnZ zpx), .slice Apx (len (magZ zpx)) cpx, .slice Dpx (len dpx) epx, .bool (sgnZ zpy), .slice Apy (len (magZ zpy)) cpy, .slice Dpy (len dpy) epy] := (bxK B_p hp); replace B_q : Bx p3 (w.heap.size + 1) #[.bool (sgnZ zqx), .slice Aqx (len (magZ zqx)) cqx, .slice Dqx (len dqx) eqx, .bool (sgnZ zqy), .slice Aqy (len (magZ zqy)) cqy, .slice Dqy (len dqy) eqy] := (bxK B_q hp); replace B_r : Bx p3 (w.heap.size + 1 + 1) #[.bool (sgnZ zrx), .slice Arx (len (magZ zrx)) crx, .slice Drx (len drx) erx, .bool (sgnZ zry), .slice Ary (len (magZ zry)) cry, .slice Dry (len dry) ery] := (bxK B_r hp); replace r1 := rowK r1 hp; replace s1 := rowK s1 hp; replace r2 := rowK r2 hp; replace s2 := rowK s2 hp; replace OP : Old w0 p3 := (by rw [hp]; exact Below.trans (b := w2) OP oldB); (first | (replace E := bxK E hp) | (have E : Bx p3 w2.heap.size #[.bool false, .slice none 0 0, .slice none 0 0] := (eNew hp); have nE_p : ¬ (w2.heap.size = w.heap.size) := (by omega); have eN_p : ¬ (w.heap.size = w2.heap.size) := (by omega); have nE_q : ¬ (w2.heap.size = w.heap.size + 1) := (by omega); have eN_q : ¬ (w.heap.size + 1 = w2.heap.size) := (by omega); have nE_r : ¬ (w2.heap.size = w.heap.size + 1 + 1) := (by omega); have eN_r : ¬ (w.heap.size + 1 + 1 = w2.heap.size) := (by omega); have ltE := Bx.lt E) | skip); have zp3 : w2.heap.size ≤ p3.heap.size := (by rw [hp]; exact leA); clear hp O; have O := O'; clear O'; refine (retZ_to HV5.out (ratMul_any z1 d1 A1 D1 c1 e1 _ _ z2 d2 A2 D2 c2 e2 _ _ _ r1 s1 N1.out r2 s2 N2.out)).mono ?_; rintro e w3 ⟨⟨A5, c5, D5, e5, rfl, r5, s5, ap5⟩, o3⟩; replace B_p := Bx.old B_p o3; replace B_q := Bx.old B_q o3; replace B_r := Bx.old B_r o3; replace r1 := Row.below r1 o3 (Nat.le_refl _); replace s1 := Row.below s1 o3 (Nat.le_refl _); replace r2 := Row.below r2 o3 (Nat.le_refl _); replace s2 := Row.below s2 o3 (Nat.le_refl _); replace O := Old.trans O o3; replace OP := Old.trans OP o3; (first | (replace E := Bx.old E o3) | skip); have zw3 := o3.size; replace r5 := Row.more (lo' := p3.heap.size) r5 leA; replace s5 := Row.more (lo' := p3.heap.size) s5 leA; have lim_r5 := Row.lim r5; have lim_s5 := Row.lim s5; have AP5 := Lib.hid ap5; clear ap5; obtain ⟨q_p_0, q_p_1, q_p_2, q_p_3, q_p_4, q_p_5, f_p_0, f_p_1, f_p_2, f_p_3, f_p_4, f_p_5, q_p⟩ := B_p.all6; obtain ⟨q_q_0, q_q_1, q_q_2, q_q_3, q_q_4, q_q_5, f_q_0, f_q_1, f_q_2, f_q_3, f_q_4, f_q_5, q_q⟩ := B_q.all6; obtain ⟨q_r_0, q_r_1, q_r_2, q_r_3, q_r_4, q_r_5, f_r_0, f_r_1, f_r_2, f_r_3, f_r_4, f_r_5, q_r⟩ := B_r.all6; have ne_w3_p : ¬ (w3.heap.size = w.heap.size) := (by omega); have ne_w3_q : ¬ (w3.heap.size = w.heap.size + 1) := (by omega); have ne_w3_r : ¬ (w3.heap.size = w.heap.size + 1 + 1) := (by omega); have en_w3_p : ¬ (w.heap.size = w3.heap.size) := (by omega); have en_w3_q : ¬ (w.heap.size + 1 = w3.heap.size) := (by omega); have en_w3_r : ¬ (w.heap.size + 1 + 1 = w3.heap.size) := (by omega); (first | (have qE0 := E.cell 0 rfl; have qE1 := E.cell 1 rfl; have qE2 := E.cell 2 rfl; have fE0 := E.frozen 0; have fE1 := E.frozen 1; have fE2 := E.frozen 2; have qE := E.lt) | skip)))
    all_goals (go_wp2_with fail; go_meet; exact ⟨_, A5, D5, c5, e5, rfl, leA, (by first | exact Bx.new _ _ _ | exact Bx.put3 E _ _ _ | exact Bx.put3 (Bx.new _ _ _) _ _ _ | exact Bx.put3 (Bx.drew (Bx.new _ _ _)) _ _ _), (by refine Row.more (lo := p3.heap.size) ?_ leA; first | exact (Row.far_set (Row.far_set (Row.far_set r5 (by first | (simp <;> done) | (simp; omega) | omega) _) (by first | (simp <;> done) | (simp; omega) | omega) _) (by first | (simp <;> done) | (simp; omega) | omega) _) | exact Row.below (B := w3.heap.size) r5 oldB (Nat.le_refl _)), (by refine Row.more (lo := p3.heap.size) ?_ leA; first | exact (Row.far_set (Row.far_set (Row.far_set s5 (by first | (simp <;> done) | (simp; omega) | omega) _) (by first | (simp <;> done) | (simp; omega) | omega) _) (by first | (simp <;> done) | (simp; omega) | omega) _) | exact Row.below (B := w3.heap.size) s5 oldB (Nat.le_refl _)), Below.trans (b := w3) OP oldB⟩)
  case rest =>
  obtain ⟨g_f5, A5, D5, c5, e5, rfl, hg_f5, B_f5, r5, s5, o4⟩ := hcut
  obtain ⟨w4, hw⟩ : ∃ x, x = wc := ⟨_, rfl⟩
  subst hw
  clear q_p_0 q_p_1 q_p_2 q_p_3 q_p_4 q_p_5 f_p_0 f_p_1 f_p_2 f_p_3 f_p_4 f_p_5 q_p q_q_0 q_q_1 q_q_2 q_q_3 q_q_4 q_q_5 f_q_0 f_q_1 f_q_2 f_q_3 f_q_4 f_q_5 q_q q_r_0 q_r_1 q_r_2 q_r_3 q_r_4 q_r_5 f_r_0 f_r_1 f_r_2 f_r_3 f_r_4 f_r_5 q_r
  clear ne_w0_p en_w0_p ne_w0_q en_w0_q ne_w0_r en_w0_r
  replace B_p := Bx.old B_p o4
  replace B_q := Bx.old B_q o4
  replace B_r := Bx.old B_r o4
  replace O := Old.trans O o4
  have zw4 := o4.size
  have lt_f5 := B_f5.lt
  have ne_f5_p : ¬ (g_f5 = w.heap.size) := by omega
  have en_f5_p : ¬ (w.heap.size = g_f5) := by omega
  have ne_f5_q : ¬ (g_f5 = w.heap.size + 1) := by omega
  have en_f5_q : ¬ (w.heap.size + 1 = g_f5) := by omega
  have ne_f5_r : ¬ (g_f5 = w.heap.size + 1 + 1) := by omega
  have en_f5_r : ¬ (w.heap.size + 1 + 1 = g_f5) := by omega
  have lim_r5 := Row.lim r5
  have lim_s5 := Row.lim s5
  obtain ⟨q_p_0, q_p_1, q_p_2, q_p_3, q_p_4, q_p_5, f_p_0, f_p_1, f_p_2, f_p_3, f_p_4, f_p_5, q_p⟩ := B_p.all6
  obtain ⟨q_q_0, q_q_1, q_q_2, q_q_3, q_q_4, q_q_5, f_q_0, f_q_1, f_q_2, f_q_3, f_q_4, f_q_5, q_q⟩ := B_q.all6
  obtain ⟨q_r_0, q_r_1, q_r_2, q_r_3, q_r_4, q_r_5, f_r_0, f_r_1, f_r_2, f_r_3, f_r_4, f_r_5, q_r⟩ := B_r.all6
  obtain ⟨q_f5_0, q_f5_1, q_f5_2, f_f5_0, f_f5_1, f_f5_2, q_f5⟩ := B_f5.all3
  have ne_w4_p : ¬ (w4.heap.size = w.heap.size) := (by omega)
  have ne_w4_q : ¬ (w4.heap.size = w.heap.size + 1) := (by omega)
  have ne_w4_r : ¬ (w4.heap.size = w.heap.size + 1 + 1) := (by omega)
  have ne_w4_f5 : ¬ (w4.heap.size = g_f5) := (by omega)
  have en_w4_p : ¬ (w.heap.size = w4.heap.size) := (by omega)
  have en_w4_q : ¬ (w.heap.size + 1 = w4.heap.size) := (by omega)
  have en_w4_r : ¬ (w.heap.size + 1 + 1 = w4.heap.size) := (by omega)
  have en_w4_f5 : ¬ (g_f5 = w4.heap.size) := (by omega)
  go_upto_region 2 with fail
  go_cut [8] (fun sl wx => ∃ (g : Nat) (A6 D6 : Option Addr) (c6 e6 : Nat), sl = .pointer (some ⟨g, 0, none⟩) ∧ w4.heap.size ≤ g ∧ Bx wx g #[.bool (sgnZ z6), .slice A6 (len (magZ z6)) c6, .slice D6 (len d6) e6] ∧ Row wx w4.heap.size A6 (len (magZ z6)) c6 (digI (magZ z6)) ∧ Row wx w4.heap.size D6 (len d6) e6 (digI d6) ∧ Old w4 wx)
  case first =>
    have OP : Old w4 w4 := Old.refl _
    go_region_held3 (fun w' => w'.cell? ⟨w.heap.size, 0, none⟩ = some (.bool (sgnZ zpx)) ∧ w'.cell? ⟨w.heap.size, 1, none⟩ = some (.slice Apx (len (magZ zpx)) cpx) ∧ w'.cell? ⟨w.heap.size, 2, none⟩ = some (.slice Dpx (len dpx) epx) ∧ w'.cell? ⟨w.heap.size, 3, none⟩ = some (.bool (sgnZ zpy)) ∧ w'.cell? ⟨w.heap.size, 4, none⟩ = some (.slice Apy (len (magZ zpy)) cpy) ∧ w'.cell? ⟨w.heap.size, 5, none⟩ = some (.slice Dpy (len dpy) epy) ∧ w'.cell? ⟨w.heap.size + 1, 0, none⟩ = some (.bool (sgnZ zqx)) ∧ w'.cell? ⟨w.heap.size + 1, 1, none⟩ = some (.slice Aqx (len (magZ zqx)) cqx) ∧ w'.cell? ⟨w.heap.size + 1, 2, none⟩ = some (.slice Dqx (len dqx) eqx) ∧ w'.cell? ⟨w.heap.size + 1, 3, none⟩ = some (.bool (sgnZ zqy)) ∧ w'.cell? ⟨w.heap.size + 1, 4, none⟩ = some (.slice Aqy (len (magZ zqy)) cqy) ∧ w'.cell? ⟨w.heap.size + 1, 5, none⟩ = some (.slice Dqy (len dqy) eqy) ∧ w'.cell? ⟨w.heap.size + 1 + 1, 0, none⟩ = some (.bool (sgnZ zrx)) ∧ w'.cell? ⟨w.heap.size + 1 + 1, 1, none⟩ = some (.slice Arx (len (magZ zrx)) crx) ∧ w'.cell? ⟨w.heap.size + 1 + 1, 2, none⟩ = some (.slice Drx (len drx) erx) ∧ w'.cell? ⟨w.heap.size + 1 + 1, 3, none⟩ = some (.bool (sgnZ zry)) ∧ w'.cell? ⟨w.heap.size + 1 + 1, 4, none⟩ = some (.slice Ary (len (magZ zry)) cry) ∧ w'.cell? ⟨w.heap.size + 1 + 1, 5, none⟩ = some (.slice Dry (len dry) ery) ∧ w'.cell? ⟨g_f5, 0, none⟩ = some (.bool (sgnZ z5)) ∧ w'.cell? ⟨g_f5, 1, none⟩ = some (.slice A5 (len (magZ z5)) c5) ∧ w'.cell? ⟨g_f5, 2, none⟩ = some (.slice D5 (len d5) e5)) (go_keep)
      (first
       | (go_at_call 120; refine callsNamed ?_; intro p5 hp; clear q_p_0 q_p_1 q_p_2 q_p_3 q_p_4 q_p_5 f_p_0 f_p_1 f_p_2 f_p_3 f_p_4 f_p_5 q_p q_q_0 q_q_1 q_q_2 q_q_3 q_q_4 q_q_5 f_q_0 f_q_1 f_q_2 f_q_3 f_q_4 f_q_5 q_q q_r_0 q_r_1 q_r_2 q_r_3 q_r_4 q_r_5 f_r_0 f_r_1 f_r_2 f_r_3 f_r_4 f_r_5 q_r q_f5_0 q_f5_1 q_f5_2 f_f5_0 f_f5_1 f_f5_2 q_f5; have O' : Old w p5 := (by rw [hp]; exact Below.trans (b := w4) O oldB); replace B_p : Bx p5 (w.heap.size) #[.bool (sgnZ zpx), .slice Apx (len (magZ zpx)) cpx, .slice Dpx (len dpx) epx, .bool (sgnZ zpy), .slice Apy (len (magZ zpy)) cpy, .slice Dpy (len dpy) epy] := (bxK B_p hp); replace B_q : Bx p5 (w.heap.size + 1) #[.bool (sgnZ zqx), .slice Aqx (len (magZ zqx)) cqx, .slice Dqx (len dqx) eqx, .bool (sgnZ zqy), .slice Aqy (len (magZ zqy)) cqy, .slice Dqy (len dqy) eqy] := (bxK B_q hp); replace B_r : Bx p5 (w.heap.size + 1 + 1) #[.bool (sgnZ zrx), .slice Arx (len (magZ zrx)) crx, .slice Drx (len drx) erx, .bool (sgnZ zry), .slice Ary (len (magZ zry)) cry, .slice Dry (len dry) ery] := (bxK B_r hp); replace B_f5 : Bx p5 (g_f5) #[.bool (sgnZ z5), .slice A5 (len (magZ z5)) c5, .slice D5 (len d5) e5] := (bxK B_f5 hp); replace r5 := rowK r5 hp; replace s5 := rowK s5 hp; replace OP : Old w4 p5 := (by rw [hp]; exact Below.trans (b := w4) OP oldB); (first | (replace E := bxK E hp) | (have E : Bx p5 w4.heap.size #[.bool false, .slice none 0 0, .slice none 0 0] := (eNew hp); have nE_p : ¬ (w4.heap.size = w.heap.size) := (by omega); have eN_p : ¬ (w.heap.size = w4.heap.size) := (by omega); have nE_q : ¬ (w4.heap.size = w.heap.size + 1) := (by omega); have eN_q : ¬ (w.heap.size + 1 = w4.heap.size) := (by omega); have nE_r : ¬ (w4.heap.size = w.heap.size + 1 + 1) := (by omega); have eN_r : ¬ (w.heap.size + 1 + 1 = w4.heap.size) := (by omega); have nE_f5 : ¬ (w4.heap.size = g_f5) := (by omega); have eN_f5 : ¬ (g_f5 = w4.heap.size) := (by omega); have ltE := Bx.lt E) | skip); have zp5 : w4.heap.size ≤ p5.heap.size := (by rw [hp]; exact leA); clear hp O; have O := O'; clear O'; (with_reducible refine (retZ_to HV3.out (ratSub_any zqy dqy Aqy Dqy cqy eqy lqy mqy zpy dpy Apy Dpy cpy epy lpy mpy _ (Row.below (B := w.heap.size) hqy O (Nat.le_refl _)) (Row.below (B := w.heap.size) kqy O (Nat.le_refl _)) Nqy.out (Row.below (B := w.heap.size) hpy O (Nat.le_refl _)) (Row.below (B := w.heap.size) kpy O (Nat.le_refl _)) Npy.out)).mono ?_); rintro e w5 ⟨⟨A3, c3, D3, e3, rfl, r3, s3, ap3⟩, o5⟩; replace B_p := Bx.old B_p o5; replace B_q := Bx.old B_q o5; replace B_r := Bx.old B_r o5; replace B_f5 := Bx.old B_f5 o5; replace r5 := Row.below r5 o5 (Nat.le_refl _); replace s5 := Row.below s5 o5 (Nat.le_refl _); replace O := Old.trans O o5; replace OP := Old.trans OP o5; (first | (replace E := Bx.old E o5) | skip); have zw5 := o5.size; replace r3 := Row.more (lo' := p5.heap.size) r3 leA; replace s3 := Row.more (lo' := p5.heap.size) s3 leA; have lim_r3 := Row.lim r3; have lim_s3 := Row.lim s3; have AP3 := Lib.hid ap3; clear ap3; obtain ⟨q_p_0, q_p_1, q_p_2, q_p_3, q_p_4, q_p_5, f_p_0, f_p_1, f_p_2, f_p_3, f_p_4, f_p_5, q_p⟩ := B_p.all6; obtain ⟨q_q_0, q_q_1, q_q_2, q_q_3, q_q_4, q_q_5, f_q_0, f_q_1, f_q_2, f_q_3, f_q_4, f_q_5, q_q⟩ := B_q.all6; obtain ⟨q_r_0, q_r_1, q_r_2, q_r_3, q_r_4, q_r_5, f_r_0, f_r_1, f_r_2, f_r_3, f_r_4, f_r_5, q_r⟩ := B_r.all6; obtain ⟨q_f5_0, q_f5_1, q_f5_2, f_f5_0, f_f5_1, f_f5_2, q_f5⟩ := B_f5.all3; have ne_w5_p : ¬ (w5.heap.size = w.heap.size) := (by omega); have ne_w5_q : ¬ (w5.heap.size = w.heap.size + 1) := (by omega); have ne_w5_r : ¬ (w5.heap.size = w.heap.size + 1 + 1) := (by omega); have ne_w5_f5 : ¬ (w5.heap.size = g_f5) := (by omega); have en_w5_p : ¬ (w.heap.size = w5.heap.size) := (by omega); have en_w5_q : ¬ (w.heap.size + 1 = w5.heap.size) := (by omega); have en_w5_r : ¬ (w.heap.size + 1 + 1 = w5.heap.size) := (by omega); have en_w5_f5 : ¬ (g_f5 = w5.heap.size) := (by omega); (first | (have qE0 := E.cell 0 rfl; have qE1 := E.cell 1 rfl; have qE2 := E.cell 2 rfl; have fE0 := E.frozen 0; have fE1 := E.frozen 1; have fE2 := E.frozen 2; have qE := E.lt) | skip))
       | (go_at_call 120; (first | (clear qE0 qE1 qE2 fE0 fE1 fE2 qE) | skip); refine callsNamed ?_; intro p6 hp; clear q_p_0 q_p_1 q_p_2 q_p_3 q_p_4 q_p_5 f_p_0 f_p_1 f_p_2 f_p_3 f_p_4 f_p_5 q_p q_q_0 q_q_1 q_q_2 q_q_3 q_q_4 q_q_5 f_q_0 f_q_1 f_q_2 f_q_3 f_q_4 f_q_5 q_q q_r_0 q_r_1 q_r_2 q_r_3 q_r_4 q_r_5 f_r_0 f_r_1 f_r_2 f_r_3 f_r_4 f_r_5 q_r q_f5_0 q_f5_1 q_f5_2 f_f5_0 f_f5_1 f_f5_2 q_f5; have O' : Old w p6 := (by rw [hp]; exact Below.trans (b := w5) O oldB); replace B_p : Bx p6 (w.heap.size) #[.bool (sgnZ zpx), .slice Apx (len (magZ zpx)) cpx, .slice Dpx (len dpx) epx, .bool (sgnZ zpy), .slice Apy (len (magZ zpy)) cpy, .slice Dpy (len dpy) epy] := (bxK B_p hp); replace B_q : Bx p6 (w.heap.size + 1) #[.bool (sgnZ zqx), .slice Aqx (len (magZ zqx)) cqx, .slice Dqx (len dqx) eqx, .bool (sgnZ zqy), .slice Aqy (len (magZ zqy)) cqy, .slice Dqy (len dqy) eqy] := (bxK B_q hp); replace B_r : Bx p6 (w.heap.size + 1 + 1) #[.bool (sgnZ zrx), .slice Arx (len (magZ zrx)) crx, .slice Drx (len drx) erx, .bool (sgnZ zry), .slice Ary (len (magZ zry)) cry, .slice Dry (len dry) ery] := (bxK B_r hp); replace B_f5 : Bx p6 (g_f5) #[.bool (sgnZ z5), .slice A5 (len (magZ z5)) c5, .slice D5 (len d5) e5] := (bxK B_f5 hp); replace r5 := rowK r5 hp; replace s5 := rowK s5 hp; replace r3 := rowK r3 hp; replace s3 := rowK s3 hp; replace OP : Old w4 p6 := (by rw [hp]; exact Below.trans (b := w5) OP oldB); (first | (replace E := bxK E hp) | (have E : Bx p6 w5.heap.size #[.bool false, .slice none 0 0, .slice none 0 0] := (eNew hp); have nE_p : ¬ (w5.heap.size = w.heap.size) := (by omega); have eN_p : ¬ (w.heap.size = w5.heap.size) := (by omega); have nE_q : ¬ (w5.heap.size = w.heap.size + 1) := (by omega); have eN_q : ¬ (w.heap.size + 1 = w5.heap.size) := (by omega); have nE_r : ¬ (w5.heap.size = w.heap.size + 1 + 1) := (by omega); have eN_r : ¬ (w.heap.size + 1 + 1 = w5.heap.size) := (by omega); have nE_f5 : ¬ (w5.heap.size = g_f5) := (by omega); have eN_f5 : ¬ (g_f5 = w5.heap.size) := (by omega); have ltE := Bx.lt E) | skip); have zp6 : w5.heap.size ≤ p6.heap.size := (by rw [hp]; exact leA); clear hp O; have O := O'; clear O'; (with_reducible refine (retZ_to HV4.out (ratSub_any zrx drx Arx Drx crx erx lrx mrx zpx dpx Apx Dpx cpx epx lpx mpx _ (Row.below (B := w.heap.size) hrx O (Nat.le_refl _)) (Row.below (B := w.heap.size) krx O (Nat.le_refl _)) Nrx.out (Row.below (B := w.heap.size) hpx O (Nat.le_refl _)) (Row.below (B := w.heap.size) kpx O (Nat.le_refl _)) Npx.out)).mono ?_); rintro e w6 ⟨⟨A4, c4, D4, e4, rfl, r4, s4, ap4⟩, o6⟩; replace B_p := Bx.old B_p o6; replace B_q := Bx.old B_q o6; replace B_r := Bx.old B_r o6; replace B_f5 := Bx.old B_f5 o6; replace r5 := Row.below r5 o6 (Nat.le_refl _); replace s5 := Row.below s5 o6 (Nat.le_refl _); replace r3 := Row.below r3 o6 (Nat.le_refl _); replace s3 := Row.below s3 o6 (Nat.le_refl _); replace O := Old.trans O o6; replace OP := Old.trans OP o6; (first | (replace E := Bx.old E o6) | skip); have zw6 := o6.size; replace r4 := Row.more (lo' := p6.heap.size) r4 leA; replace s4 := Row.more (lo' := p6.heap.size) s4 leA; have lim_r4 := Row.lim r4; have lim_s4 := Row.lim s4; have AP4 := Lib.hid ap4; clear ap4; obtain ⟨q_p_0, q_p_1, q_p_2, q_p_3, q_p_4, q_p_5, f_p_0, f_p_1, f_p_2, f_p_3, f_p_4, f_p_5, q_p⟩ := B_p.all6; obtain ⟨q_q_0, q_q_1, q_q_2, q_q_3, q_q_4, q_q_5, f_q_0, f_q_1, f_q_2, f_q_3, f_q_4, f_q_5, q_q⟩ := B_q.all6; obtain ⟨q_r_0, q_r_1, q_r_2, q_r_3, q_r_4, q_r_5, f_r_0, f_r_1, f_r_2, f_r_3, f_r_4, f_r_5, q_r⟩ := B_r.all6; obtain ⟨q_f5_0, q_f5_1, q_f5_2, f_f5_0, f_f5_1, f_f5_2, q_f5⟩ := B_f5.all3; have ne_w6_p : ¬ (w6.heap.size = w.heap.size) := (by omega); have ne_w6_q : ¬ (w6.heap.size = w.heap.size + 1) := (by omega); have ne_w6_r : ¬ (w6.heap.size = w.heap.size + 1 + 1) := (by omega); have ne_w6_f5 : ¬ (w6.heap.size = g_f5) := (by omega); have en_w6_p : ¬ (w.heap.size = w6.heap.size) := (by omega); have en_w6_q : ¬ (w.heap.size + 1 = w6.heap.size) := (by omega); have en_w6_r : ¬ (w.heap.size + 1 + 1 = w6.heap.size) := (by omega); have en_w6_f5 : ¬ (g_f5 = w6.heap.size) := (by omega); (first | (have qE0 := E.cell 0 rfl; have qE1 := E.cell 1 rfl; have qE2 := E.cell 2 rfl; have fE0 := E.frozen 0; have fE1 := E.frozen 1; have fE2 := E.frozen 2; have qE := E.lt) | skip))
       | (go_at_call 114; (first | (clear qE0 qE1 qE2 fE0 fE1 fE2 qE) | skip); refine callsNamed ?_; intro p7 hp; clear q_p_0 q_p_1 q_p_2 q_p_3 q_p_4 q_p_5 f_p_0 f_p_1 f_p_2 f_p_3 f_p_4 f_p_5 q_p q_q_0 q_q_1 q_q_2 q_q_3 q_q_4 q_q_5 f_q_0 f_q_1 f_q_2 f_q_3 f_q_4 f_q_5 q_q q_r_0 q_r_1 q_r_2 q_r_3 q_r_4 q_r_5 f_r_0 f_r_1 f_r_2 f_r_3 f_r_4 f_r_5 q_r q_f5_0 q_f5_1 q_f5_2 f_f5_0 f_f5_1 f_f5_2 q_f5; have O' : Old w p7 := (by rw [hp]; exact Below.trans (b := w6) O oldB); replace B_p : Bx p7 (w.heap.size) #[.bool (sgnZ zpx), .slice Apx (len (magZ zpx)) cpx, .slice Dpx (len dpx) epx, .bool (sgnZ zpy), .slice Apy (len (magZ zpy)) cpy, .slice Dpy (len dpy) epy] := (bxK B_p hp); replace B_q : Bx p7 (w.heap.size + 1) #[.bool (sgnZ zqx), .slice Aqx (len (magZ zqx)) cqx, .slice Dqx (len dqx) eqx, .bool (sgnZ zqy), .slice Aqy (len (magZ zqy)) cqy, .slice Dqy (len dqy) eqy] := (bxK B_q hp); replace B_r : Bx p7 (w.heap.size + 1 + 1) #[.bool (sgnZ zrx), .slice Arx (len (magZ zrx)) crx, .slice Drx (len drx) erx, .bool (sgnZ zry), .slice Ary (len (magZ zry)) cry, .slice Dry (len dry) ery] := (bxK B_r hp); replace B_f5 : Bx p7 (g_f5) #[.bool (sgnZ z5), .slice A5 (len (magZ z5)) c5, .slice D5 (len d5) e5] := (bxK B_f5 hp); replace r5 := rowK r5 hp; replace s5 := rowK s5 hp; replace r3 := rowK r3 hp; replace s3 := rowK s3 hp; replace r4 := rowK r4 hp; replace s4 := rowK s4 hp; replace OP : Old w4 p7 := (by rw [hp]; exact Below.trans (b := w6) OP oldB); (first | (replace E := bxK E hp) | (have E : Bx p7 w6.heap.size #[.bool false, .slice none 0 0, .slice none 0 0] := (eNew hp); have nE_p : ¬ (w6.heap.size = w.heap.size) := (by omega); have eN_p : ¬ (w.heap.size = w6.heap.size) := (by omega); have nE_q : ¬ (w6.heap.size = w.heap.size + 1) := (by omega); have eN_q : ¬ (w.heap.size + 1 = w6.heap.size) := (by omega); have nE_r : ¬ (w6.heap.size = w.heap.size + 1 + 1) := (by omega); have eN_r : ¬ (w.heap.size + 1 + 1 = w6.heap.size) := (by omega); have nE_f5 : ¬ (w6.heap.size = g_f5) := (by omega); have eN_f5 : ¬ (g_f5 = w6.heap.size) := (by omega); have ltE := Bx.lt E) | skip); have zp7 : w6.heap.size ≤ p7.heap.size := (by rw [hp]; exact leA); clear hp O; have O := O'; clear O'; refine (retZ_to HV6.out (ratMul_any z3 d3 A3 D3 c3 e3 _ _ z4 d4 A4 D4 c4 e4 _ _ _ r3 s3 N3.out r4 s4 N4.out)).mono ?_; rintro e w7 ⟨⟨A6, c6, D6, e6, rfl, r6, s6, ap6⟩, o7⟩; replace B_p := Bx.old B_p o7; replace B_q := Bx.old B_q o7; replace B_r := Bx.old B_r o7; replace B_f5 := Bx.old B_f5 o7; replace r5 := Row.below r5 o7 (Nat.le_refl _); replace s5 := Row.below s5 o7 (Nat.le_refl _); replace r3 := Row.below r3 o7 (Nat.le_refl _); replace s3 := Row.below s3 o7 (Nat.le_refl _); replace r4 := Row.below r4 o7 (Nat.le_refl _); replace s4 := Row.below s4 o7 (Nat.le_refl _); replace O := Old.trans O o7; replace OP := Old.trans OP o7; (first | (replace E := Bx.old E o7) | skip); have zw7 := o7.size; replace r6 := Row.more (lo' := p7.heap.size) r6 leA; replace s6 := Row.more (lo' := p7.heap.size) s6 leA; have lim_r6 := Row.lim r6; have lim_s6 := Row.lim s6; have AP6 := Lib.hid ap6; clear ap6; obtain ⟨q_p_0, q_p_1, q_p_2, q_p_3, q_p_4, q_p_5, f_p_0, f_p_1, f_p_2, f_p_3, f_p_4, f_p_5, q_p⟩ := B_p.all6; obtain ⟨q_q_0, q_q_1, q_q_2, q_q_3, q_q_4, q_q_5, f_q_0, f_q_1, f_q_2, f_q_3, f_q_4, f_q_5, q_q⟩ := B_q.all6; obtain ⟨q_r_0, q_r_1, q_r_2, q_r_3, q_r_4, q_r_5, f_r_0, f_r_1, f_r_2, f_r_3, f_r_4, f_r_5, q_r⟩ := B_r.all6; obtain ⟨q_f5_0, q_f5_1, q_f5_2, f_f5_0, f_f5_1, f_f5_2, q_f5⟩ := B_f5.all3; have ne_w7_p : ¬ (w7.heap.size = w.heap.size) := (by omega); have ne_w7_q : ¬ (w7.heap.size = w.heap.size + 1) := (by omega); have ne_w7_r : ¬ (w7.heap.size = w.heap.size + 1 + 1) := (by omega); have ne_w7_f5 : ¬ (w7.heap.size = g_f5) := (by omega); have en_w7_p : ¬ (w.heap.size = w7.heap.size) := (by omega); have en_w7_q : ¬ (w.heap.size + 1 = w7.heap.size) := (by omega); have en_w7_r : ¬ (w.heap.size + 1 + 1 = w7.heap.size) := (by omega); have en_w7_f5 : ¬ (g_f5 = w7.heap.size) := (by omega); (first | (have qE0 := E.cell 0 rfl; have qE1 := E.cell 1 rfl; have qE2 := E.cell 2 rfl; have fE0 := E.frozen 0; have fE1 := E.frozen 1; have fE2 := E.frozen 2; have qE := E.lt) | skip)))
    all_goals (go_wp2_with fail; go_meet; exact ⟨_, A6, D6, c6, e6, rfl, leA, (by first | exact Bx.new _ _ _ | exact Bx.put3 E _ _ _ | exact Bx.put3 (Bx.new _ _ _) _ _ _ | exact Bx.put3 (Bx.drew (Bx.new _ _ _)) _ _ _), (by refine Row.more (lo := p7.heap.size) ?_ leA; first | exact (Row.far_set (Row.far_set (Row.far_set r6 (by first | (simp <;> done) | (simp; omega) | omega) _) (by first | (simp <;> done) | (simp; omega) | omega) _) (by first | (simp <;> done) | (simp; omega) | omega) _) | exact Row.below (B := w7.heap.size) r6 oldB (Nat.le_refl _)), (by refine Row.more (lo := p7.heap.size) ?_ leA; first | exact (Row.far_set (Row.far_set (Row.far_set s6 (by first | (simp <;> done) | (simp; omega) | omega) _) (by first | (simp <;> done) | (simp; omega) | omega) _) (by first | (simp <;> done) | (simp; omega) | omega) _) | exact Row.below (B := w7.heap.size) s6 oldB (Nat.le_refl _)), Below.trans (b := w7) OP oldB⟩)
  case rest =>
  obtain ⟨g_f6, A6, D6, c6, e6, rfl, hg_f6, B_f6, r6, s6, o8⟩ := hcut
  obtain ⟨w8, hw⟩ : ∃ x, x = wc := ⟨_, rfl⟩
  subst hw
  clear q_p_0 q_p_1 q_p_2 q_p_3 q_p_4 q_p_5 f_p_0 f_p_1 f_p_2 f_p_3 f_p_4 f_p_5 q_p q_q_0 q_q_1 q_q_2 q_q_3 q_q_4 q_q_5 f_q_0 f_q_1 f_q_2 f_q_3 f_q_4 f_q_5 q_q q_r_0 q_r_1 q_r_2 q_r_3 q_r_4 q_r_5 f_r_0 f_r_1 f_r_2 f_r_3 f_r_4 f_r_5 q_r q_f5_0 q_f5_1 q_f5_2 f_f5_0 f_f5_1 f_f5_2 q_f5
  clear ne_w4_p en_w4_p ne_w4_q en_w4_q ne_w4_r en_w4_r ne_w4_f5 en_w4_f5
  replace B_p := Bx.old B_p o8
  replace B_q := Bx.old B_q o8
  replace B_r := Bx.old B_r o8
  replace B_f5 := Bx.old B_f5 o8
  replace r5 := Row.below r5 o8 (Nat.le_refl _)
  replace s5 := Row.below s5 o8 (Nat.le_refl _)
  replace O := Old.trans O o8
  have zw8 := o8.size
  have lt_f6 := B_f6.lt
  have ne_f6_p : ¬ (g_f6 = w.heap.size) := by omega
  have en_f6_p : ¬ (w.heap.size = g_f6) := by omega
  have ne_f6_q : ¬ (g_f6 = w.heap.size + 1) := by omega
  have en_f6_q : ¬ (w.heap.size + 1 = g_f6) := by omega
  have ne_f6_r : ¬ (g_f6 = w.heap.size + 1 + 1) := by omega
  have en_f6_r : ¬ (w.heap.size + 1 + 1 = g_f6) := by omega
  have ne_f6_f5 : ¬ (g_f6 = g_f5) := by omega
  have en_f6_f5 : ¬ (g_f5 = g_f6) := by omega
  have lim_r6 := Row.lim r6
  have lim_s6 := Row.lim s6
  obtain ⟨q_p_0, q_p_1, q_p_2, q_p_3, q_p_4, q_p_5, f_p_0, f_p_1, f_p_2, f_p_3, f_p_4, f_p_5, q_p⟩ := B_p.all6
  obtain ⟨q_q_0, q_q_1, q_q_2, q_q_3, q_q_4, q_q_5, f_q_0, f_q_1, f_q_2, f_q_3, f_q_4, f_q_5, q_q⟩ := B_q.all6
  obtain ⟨q_r_0, q_r_1, q_r_2, q_r_3, q_r_4, q_r_5, f_r_0, f_r_1, f_r_2, f_r_3, f_r_4, f_r_5, q_r⟩ := B_r.all6
  obtain ⟨q_f5_0, q_f5_1, q_f5_2, f_f5_0, f_f5_1, f_f5_2, q_f5⟩ := B_f5.all3
  obtain ⟨q_f6_0, q_f6_1, q_f6_2, f_f6_0, f_f6_1, f_f6_2, q_f6⟩ := B_f6.all3
  go_wp2_with fail
  refine callsNamed ?_
  intro p9 hp
  clear q_p_0 q_p_1 q_p_2 q_p_3 q_p_4 q_p_5 f_p_0 f_p_1 f_p_2 f_p_3 f_p_4 f_p_5 q_p q_q_0 q_q_1 q_q_2 q_q_3 q_q_4 q_q_5 f_q_0 f_q_1 f_q_2 f_q_3 f_q_4 f_q_5 q_q q_r_0 q_r_1 q_r_2 q_r_3 q_r_4 q_r_5 f_r_0 f_r_1 f_r_2 f_r_3 f_r_4 f_r_5 q_r q_f5_0 q_f5_1 q_f5_2 f_f5_0 f_f5_1 f_f5_2 q_f5 q_f6_0 q_f6_1 q_f6_2 f_f6_0 f_f6_1 f_f6_2 q_f6
  have O' : Old w p9 := (by rw [hp]; exact Below.trans (b := w8) O oldB)
  replace B_p : Bx p9 (w.heap.size) #[.bool (sgnZ zpx), .slice Apx (len (magZ zpx)) cpx, .slice Dpx (len dpx) epx, .bool (sgnZ zpy), .slice Apy (len (magZ zpy)) cpy, .slice Dpy (len dpy) epy] := (bxK B_p hp)
  replace B_q : Bx p9 (w.heap.size + 1) #[.bool (sgnZ zqx), .slice Aqx (len (magZ zqx)) cqx, .slice Dqx (len dqx) eqx, .bool (sgnZ zqy), .slice Aqy (len (magZ zqy)) cqy, .slice Dqy (len dqy) eqy] := (bxK B_q hp)
  replace B_r : Bx p9 (w.heap.size + 1 + 1) #[.bool (sgnZ zrx), .slice Arx (len (magZ zrx)) crx, .slice Drx (len drx) erx, .bool (sgnZ zry), .slice Ary (len (magZ zry)) cry, .slice Dry (len dry) ery] := (bxK B_r hp)
  replace B_f5 : Bx p9 (g_f5) #[.bool (sgnZ z5), .slice A5 (len (magZ z5)) c5, .slice D5 (len d5) e5] := (bxK B_f5 hp)
  replace B_f6 : Bx p9 (g_f6) #[.bool (sgnZ z6), .slice A6 (len (magZ z6)) c6, .slice D6 (len d6) e6] := (bxK B_f6 hp)
  replace r5 := rowK r5 hp
  replace s5 := rowK s5 hp
  replace r6 := rowK r6 hp
  replace s6 := rowK s6 hp
  have zp9 : w8.heap.size ≤ p9.heap.size := (by rw [hp]; exact leA)
  clear hp O
  have O := O'
  clear O'
  refine (retZ_to HV7.out (ratSub_any z5 d5 A5 D5 c5 e5 _ _ z6 d6 A6 D6 c6 e6 _ _ _ r5 s5 N5.out r6 s6 N6.out)).mono ?_
  rintro e w9 ⟨⟨A7, c7, D7, e7, rfl, r7, s7, ap7⟩, o9⟩
  replace B_p := Bx.old B_p o9
  replace B_q := Bx.old B_q o9
  replace B_r := Bx.old B_r o9
  replace B_f5 := Bx.old B_f5 o9
  replace B_f6 := Bx.old B_f6 o9
  replace r5 := Row.below r5 o9 (Nat.le_refl _)
  replace s5 := Row.below s5 o9 (Nat.le_refl _)
  replace r6 := Row.below r6 o9 (Nat.le_refl _)
  replace s6 := Row.below s6 o9 (Nat.le_refl _)
  replace O := Old.trans O o9
  have zw9 := o9.size
  replace r7 := Row.more (lo' := p9.heap.size) r7 leA
  replace s7 := Row.more (lo' := p9.heap.size) s7 leA
  have lim_r7 := Row.lim r7
  have lim_s7 := Row.lim s7
  have AP7 := Lib.hid ap7
  clear ap7
  obtain ⟨q_p_0, q_p_1, q_p_2, q_p_3, q_p_4, q_p_5, f_p_0, f_p_1, f_p_2, f_p_3, f_p_4, f_p_5, q_p⟩ := B_p.all6
  obtain ⟨q_q_0, q_q_1, q_q_2, q_q_3, q_q_4, q_q_5, f_q_0, f_q_1, f_q_2, f_q_3, f_q_4, f_q_5, q_q⟩ := B_q.all6
  obtain ⟨q_r_0, q_r_1, q_r_2, q_r_3, q_r_4, q_r_5, f_r_0, f_r_1, f_r_2, f_r_3, f_r_4, f_r_5, q_r⟩ := B_r.all6
  obtain ⟨q_f5_0, q_f5_1, q_f5_2, f_f5_0, f_f5_1, f_f5_2, q_f5⟩ := B_f5.all3
  obtain ⟨q_f6_0, q_f6_1, q_f6_2, f_f6_0, f_f6_1, f_f6_2, q_f6⟩ := B_f6.all3
  go_wp2_with fail
  refine callsNamed ?_
  intro p10 hp
  clear q_p_0 q_p_1 q_p_2 q_p_3 q_p_4 q_p_5 f_p_0 f_p_1 f_p_2 f_p_3 f_p_4 f_p_5 q_p q_q_0 q_q_1 q_q_2 q_q_3 q_q_4 q_q_5 f_q_0 f_q_1 f_q_2 f_q_3 f_q_4 f_q_5 q_q q_r_0 q_r_1 q_r_2 q_r_3 q_r_4 q_r_5 f_r_0 f_r_1 f_r_2 f_r_3 f_r_4 f_r_5 q_r q_f5_0 q_f5_1 q_f5_2 f_f5_0 f_f5_1 f_f5_2 q_f5 q_f6_0 q_f6_1 q_f6_2 f_f6_0 f_f6_1 f_f6_2 q_f6
  have O' : Old w p10 := (by rw [hp]; exact Below.trans (b := w9) O oldB)
  replace B_p : Bx p10 (w.heap.size) #[.bool (sgnZ zpx), .slice Apx (len (magZ zpx)) cpx, .slice Dpx (len dpx) epx, .bool (sgnZ zpy), .slice Apy (len (magZ zpy)) cpy, .slice Dpy (len dpy) epy] := (bxK B_p hp)
  replace B_q : Bx p10 (w.heap.size + 1) #[.bool (sgnZ zqx), .slice Aqx (len (magZ zqx)) cqx, .slice Dqx (len dqx) eqx, .bool (sgnZ zqy), .slice Aqy (len (magZ zqy)) cqy, .slice Dqy (len dqy) eqy] := (bxK B_q hp)
  replace B_r : Bx p10 (w.heap.size + 1 + 1) #[.bool (sgnZ zrx), .slice Arx (len (magZ zrx)) crx, .slice Drx (len drx) erx, .bool (sgnZ zry), .slice Ary (len (magZ zry)) cry, .slice Dry (len dry) ery] := (bxK B_r hp)
  replace B_f5 : Bx p10 (g_f5) #[.bool (sgnZ z5), .slice A5 (len (magZ z5)) c5, .slice D5 (len d5) e5] := (bxK B_f5 hp)
  replace B_f6 : Bx p10 (g_f6) #[.bool (sgnZ z6), .slice A6 (len (magZ z6)) c6, .slice D6 (len d6) e6] := (bxK B_f6 hp)
  replace r5 := rowK r5 hp
  replace s5 := rowK s5 hp
  replace r6 := rowK r6 hp
  replace s6 := rowK s6 hp
  replace r7 := rowK r7 hp
  replace s7 := rowK s7 hp
  have zp10 : w9.heap.size ≤ p10.heap.size := (by rw [hp]; exact leA)
  clear hp O
  have O := O'
  clear O'
  refine (ratSign_any z7 d7 A7 D7 c7 e7 _ _ _ r7 s7 N7.out).mono ?_
  rintro e w10 ⟨rfl, o10⟩
  replace B_p := Bx.old B_p o10
  replace B_q := Bx.old B_q o10
  replace B_r := Bx.old B_r o10
  replace B_f5 := Bx.old B_f5 o10
  replace B_f6 := Bx.old B_f6 o10
  replace r5 := Row.below r5 o10 (Nat.le_refl _)
  replace s5 := Row.below s5 o10 (Nat.le_refl _)
  replace r6 := Row.below r6 o10 (Nat.le_refl _)
  replace s6 := Row.below s6 o10 (Nat.le_refl _)
  replace r7 := Row.below r7 o10 (Nat.le_refl _)
  replace s7 := Row.below s7 o10 (Nat.le_refl _)
  replace O := Old.trans O o10
  have zw10 := o10.size
  obtain ⟨q_p_0, q_p_1, q_p_2, q_p_3, q_p_4, q_p_5, f_p_0, f_p_1, f_p_2, f_p_3, f_p_4, f_p_5, q_p⟩ := B_p.all6
  obtain ⟨q_q_0, q_q_1, q_q_2, q_q_3, q_q_4, q_q_5, f_q_0, f_q_1, f_q_2, f_q_3, f_q_4, f_q_5, q_q⟩ := B_q.all6
  obtain ⟨q_r_0, q_r_1, q_r_2, q_r_3, q_r_4, q_r_5, f_r_0, f_r_1, f_r_2, f_r_3, f_r_4, f_r_5, q_r⟩ := B_r.all6
  obtain ⟨q_f5_0, q_f5_1, q_f5_2, f_f5_0, f_f5_1, f_f5_2, q_f5⟩ := B_f5.all3
  obtain ⟨q_f6_0, q_f6_1, q_f6_2, f_f6_0, f_f6_1, f_f6_2, q_f6⟩ := B_f6.all3
  go_wp2
  go_ret
  exact ret_int HE.out ⟨rfl, Below.trans (b := w10) O oldB⟩
set_option maxRecDepth 100000 in
set_option maxHeartbeats 8000000 in
theorem spec_Side (bpx : Bool) (Apx : Option Addr) (npx cpx lpx : Nat) (fpx : Nat → Int) (Dpx : Option Addr) (mpx epx upx : Nat) (gpx : Nat → Int) (bpy : Bool) (Apy : Option Addr) (npy cpy lpy : Nat) (fpy : Nat → Int) (Dpy : Option Addr) (mpy epy upy : Nat) (gpy : Nat → Int) (bqx : Bool) (Aqx : Option Addr) (nqx cqx lqx : Nat) (fqx : Nat → Int) (Dqx : Option Addr) (mqx eqx uqx : Nat) (gqx : Nat → Int) (bqy : Bool) (Aqy : Option Addr) (nqy cqy lqy : Nat) (fqy : Nat → Int) (Dqy : Option Addr) (mqy eqy uqy : Nat) (gqy : Nat → Int) (brx : Bool) (Arx : Option Addr) (nrx crx lrx : Nat) (frx : Nat → Int) (Drx : Option Addr) (mrx erx urx : Nat) (grx : Nat → Int) (bry : Bool) (Ary : Option Addr) (nry cry lry : Nat) (fry : Nat → Int) (Dry : Option Addr) (mry ery ury : Nat) (gry : Nat → Int) (w : World) (hpx : Row w lpx Apx npx cpx fpx) (kpx : Row w upx Dpx mpx epx gpx) (hpy : Row w lpy Apy npy cpy fpy) (kpy : Row w upy Dpy mpy epy gpy) (hqx : Row w lqx Aqx nqx cqx fqx) (kqx : Row w uqx Dqx mqx eqx gqx) (hqy : Row w lqy Aqy nqy cqy fqy) (kqy : Row w uqy Dqy mqy eqy gqy) (hrx : Row w lrx Arx nrx crx frx) (krx : Row w urx Drx mrx erx grx) (hry : Row w lry Ary nry cry fry) (kry : Row w ury Dry mry ery gry) (hnpx : npx ≤ 1048576) (hmpx : mpx ≤ 1048576) (hnpy : npy ≤ 1048576) (hmpy : mpy ≤ 1048576) (hnqx : nqx ≤ 1048576) (hmqx : mqx ≤ 1048576) (hnqy : nqy ≤ 1048576) (hmqy : mqy ≤ 1048576) (hnrx : nrx ≤ 1048576) (hmrx : mrx ≤ 1048576) (hnry : nry ≤ 1048576) (hmry : mry ≤ 1048576) :
    Calls Try.prog 73 #[.agg #[.bool bpx, .slice Apx npx cpx, .slice Dpx mpx epx, .bool bpy, .slice Apy npy cpy, .slice Dpy mpy epy], .agg #[.bool bqx, .slice Aqx nqx cqx, .slice Dqx mqx eqx, .bool bqy, .slice Aqy nqy cqy, .slice Dqy mqy eqy], .agg #[.bool brx, .slice Arx nrx crx, .slice Drx mrx erx, .bool bry, .slice Ary nry cry, .slice Dry mry ery]] w fun e w' => e = .returned (.int .i64 (rSide bpx npx fpx mpx gpx bpy npy fpy mpy gpy bqx nqx fqx mqx gqx bqy nqy fqy mqy gqy brx nrx frx mrx grx bry nry fry mry gry)) ∧ Old w w' := by
  unfold rSide
  obtain ⟨z1, d1, hv1⟩ : ∃ z d, subF (vR bqx nqx fqx mqx gqx) (vR bpx npx fpx mpx gpx) = ((z, d) : Fr) := ⟨(subF (vR bqx nqx fqx mqx gqx) (vR bpx npx fpx mpx gpx)).1, (subF (vR bqx nqx fqx mqx gqx) (vR bpx npx fpx mpx gpx)).2, rfl⟩
  have N1 : Hid (normF (z1, d1)) := Lib.hid (by rw [← hv1]; exact subF_norm _ _)
  have HV1 := Lib.hid hv1
  clear hv1
  obtain ⟨z2, d2, hv2⟩ : ∃ z d, subF (vR bry nry fry mry gry) (vR bpy npy fpy mpy gpy) = ((z, d) : Fr) := ⟨(subF (vR bry nry fry mry gry) (vR bpy npy fpy mpy gpy)).1, (subF (vR bry nry fry mry gry) (vR bpy npy fpy mpy gpy)).2, rfl⟩
  have N2 : Hid (normF (z2, d2)) := Lib.hid (by rw [← hv2]; exact subF_norm _ _)
  have HV2 := Lib.hid hv2
  clear hv2
  obtain ⟨z3, d3, hv3⟩ : ∃ z d, subF (vR bqy nqy fqy mqy gqy) (vR bpy npy fpy mpy gpy) = ((z, d) : Fr) := ⟨(subF (vR bqy nqy fqy mqy gqy) (vR bpy npy fpy mpy gpy)).1, (subF (vR bqy nqy fqy mqy gqy) (vR bpy npy fpy mpy gpy)).2, rfl⟩
  have N3 : Hid (normF (z3, d3)) := Lib.hid (by rw [← hv3]; exact subF_norm _ _)
  have HV3 := Lib.hid hv3
  clear hv3
  obtain ⟨z4, d4, hv4⟩ : ∃ z d, subF (vR brx nrx frx mrx grx) (vR bpx npx fpx mpx gpx) = ((z, d) : Fr) := ⟨(subF (vR brx nrx frx mrx grx) (vR bpx npx fpx mpx gpx)).1, (subF (vR brx nrx frx mrx grx) (vR bpx npx fpx mpx gpx)).2, rfl⟩
  have N4 : Hid (normF (z4, d4)) := Lib.hid (by rw [← hv4]; exact subF_norm _ _)
  have HV4 := Lib.hid hv4
  clear hv4
  obtain ⟨z5, d5, hv5⟩ : ∃ z d, mulF (z1, d1) (z2, d2) = ((z, d) : Fr) := ⟨(mulF (z1, d1) (z2, d2)).1, (mulF (z1, d1) (z2, d2)).2, rfl⟩
  have N5 : Hid (normF (z5, d5)) := Lib.hid (by rw [← hv5]; exact mulF_norm _ _)
  have HV5 := Lib.hid hv5
  clear hv5
  obtain ⟨z6, d6, hv6⟩ : ∃ z d, mulF (z3, d3) (z4, d4) = ((z, d) : Fr) := ⟨(mulF (z3, d3) (z4, d4)).1, (mulF (z3, d3) (z4, d4)).2, rfl⟩
  have N6 : Hid (normF (z6, d6)) := Lib.hid (by rw [← hv6]; exact mulF_norm _ _)
  have HV6 := Lib.hid hv6
  clear hv6
  obtain ⟨z7, d7, hv7⟩ : ∃ z d, subF (z5, d5) (z6, d6) = ((z, d) : Fr) := ⟨(subF (z5, d5) (z6, d6)).1, (subF (z5, d5) (z6, d6)).2, rfl⟩
  have N7 : Hid (normF (z7, d7)) := Lib.hid (by rw [← hv7]; exact subF_norm _ _)
  have HV7 := Lib.hid hv7
  clear hv7
  have HE : Hid (sgnF (subF (mulF (subF (vR bqx nqx fqx mqx gqx) (vR bpx npx fpx mpx gpx)) (subF (vR bry nry fry mry gry) (vR bpy npy fpy mpy gpy))) (mulF (subF (vR bqy nqy fqy mqy gqy) (vR bpy npy fpy mpy gpy)) (subF (vR brx nrx frx mrx grx) (vR bpx npx fpx mpx gpx)))) = sgnF (z7, d7)) := Lib.hid (by rw [HV1.out, HV2.out, HV3.out, HV4.out, HV5.out, HV6.out, HV7.out])
  have O : Old w (((w.alloc (.cells #[.bool bpx, .slice Apx npx cpx, .slice Dpx mpx epx, .bool bpy, .slice Apy npy cpy, .slice Dpy mpy epy] 39)).alloc (.cells #[.bool bqx, .slice Aqx nqx cqx, .slice Dqx mqx eqx, .bool bqy, .slice Aqy nqy cqy, .slice Dqy mqy eqy] 39)).alloc (.cells #[.bool brx, .slice Arx nrx crx, .slice Drx mrx erx, .bool bry, .slice Ary nry cry, .slice Dry mry ery] 39)) := oldB
  have B_p : Bx (((w.alloc (.cells #[.bool bpx, .slice Apx npx cpx, .slice Dpx mpx epx, .bool bpy, .slice Apy npy cpy, .slice Dpy mpy epy] 39)).alloc (.cells #[.bool bqx, .slice Aqx nqx cqx, .slice Dqx mqx eqx, .bool bqy, .slice Aqy nqy cqy, .slice Dqy mqy eqy] 39)).alloc (.cells #[.bool brx, .slice Arx nrx crx, .slice Drx mrx erx, .bool bry, .slice Ary nry cry, .slice Dry mry ery] 39)) (w.heap.size) #[.bool bpx, .slice Apx npx cpx, .slice Dpx mpx epx, .bool bpy, .slice Apy npy cpy, .slice Dpy mpy epy] := by have h := (Bx.alloc (Bx.alloc (Bx.new w #[.bool bpx, .slice Apx npx cpx, .slice Dpx mpx epx, .bool bpy, .slice Apy npy cpy, .slice Dpy mpy epy] 39) (.cells #[.bool bqx, .slice Aqx nqx cqx, .slice Dqx mqx eqx, .bool bqy, .slice Aqy nqy cqy, .slice Dqy mqy eqy] 39)) (.cells #[.bool brx, .slice Arx nrx crx, .slice Drx mrx erx, .bool bry, .slice Ary nry cry, .slice Dry mry ery] 39)); simpa using h
  have B_q : Bx (((w.alloc (.cells #[.bool bpx, .slice Apx npx cpx, .slice Dpx mpx epx, .bool bpy, .slice Apy npy cpy, .slice Dpy mpy epy] 39)).alloc (.cells #[.bool bqx, .slice Aqx nqx cqx, .slice Dqx mqx eqx, .bool bqy, .slice Aqy nqy cqy, .slice Dqy mqy eqy] 39)).alloc (.cells #[.bool brx, .slice Arx nrx crx, .slice Drx mrx erx, .bool bry, .slice Ary nry cry, .slice Dry mry ery] 39)) (w.heap.size + 1) #[.bool bqx, .slice Aqx nqx cqx, .slice Dqx mqx eqx, .bool bqy, .slice Aqy nqy cqy, .slice Dqy mqy eqy] := by have h := (Bx.alloc (Bx.new (w.alloc (.cells #[.bool bpx, .slice Apx npx cpx, .slice Dpx mpx epx, .bool bpy, .slice Apy npy cpy, .slice Dpy mpy epy] 39)) #[.bool bqx, .slice Aqx nqx cqx, .slice Dqx mqx eqx, .bool bqy, .slice Aqy nqy cqy, .slice Dqy mqy eqy] 39) (.cells #[.bool brx, .slice Arx nrx crx, .slice Drx mrx erx, .bool bry, .slice Ary nry cry, .slice Dry mry ery] 39)); simpa using h
  have B_r : Bx (((w.alloc (.cells #[.bool bpx, .slice Apx npx cpx, .slice Dpx mpx epx, .bool bpy, .slice Apy npy cpy, .slice Dpy mpy epy] 39)).alloc (.cells #[.bool bqx, .slice Aqx nqx cqx, .slice Dqx mqx eqx, .bool bqy, .slice Aqy nqy cqy, .slice Dqy mqy eqy] 39)).alloc (.cells #[.bool brx, .slice Arx nrx crx, .slice Drx mrx erx, .bool bry, .slice Ary nry cry, .slice Dry mry ery] 39)) (w.heap.size + 1 + 1) #[.bool brx, .slice Arx nrx crx, .slice Drx mrx erx, .bool bry, .slice Ary nry cry, .slice Dry mry ery] := by have h := (Bx.new ((w.alloc (.cells #[.bool bpx, .slice Apx npx cpx, .slice Dpx mpx epx, .bool bpy, .slice Apy npy cpy, .slice Dpy mpy epy] 39)).alloc (.cells #[.bool bqx, .slice Aqx nqx cqx, .slice Dqx mqx eqx, .bool bqy, .slice Aqy nqy cqy, .slice Dqy mqy eqy] 39)) #[.bool brx, .slice Arx nrx crx, .slice Drx mrx erx, .bool bry, .slice Ary nry cry, .slice Dry mry ery] 39); simpa using h
  have ne_0_1 : ¬ (w.heap.size = w.heap.size + 1) := by omega
  have ne_0_2 : ¬ (w.heap.size = w.heap.size + 1 + 1) := by omega
  have ne_1_0 : ¬ (w.heap.size + 1 = w.heap.size) := by omega
  have ne_1_2 : ¬ (w.heap.size + 1 = w.heap.size + 1 + 1) := by omega
  have ne_2_0 : ¬ (w.heap.size + 1 + 1 = w.heap.size) := by omega
  have ne_2_1 : ¬ (w.heap.size + 1 + 1 = w.heap.size + 1) := by omega
  have ze : w.heap.size + 3 ≤ (((w.alloc (.cells #[.bool bpx, .slice Apx npx cpx, .slice Dpx mpx epx, .bool bpy, .slice Apy npy cpy, .slice Dpy mpy epy] 39)).alloc (.cells #[.bool bqx, .slice Aqx nqx cqx, .slice Dqx mqx eqx, .bool bqy, .slice Aqy nqy cqy, .slice Dqy mqy eqy] 39)).alloc (.cells #[.bool brx, .slice Arx nrx crx, .slice Drx mrx erx, .bool bry, .slice Ary nry cry, .slice Dry mry ery] 39)).heap.size := (by simp)
  go_enter Try.func73, Try.ntmps73
  go_upto_region 1 with fail
  obtain ⟨w0, hw0⟩ : ∃ x, x = (((w.alloc (.cells #[.bool bpx, .slice Apx npx cpx, .slice Dpx mpx epx, .bool bpy, .slice Apy npy cpy, .slice Dpy mpy epy] 39)).alloc (.cells #[.bool bqx, .slice Aqx nqx cqx, .slice Dqx mqx eqx, .bool bqy, .slice Aqy nqy cqy, .slice Dqy mqy eqy] 39)).alloc (.cells #[.bool brx, .slice Arx nrx crx, .slice Drx mrx erx, .bool bry, .slice Ary nry cry, .slice Dry mry ery] 39)) := ⟨_, rfl⟩
  rw [← hw0] at O ze B_p B_q B_r ⊢
  clear hw0
  obtain ⟨q_p_0, q_p_1, q_p_2, q_p_3, q_p_4, q_p_5, f_p_0, f_p_1, f_p_2, f_p_3, f_p_4, f_p_5, q_p⟩ := B_p.all6
  obtain ⟨q_q_0, q_q_1, q_q_2, q_q_3, q_q_4, q_q_5, f_q_0, f_q_1, f_q_2, f_q_3, f_q_4, f_q_5, q_q⟩ := B_q.all6
  obtain ⟨q_r_0, q_r_1, q_r_2, q_r_3, q_r_4, q_r_5, f_r_0, f_r_1, f_r_2, f_r_3, f_r_4, f_r_5, q_r⟩ := B_r.all6
  have ne_w0_p : ¬ (w0.heap.size = w.heap.size) := (by omega)
  have ne_w0_q : ¬ (w0.heap.size = w.heap.size + 1) := (by omega)
  have ne_w0_r : ¬ (w0.heap.size = w.heap.size + 1 + 1) := (by omega)
  have en_w0_p : ¬ (w.heap.size = w0.heap.size) := (by omega)
  have en_w0_q : ¬ (w.heap.size + 1 = w0.heap.size) := (by omega)
  have en_w0_r : ¬ (w.heap.size + 1 + 1 = w0.heap.size) := (by omega)
  go_cut [7] (fun sl wx => ∃ (g : Nat) (A5 D5 : Option Addr) (c5 e5 : Nat), sl = .pointer (some ⟨g, 0, none⟩) ∧ w0.heap.size ≤ g ∧ Bx wx g #[.bool (sgnZ z5), .slice A5 (len (magZ z5)) c5, .slice D5 (len d5) e5] ∧ Row wx w0.heap.size A5 (len (magZ z5)) c5 (digI (magZ z5)) ∧ Row wx w0.heap.size D5 (len d5) e5 (digI d5) ∧ Old w0 wx)
  case first =>
    have OP : Old w0 w0 := Old.refl _
    go_region_held3 (fun w' => w'.cell? ⟨w.heap.size, 0, none⟩ = some (.bool bpx) ∧ w'.cell? ⟨w.heap.size, 1, none⟩ = some (.slice Apx npx cpx) ∧ w'.cell? ⟨w.heap.size, 2, none⟩ = some (.slice Dpx mpx epx) ∧ w'.cell? ⟨w.heap.size, 3, none⟩ = some (.bool bpy) ∧ w'.cell? ⟨w.heap.size, 4, none⟩ = some (.slice Apy npy cpy) ∧ w'.cell? ⟨w.heap.size, 5, none⟩ = some (.slice Dpy mpy epy) ∧ w'.cell? ⟨w.heap.size + 1, 0, none⟩ = some (.bool bqx) ∧ w'.cell? ⟨w.heap.size + 1, 1, none⟩ = some (.slice Aqx nqx cqx) ∧ w'.cell? ⟨w.heap.size + 1, 2, none⟩ = some (.slice Dqx mqx eqx) ∧ w'.cell? ⟨w.heap.size + 1, 3, none⟩ = some (.bool bqy) ∧ w'.cell? ⟨w.heap.size + 1, 4, none⟩ = some (.slice Aqy nqy cqy) ∧ w'.cell? ⟨w.heap.size + 1, 5, none⟩ = some (.slice Dqy mqy eqy) ∧ w'.cell? ⟨w.heap.size + 1 + 1, 0, none⟩ = some (.bool brx) ∧ w'.cell? ⟨w.heap.size + 1 + 1, 1, none⟩ = some (.slice Arx nrx crx) ∧ w'.cell? ⟨w.heap.size + 1 + 1, 2, none⟩ = some (.slice Drx mrx erx) ∧ w'.cell? ⟨w.heap.size + 1 + 1, 3, none⟩ = some (.bool bry) ∧ w'.cell? ⟨w.heap.size + 1 + 1, 4, none⟩ = some (.slice Ary nry cry) ∧ w'.cell? ⟨w.heap.size + 1 + 1, 5, none⟩ = some (.slice Dry mry ery)) (go_keep)
      (first
       | (go_at_call 71; refine callsNamed ?_; intro p1 hp; clear q_p_0 q_p_1 q_p_2 q_p_3 q_p_4 q_p_5 f_p_0 f_p_1 f_p_2 f_p_3 f_p_4 f_p_5 q_p q_q_0 q_q_1 q_q_2 q_q_3 q_q_4 q_q_5 f_q_0 f_q_1 f_q_2 f_q_3 f_q_4 f_q_5 q_q q_r_0 q_r_1 q_r_2 q_r_3 q_r_4 q_r_5 f_r_0 f_r_1 f_r_2 f_r_3 f_r_4 f_r_5 q_r; have O' : Old w p1 := (by rw [hp]; exact Below.trans (b := w0) O oldB); replace B_p : Bx p1 (w.heap.size) #[.bool bpx, .slice Apx npx cpx, .slice Dpx mpx epx, .bool bpy, .slice Apy npy cpy, .slice Dpy mpy epy] := (bxK B_p hp); replace B_q : Bx p1 (w.heap.size + 1) #[.bool bqx, .slice Aqx nqx cqx, .slice Dqx mqx eqx, .bool bqy, .slice Aqy nqy cqy, .slice Dqy mqy eqy] := (bxK B_q hp); replace B_r : Bx p1 (w.heap.size + 1 + 1) #[.bool brx, .slice Arx nrx crx, .slice Drx mrx erx, .bool bry, .slice Ary nry cry, .slice Dry mry ery] := (bxK B_r hp); replace OP : Old w0 p1 := (by rw [hp]; exact Below.trans (b := w0) OP oldB); (first | (replace E := bxK E hp) | (have E : Bx p1 w0.heap.size #[.bool false, .slice none 0 0, .slice none 0 0] := (eNew hp); have nE_p : ¬ (w0.heap.size = w.heap.size) := (by omega); have eN_p : ¬ (w.heap.size = w0.heap.size) := (by omega); have nE_q : ¬ (w0.heap.size = w.heap.size + 1) := (by omega); have eN_q : ¬ (w.heap.size + 1 = w0.heap.size) := (by omega); have nE_r : ¬ (w0.heap.size = w.heap.size + 1 + 1) := (by omega); have eN_r : ¬ (w.heap.size + 1 + 1 = w0.heap.size) := (by omega); have ltE := Bx.lt E) | skip); have zp1 : w0.heap.size ≤ p1.heap.size := (by rw [hp]; exact leA); clear hp O; have O := O'; clear O'; (with_reducible refine (retZ_to HV1.out (spec_RatSub bqx Aqx nqx cqx lqx fqx Dqx mqx eqx uqx gqx bpx Apx npx cpx lpx fpx Dpx mpx epx upx gpx _ (Row.below (B := w.heap.size) hqx O (Nat.le_refl _)) (Row.below (B := w.heap.size) kqx O (Nat.le_refl _)) (Row.below (B := w.heap.size) hpx O (Nat.le_refl _)) (Row.below (B := w.heap.size) kpx O (Nat.le_refl _)) hnqx hmqx hnpx hmpx)).mono ?_); rintro e w1 ⟨⟨A1, c1, D1, e1, rfl, r1, s1, ap1⟩, o1⟩; replace B_p := Bx.old B_p o1; replace B_q := Bx.old B_q o1; replace B_r := Bx.old B_r o1; replace O := Old.trans O o1; replace OP := Old.trans OP o1; (first | (replace E := Bx.old E o1) | skip); have zw1 := o1.size; replace r1 := Row.more (lo' := p1.heap.size) r1 leA; replace s1 := Row.more (lo' := p1.heap.size) s1 leA; have lim_r1 := Row.lim r1; have lim_s1 := Row.lim s1; have AP1 := Lib.hid ap1; clear ap1; obtain ⟨q_p_0, q_p_1, q_p_2, q_p_3, q_p_4, q_p_5, f_p_0, f_p_1, f_p_2, f_p_3, f_p_4, f_p_5, q_p⟩ := B_p.all6; obtain ⟨q_q_0, q_q_1, q_q_2, q_q_3, q_q_4, q_q_5, f_q_0, f_q_1, f_q_2, f_q_3, f_q_4, f_q_5, q_q⟩ := B_q.all6; obtain ⟨q_r_0, q_r_1, q_r_2, q_r_3, q_r_4, q_r_5, f_r_0, f_r_1, f_r_2, f_r_3, f_r_4, f_r_5, q_r⟩ := B_r.all6; have ne_w1_p : ¬ (w1.heap.size = w.heap.size) := (by omega); have ne_w1_q : ¬ (w1.heap.size = w.heap.size + 1) := (by omega); have ne_w1_r : ¬ (w1.heap.size = w.heap.size + 1 + 1) := (by omega); have en_w1_p : ¬ (w.heap.size = w1.heap.size) := (by omega); have en_w1_q : ¬ (w.heap.size + 1 = w1.heap.size) := (by omega); have en_w1_r : ¬ (w.heap.size + 1 + 1 = w1.heap.size) := (by omega); (first | (have qE0 := E.cell 0 rfl; have qE1 := E.cell 1 rfl; have qE2 := E.cell 2 rfl; have fE0 := E.frozen 0; have fE1 := E.frozen 1; have fE2 := E.frozen 2; have qE := E.lt) | skip))
       | (go_at_call 71; (first | (clear qE0 qE1 qE2 fE0 fE1 fE2 qE) | skip); refine callsNamed ?_; intro p2 hp; clear q_p_0 q_p_1 q_p_2 q_p_3 q_p_4 q_p_5 f_p_0 f_p_1 f_p_2 f_p_3 f_p_4 f_p_5 q_p q_q_0 q_q_1 q_q_2 q_q_3 q_q_4 q_q_5 f_q_0 f_q_1 f_q_2 f_q_3 f_q_4 f_q_5 q_q q_r_0 q_r_1 q_r_2 q_r_3 q_r_4 q_r_5 f_r_0 f_r_1 f_r_2 f_r_3 f_r_4 f_r_5 q_r; have O' : Old w p2 := (by rw [hp]; exact Below.trans (b := w1) O oldB); replace B_p : Bx p2 (w.heap.size) #[.bool bpx, .slice Apx npx cpx, .slice Dpx mpx epx, .bool bpy, .slice Apy npy cpy, .slice Dpy mpy epy] := (bxK B_p hp); replace B_q : Bx p2 (w.heap.size + 1) #[.bool bqx, .slice Aqx nqx cqx, .slice Dqx mqx eqx, .bool bqy, .slice Aqy nqy cqy, .slice Dqy mqy eqy] := (bxK B_q hp); replace B_r : Bx p2 (w.heap.size + 1 + 1) #[.bool brx, .slice Arx nrx crx, .slice Drx mrx erx, .bool bry, .slice Ary nry cry, .slice Dry mry ery] := (bxK B_r hp); replace r1 := rowK r1 hp; replace s1 := rowK s1 hp; replace OP : Old w0 p2 := (by rw [hp]; exact Below.trans (b := w1) OP oldB); (first | (replace E := bxK E hp) | (have E : Bx p2 w1.heap.size #[.bool false, .slice none 0 0, .slice none 0 0] := (eNew hp); have nE_p : ¬ (w1.heap.size = w.heap.size) := (by omega); have eN_p : ¬ (w.heap.size = w1.heap.size) := (by omega); have nE_q : ¬ (w1.heap.size = w.heap.size + 1) := (by omega); have eN_q : ¬ (w.heap.size + 1 = w1.heap.size) := (by omega); have nE_r : ¬ (w1.heap.size = w.heap.size + 1 + 1) := (by omega); have eN_r : ¬ (w.heap.size + 1 + 1 = w1.heap.size) := (by omega); have ltE := Bx.lt E) | skip); have zp2 : w1.heap.size ≤ p2.heap.size := (by rw [hp]; exact leA); clear hp O; have O := O'; clear O'; (with_reducible refine (retZ_to HV2.out (spec_RatSub bry Ary nry cry lry fry Dry mry ery ury gry bpy Apy npy cpy lpy fpy Dpy mpy epy upy gpy _ (Row.below (B := w.heap.size) hry O (Nat.le_refl _)) (Row.below (B := w.heap.size) kry O (Nat.le_refl _)) (Row.below (B := w.heap.size) hpy O (Nat.le_refl _)) (Row.below (B := w.heap.size) kpy O (Nat.le_refl _)) hnry hmry hnpy hmpy)).mono ?_); rintro e w2 ⟨⟨A2, c2, D2, e2, rfl, r2, s2, ap2⟩, o2⟩; replace B_p := Bx.old B_p o2; replace B_q := Bx.old B_q o2; replace B_r := Bx.old B_r o2; replace r1 := Row.below r1 o2 (Nat.le_refl _); replace s1 := Row.below s1 o2 (Nat.le_refl _); replace O := Old.trans O o2; replace OP := Old.trans OP o2; (first | (replace E := Bx.old E o2) | skip); have zw2 := o2.size; replace r2 := Row.more (lo' := p2.heap.size) r2 leA; replace s2 := Row.more (lo' := p2.heap.size) s2 leA; have lim_r2 := Row.lim r2; have lim_s2 := Row.lim s2; have AP2 := Lib.hid ap2; clear ap2; obtain ⟨q_p_0, q_p_1, q_p_2, q_p_3, q_p_4, q_p_5, f_p_0, f_p_1, f_p_2, f_p_3, f_p_4, f_p_5, q_p⟩ := B_p.all6; obtain ⟨q_q_0, q_q_1, q_q_2, q_q_3, q_q_4, q_q_5, f_q_0, f_q_1, f_q_2, f_q_3, f_q_4, f_q_5, q_q⟩ := B_q.all6; obtain ⟨q_r_0, q_r_1, q_r_2, q_r_3, q_r_4, q_r_5, f_r_0, f_r_1, f_r_2, f_r_3, f_r_4, f_r_5, q_r⟩ := B_r.all6; have ne_w2_p : ¬ (w2.heap.size = w.heap.size) := (by omega); have ne_w2_q : ¬ (w2.heap.size = w.heap.size + 1) := (by omega); have ne_w2_r : ¬ (w2.heap.size = w.heap.size + 1 + 1) := (by omega); have en_w2_p : ¬ (w.heap.size = w2.heap.size) := (by omega); have en_w2_q : ¬ (w.heap.size + 1 = w2.heap.size) := (by omega); have en_w2_r : ¬ (w.heap.size + 1 + 1 = w2.heap.size) := (by omega); (first | (have qE0 := E.cell 0 rfl; have qE1 := E.cell 1 rfl; have qE2 := E.cell 2 rfl; have fE0 := E.frozen 0; have fE1 := E.frozen 1; have fE2 := E.frozen 2; have qE := E.lt) | skip))
       | (go_at_call 63; (first | (clear qE0 qE1 qE2 fE0 fE1 fE2 qE) | skip); refine callsNamed ?_; intro p3 hp; clear q_p_0 q_p_1 q_p_2 q_p_3 q_p_4 q_p_5 f_p_0 f_p_1 f_p_2 f_p_3 f_p_4 f_p_5 q_p q_q_0 q_q_1 q_q_2 q_q_3 q_q_4 q_q_5 f_q_0 f_q_1 f_q_2 f_q_3 f_q_4 f_q_5 q_q q_r_0 q_r_1 q_r_2 q_r_3 q_r_4 q_r_5 f_r_0 f_r_1 f_r_2 f_r_3 f_r_4 f_r_5 q_r; have O' : Old w p3 := (by rw [hp]; exact Below.trans (b := w2) O oldB); replace B_p : Bx p3 (w.heap.size) #[.bool bpx, .slice Apx npx cpx, .slice Dpx mpx epx, .bool bpy, .slice Apy npy cpy, .slice Dpy mpy epy] := (bxK B_p hp); replace B_q : Bx p3 (w.heap.size + 1) #[.bool bqx, .slice Aqx nqx cqx, .slice Dqx mqx eqx, .bool bqy, .slice Aqy nqy cqy, .slice Dqy mqy eqy] := (bxK B_q hp); replace B_r : Bx p3 (w.heap.size + 1 + 1) #[.bool brx, .slice Arx nrx crx, .slice Drx mrx erx, .bool bry, .slice Ary nry cry, .slice Dry mry ery] := (bxK B_r hp); replace r1 := rowK r1 hp; replace s1 := rowK s1 hp; replace r2 := rowK r2 hp; replace s2 := rowK s2 hp; replace OP : Old w0 p3 := (by rw [hp]; exact Below.trans (b := w2) OP oldB); (first | (replace E := bxK E hp) | (have E : Bx p3 w2.heap.size #[.bool false, .slice none 0 0, .slice none 0 0] := (eNew hp); have nE_p : ¬ (w2.heap.size = w.heap.size) := (by omega); have eN_p : ¬ (w.heap.size = w2.heap.size) := (by omega); have nE_q : ¬ (w2.heap.size = w.heap.size + 1) := (by omega); have eN_q : ¬ (w.heap.size + 1 = w2.heap.size) := (by omega); have nE_r : ¬ (w2.heap.size = w.heap.size + 1 + 1) := (by omega); have eN_r : ¬ (w.heap.size + 1 + 1 = w2.heap.size) := (by omega); have ltE := Bx.lt E) | skip); have zp3 : w2.heap.size ≤ p3.heap.size := (by rw [hp]; exact leA); clear hp O; have O := O'; clear O'; refine (retZ_to HV5.out (spec_RatMul_v z1 d1 A1 D1 c1 e1 _ _ z2 d2 A2 D2 c2 e2 _ _ _ r1 s1 N1.out r2 s2 N2.out)).mono ?_; rintro e w3 ⟨⟨A5, c5, D5, e5, rfl, r5, s5, ap5⟩, o3⟩; replace B_p := Bx.old B_p o3; replace B_q := Bx.old B_q o3; replace B_r := Bx.old B_r o3; replace r1 := Row.below r1 o3 (Nat.le_refl _); replace s1 := Row.below s1 o3 (Nat.le_refl _); replace r2 := Row.below r2 o3 (Nat.le_refl _); replace s2 := Row.below s2 o3 (Nat.le_refl _); replace O := Old.trans O o3; replace OP := Old.trans OP o3; (first | (replace E := Bx.old E o3) | skip); have zw3 := o3.size; replace r5 := Row.more (lo' := p3.heap.size) r5 leA; replace s5 := Row.more (lo' := p3.heap.size) s5 leA; have lim_r5 := Row.lim r5; have lim_s5 := Row.lim s5; have AP5 := Lib.hid ap5; clear ap5; obtain ⟨q_p_0, q_p_1, q_p_2, q_p_3, q_p_4, q_p_5, f_p_0, f_p_1, f_p_2, f_p_3, f_p_4, f_p_5, q_p⟩ := B_p.all6; obtain ⟨q_q_0, q_q_1, q_q_2, q_q_3, q_q_4, q_q_5, f_q_0, f_q_1, f_q_2, f_q_3, f_q_4, f_q_5, q_q⟩ := B_q.all6; obtain ⟨q_r_0, q_r_1, q_r_2, q_r_3, q_r_4, q_r_5, f_r_0, f_r_1, f_r_2, f_r_3, f_r_4, f_r_5, q_r⟩ := B_r.all6; have ne_w3_p : ¬ (w3.heap.size = w.heap.size) := (by omega); have ne_w3_q : ¬ (w3.heap.size = w.heap.size + 1) := (by omega); have ne_w3_r : ¬ (w3.heap.size = w.heap.size + 1 + 1) := (by omega); have en_w3_p : ¬ (w.heap.size = w3.heap.size) := (by omega); have en_w3_q : ¬ (w.heap.size + 1 = w3.heap.size) := (by omega); have en_w3_r : ¬ (w.heap.size + 1 + 1 = w3.heap.size) := (by omega); (first | (have qE0 := E.cell 0 rfl; have qE1 := E.cell 1 rfl; have qE2 := E.cell 2 rfl; have fE0 := E.frozen 0; have fE1 := E.frozen 1; have fE2 := E.frozen 2; have qE := E.lt) | skip)))
    all_goals (go_wp2_with fail; go_meet; exact ⟨_, A5, D5, c5, e5, rfl, leA, (by first | exact Bx.new _ _ _ | exact Bx.put3 E _ _ _ | exact Bx.put3 (Bx.new _ _ _) _ _ _ | exact Bx.put3 (Bx.drew (Bx.new _ _ _)) _ _ _), (by refine Row.more (lo := p3.heap.size) ?_ leA; first | exact (Row.far_set (Row.far_set (Row.far_set r5 (by first | (simp <;> done) | (simp; omega) | omega) _) (by first | (simp <;> done) | (simp; omega) | omega) _) (by first | (simp <;> done) | (simp; omega) | omega) _) | exact Row.below (B := w3.heap.size) r5 oldB (Nat.le_refl _)), (by refine Row.more (lo := p3.heap.size) ?_ leA; first | exact (Row.far_set (Row.far_set (Row.far_set s5 (by first | (simp <;> done) | (simp; omega) | omega) _) (by first | (simp <;> done) | (simp; omega) | omega) _) (by first | (simp <;> done) | (simp; omega) | omega) _) | exact Row.below (B := w3.heap.size) s5 oldB (Nat.le_refl _)), Below.trans (b := w3) OP oldB⟩)
  case rest =>
  obtain ⟨g_f5, A5, D5, c5, e5, rfl, hg_f5, B_f5, r5, s5, o4⟩ := hcut
  obtain ⟨w4, hw⟩ : ∃ x, x = wc := ⟨_, rfl⟩
  subst hw
  clear q_p_0 q_p_1 q_p_2 q_p_3 q_p_4 q_p_5 f_p_0 f_p_1 f_p_2 f_p_3 f_p_4 f_p_5 q_p q_q_0 q_q_1 q_q_2 q_q_3 q_q_4 q_q_5 f_q_0 f_q_1 f_q_2 f_q_3 f_q_4 f_q_5 q_q q_r_0 q_r_1 q_r_2 q_r_3 q_r_4 q_r_5 f_r_0 f_r_1 f_r_2 f_r_3 f_r_4 f_r_5 q_r
  clear ne_w0_p en_w0_p ne_w0_q en_w0_q ne_w0_r en_w0_r
  replace B_p := Bx.old B_p o4
  replace B_q := Bx.old B_q o4
  replace B_r := Bx.old B_r o4
  replace O := Old.trans O o4
  have zw4 := o4.size
  have lt_f5 := B_f5.lt
  have ne_f5_p : ¬ (g_f5 = w.heap.size) := by omega
  have en_f5_p : ¬ (w.heap.size = g_f5) := by omega
  have ne_f5_q : ¬ (g_f5 = w.heap.size + 1) := by omega
  have en_f5_q : ¬ (w.heap.size + 1 = g_f5) := by omega
  have ne_f5_r : ¬ (g_f5 = w.heap.size + 1 + 1) := by omega
  have en_f5_r : ¬ (w.heap.size + 1 + 1 = g_f5) := by omega
  have lim_r5 := Row.lim r5
  have lim_s5 := Row.lim s5
  obtain ⟨q_p_0, q_p_1, q_p_2, q_p_3, q_p_4, q_p_5, f_p_0, f_p_1, f_p_2, f_p_3, f_p_4, f_p_5, q_p⟩ := B_p.all6
  obtain ⟨q_q_0, q_q_1, q_q_2, q_q_3, q_q_4, q_q_5, f_q_0, f_q_1, f_q_2, f_q_3, f_q_4, f_q_5, q_q⟩ := B_q.all6
  obtain ⟨q_r_0, q_r_1, q_r_2, q_r_3, q_r_4, q_r_5, f_r_0, f_r_1, f_r_2, f_r_3, f_r_4, f_r_5, q_r⟩ := B_r.all6
  obtain ⟨q_f5_0, q_f5_1, q_f5_2, f_f5_0, f_f5_1, f_f5_2, q_f5⟩ := B_f5.all3
  have ne_w4_p : ¬ (w4.heap.size = w.heap.size) := (by omega)
  have ne_w4_q : ¬ (w4.heap.size = w.heap.size + 1) := (by omega)
  have ne_w4_r : ¬ (w4.heap.size = w.heap.size + 1 + 1) := (by omega)
  have ne_w4_f5 : ¬ (w4.heap.size = g_f5) := (by omega)
  have en_w4_p : ¬ (w.heap.size = w4.heap.size) := (by omega)
  have en_w4_q : ¬ (w.heap.size + 1 = w4.heap.size) := (by omega)
  have en_w4_r : ¬ (w.heap.size + 1 + 1 = w4.heap.size) := (by omega)
  have en_w4_f5 : ¬ (g_f5 = w4.heap.size) := (by omega)
  go_upto_region 2 with fail
  go_cut [8] (fun sl wx => ∃ (g : Nat) (A6 D6 : Option Addr) (c6 e6 : Nat), sl = .pointer (some ⟨g, 0, none⟩) ∧ w4.heap.size ≤ g ∧ Bx wx g #[.bool (sgnZ z6), .slice A6 (len (magZ z6)) c6, .slice D6 (len d6) e6] ∧ Row wx w4.heap.size A6 (len (magZ z6)) c6 (digI (magZ z6)) ∧ Row wx w4.heap.size D6 (len d6) e6 (digI d6) ∧ Old w4 wx)
  case first =>
    have OP : Old w4 w4 := Old.refl _
    go_region_held3 (fun w' => w'.cell? ⟨w.heap.size, 0, none⟩ = some (.bool bpx) ∧ w'.cell? ⟨w.heap.size, 1, none⟩ = some (.slice Apx npx cpx) ∧ w'.cell? ⟨w.heap.size, 2, none⟩ = some (.slice Dpx mpx epx) ∧ w'.cell? ⟨w.heap.size, 3, none⟩ = some (.bool bpy) ∧ w'.cell? ⟨w.heap.size, 4, none⟩ = some (.slice Apy npy cpy) ∧ w'.cell? ⟨w.heap.size, 5, none⟩ = some (.slice Dpy mpy epy) ∧ w'.cell? ⟨w.heap.size + 1, 0, none⟩ = some (.bool bqx) ∧ w'.cell? ⟨w.heap.size + 1, 1, none⟩ = some (.slice Aqx nqx cqx) ∧ w'.cell? ⟨w.heap.size + 1, 2, none⟩ = some (.slice Dqx mqx eqx) ∧ w'.cell? ⟨w.heap.size + 1, 3, none⟩ = some (.bool bqy) ∧ w'.cell? ⟨w.heap.size + 1, 4, none⟩ = some (.slice Aqy nqy cqy) ∧ w'.cell? ⟨w.heap.size + 1, 5, none⟩ = some (.slice Dqy mqy eqy) ∧ w'.cell? ⟨w.heap.size + 1 + 1, 0, none⟩ = some (.bool brx) ∧ w'.cell? ⟨w.heap.size + 1 + 1, 1, none⟩ = some (.slice Arx nrx crx) ∧ w'.cell? ⟨w.heap.size + 1 + 1, 2, none⟩ = some (.slice Drx mrx erx) ∧ w'.cell? ⟨w.heap.size + 1 + 1, 3, none⟩ = some (.bool bry) ∧ w'.cell? ⟨w.heap.size + 1 + 1, 4, none⟩ = some (.slice Ary nry cry) ∧ w'.cell? ⟨w.heap.size + 1 + 1, 5, none⟩ = some (.slice Dry mry ery) ∧ w'.cell? ⟨g_f5, 0, none⟩ = some (.bool (sgnZ z5)) ∧ w'.cell? ⟨g_f5, 1, none⟩ = some (.slice A5 (len (magZ z5)) c5) ∧ w'.cell? ⟨g_f5, 2, none⟩ = some (.slice D5 (len d5) e5)) (go_keep)
      (first
       | (go_at_call 71; refine callsNamed ?_; intro p5 hp; clear q_p_0 q_p_1 q_p_2 q_p_3 q_p_4 q_p_5 f_p_0 f_p_1 f_p_2 f_p_3 f_p_4 f_p_5 q_p q_q_0 q_q_1 q_q_2 q_q_3 q_q_4 q_q_5 f_q_0 f_q_1 f_q_2 f_q_3 f_q_4 f_q_5 q_q q_r_0 q_r_1 q_r_2 q_r_3 q_r_4 q_r_5 f_r_0 f_r_1 f_r_2 f_r_3 f_r_4 f_r_5 q_r q_f5_0 q_f5_1 q_f5_2 f_f5_0 f_f5_1 f_f5_2 q_f5; have O' : Old w p5 := (by rw [hp]; exact Below.trans (b := w4) O oldB); replace B_p : Bx p5 (w.heap.size) #[.bool bpx, .slice Apx npx cpx, .slice Dpx mpx epx, .bool bpy, .slice Apy npy cpy, .slice Dpy mpy epy] := (bxK B_p hp); replace B_q : Bx p5 (w.heap.size + 1) #[.bool bqx, .slice Aqx nqx cqx, .slice Dqx mqx eqx, .bool bqy, .slice Aqy nqy cqy, .slice Dqy mqy eqy] := (bxK B_q hp); replace B_r : Bx p5 (w.heap.size + 1 + 1) #[.bool brx, .slice Arx nrx crx, .slice Drx mrx erx, .bool bry, .slice Ary nry cry, .slice Dry mry ery] := (bxK B_r hp); replace B_f5 : Bx p5 (g_f5) #[.bool (sgnZ z5), .slice A5 (len (magZ z5)) c5, .slice D5 (len d5) e5] := (bxK B_f5 hp); replace r5 := rowK r5 hp; replace s5 := rowK s5 hp; replace OP : Old w4 p5 := (by rw [hp]; exact Below.trans (b := w4) OP oldB); (first | (replace E := bxK E hp) | (have E : Bx p5 w4.heap.size #[.bool false, .slice none 0 0, .slice none 0 0] := (eNew hp); have nE_p : ¬ (w4.heap.size = w.heap.size) := (by omega); have eN_p : ¬ (w.heap.size = w4.heap.size) := (by omega); have nE_q : ¬ (w4.heap.size = w.heap.size + 1) := (by omega); have eN_q : ¬ (w.heap.size + 1 = w4.heap.size) := (by omega); have nE_r : ¬ (w4.heap.size = w.heap.size + 1 + 1) := (by omega); have eN_r : ¬ (w.heap.size + 1 + 1 = w4.heap.size) := (by omega); have nE_f5 : ¬ (w4.heap.size = g_f5) := (by omega); have eN_f5 : ¬ (g_f5 = w4.heap.size) := (by omega); have ltE := Bx.lt E) | skip); have zp5 : w4.heap.size ≤ p5.heap.size := (by rw [hp]; exact leA); clear hp O; have O := O'; clear O'; (with_reducible refine (retZ_to HV3.out (spec_RatSub bqy Aqy nqy cqy lqy fqy Dqy mqy eqy uqy gqy bpy Apy npy cpy lpy fpy Dpy mpy epy upy gpy _ (Row.below (B := w.heap.size) hqy O (Nat.le_refl _)) (Row.below (B := w.heap.size) kqy O (Nat.le_refl _)) (Row.below (B := w.heap.size) hpy O (Nat.le_refl _)) (Row.below (B := w.heap.size) kpy O (Nat.le_refl _)) hnqy hmqy hnpy hmpy)).mono ?_); rintro e w5 ⟨⟨A3, c3, D3, e3, rfl, r3, s3, ap3⟩, o5⟩; replace B_p := Bx.old B_p o5; replace B_q := Bx.old B_q o5; replace B_r := Bx.old B_r o5; replace B_f5 := Bx.old B_f5 o5; replace r5 := Row.below r5 o5 (Nat.le_refl _); replace s5 := Row.below s5 o5 (Nat.le_refl _); replace O := Old.trans O o5; replace OP := Old.trans OP o5; (first | (replace E := Bx.old E o5) | skip); have zw5 := o5.size; replace r3 := Row.more (lo' := p5.heap.size) r3 leA; replace s3 := Row.more (lo' := p5.heap.size) s3 leA; have lim_r3 := Row.lim r3; have lim_s3 := Row.lim s3; have AP3 := Lib.hid ap3; clear ap3; obtain ⟨q_p_0, q_p_1, q_p_2, q_p_3, q_p_4, q_p_5, f_p_0, f_p_1, f_p_2, f_p_3, f_p_4, f_p_5, q_p⟩ := B_p.all6; obtain ⟨q_q_0, q_q_1, q_q_2, q_q_3, q_q_4, q_q_5, f_q_0, f_q_1, f_q_2, f_q_3, f_q_4, f_q_5, q_q⟩ := B_q.all6; obtain ⟨q_r_0, q_r_1, q_r_2, q_r_3, q_r_4, q_r_5, f_r_0, f_r_1, f_r_2, f_r_3, f_r_4, f_r_5, q_r⟩ := B_r.all6; obtain ⟨q_f5_0, q_f5_1, q_f5_2, f_f5_0, f_f5_1, f_f5_2, q_f5⟩ := B_f5.all3; have ne_w5_p : ¬ (w5.heap.size = w.heap.size) := (by omega); have ne_w5_q : ¬ (w5.heap.size = w.heap.size + 1) := (by omega); have ne_w5_r : ¬ (w5.heap.size = w.heap.size + 1 + 1) := (by omega); have ne_w5_f5 : ¬ (w5.heap.size = g_f5) := (by omega); have en_w5_p : ¬ (w.heap.size = w5.heap.size) := (by omega); have en_w5_q : ¬ (w.heap.size + 1 = w5.heap.size) := (by omega); have en_w5_r : ¬ (w.heap.size + 1 + 1 = w5.heap.size) := (by omega); have en_w5_f5 : ¬ (g_f5 = w5.heap.size) := (by omega); (first | (have qE0 := E.cell 0 rfl; have qE1 := E.cell 1 rfl; have qE2 := E.cell 2 rfl; have fE0 := E.frozen 0; have fE1 := E.frozen 1; have fE2 := E.frozen 2; have qE := E.lt) | skip))
       | (go_at_call 71; (first | (clear qE0 qE1 qE2 fE0 fE1 fE2 qE) | skip); refine callsNamed ?_; intro p6 hp; clear q_p_0 q_p_1 q_p_2 q_p_3 q_p_4 q_p_5 f_p_0 f_p_1 f_p_2 f_p_3 f_p_4 f_p_5 q_p q_q_0 q_q_1 q_q_2 q_q_3 q_q_4 q_q_5 f_q_0 f_q_1 f_q_2 f_q_3 f_q_4 f_q_5 q_q q_r_0 q_r_1 q_r_2 q_r_3 q_r_4 q_r_5 f_r_0 f_r_1 f_r_2 f_r_3 f_r_4 f_r_5 q_r q_f5_0 q_f5_1 q_f5_2 f_f5_0 f_f5_1 f_f5_2 q_f5; have O' : Old w p6 := (by rw [hp]; exact Below.trans (b := w5) O oldB); replace B_p : Bx p6 (w.heap.size) #[.bool bpx, .slice Apx npx cpx, .slice Dpx mpx epx, .bool bpy, .slice Apy npy cpy, .slice Dpy mpy epy] := (bxK B_p hp); replace B_q : Bx p6 (w.heap.size + 1) #[.bool bqx, .slice Aqx nqx cqx, .slice Dqx mqx eqx, .bool bqy, .slice Aqy nqy cqy, .slice Dqy mqy eqy] := (bxK B_q hp); replace B_r : Bx p6 (w.heap.size + 1 + 1) #[.bool brx, .slice Arx nrx crx, .slice Drx mrx erx, .bool bry, .slice Ary nry cry, .slice Dry mry ery] := (bxK B_r hp); replace B_f5 : Bx p6 (g_f5) #[.bool (sgnZ z5), .slice A5 (len (magZ z5)) c5, .slice D5 (len d5) e5] := (bxK B_f5 hp); replace r5 := rowK r5 hp; replace s5 := rowK s5 hp; replace r3 := rowK r3 hp; replace s3 := rowK s3 hp; replace OP : Old w4 p6 := (by rw [hp]; exact Below.trans (b := w5) OP oldB); (first | (replace E := bxK E hp) | (have E : Bx p6 w5.heap.size #[.bool false, .slice none 0 0, .slice none 0 0] := (eNew hp); have nE_p : ¬ (w5.heap.size = w.heap.size) := (by omega); have eN_p : ¬ (w.heap.size = w5.heap.size) := (by omega); have nE_q : ¬ (w5.heap.size = w.heap.size + 1) := (by omega); have eN_q : ¬ (w.heap.size + 1 = w5.heap.size) := (by omega); have nE_r : ¬ (w5.heap.size = w.heap.size + 1 + 1) := (by omega); have eN_r : ¬ (w.heap.size + 1 + 1 = w5.heap.size) := (by omega); have nE_f5 : ¬ (w5.heap.size = g_f5) := (by omega); have eN_f5 : ¬ (g_f5 = w5.heap.size) := (by omega); have ltE := Bx.lt E) | skip); have zp6 : w5.heap.size ≤ p6.heap.size := (by rw [hp]; exact leA); clear hp O; have O := O'; clear O'; (with_reducible refine (retZ_to HV4.out (spec_RatSub brx Arx nrx crx lrx frx Drx mrx erx urx grx bpx Apx npx cpx lpx fpx Dpx mpx epx upx gpx _ (Row.below (B := w.heap.size) hrx O (Nat.le_refl _)) (Row.below (B := w.heap.size) krx O (Nat.le_refl _)) (Row.below (B := w.heap.size) hpx O (Nat.le_refl _)) (Row.below (B := w.heap.size) kpx O (Nat.le_refl _)) hnrx hmrx hnpx hmpx)).mono ?_); rintro e w6 ⟨⟨A4, c4, D4, e4, rfl, r4, s4, ap4⟩, o6⟩; replace B_p := Bx.old B_p o6; replace B_q := Bx.old B_q o6; replace B_r := Bx.old B_r o6; replace B_f5 := Bx.old B_f5 o6; replace r5 := Row.below r5 o6 (Nat.le_refl _); replace s5 := Row.below s5 o6 (Nat.le_refl _); replace r3 := Row.below r3 o6 (Nat.le_refl _); replace s3 := Row.below s3 o6 (Nat.le_refl _); replace O := Old.trans O o6; replace OP := Old.trans OP o6; (first | (replace E := Bx.old E o6) | skip); have zw6 := o6.size; replace r4 := Row.more (lo' := p6.heap.size) r4 leA; replace s4 := Row.more (lo' := p6.heap.size) s4 leA; have lim_r4 := Row.lim r4; have lim_s4 := Row.lim s4; have AP4 := Lib.hid ap4; clear ap4; obtain ⟨q_p_0, q_p_1, q_p_2, q_p_3, q_p_4, q_p_5, f_p_0, f_p_1, f_p_2, f_p_3, f_p_4, f_p_5, q_p⟩ := B_p.all6; obtain ⟨q_q_0, q_q_1, q_q_2, q_q_3, q_q_4, q_q_5, f_q_0, f_q_1, f_q_2, f_q_3, f_q_4, f_q_5, q_q⟩ := B_q.all6; obtain ⟨q_r_0, q_r_1, q_r_2, q_r_3, q_r_4, q_r_5, f_r_0, f_r_1, f_r_2, f_r_3, f_r_4, f_r_5, q_r⟩ := B_r.all6; obtain ⟨q_f5_0, q_f5_1, q_f5_2, f_f5_0, f_f5_1, f_f5_2, q_f5⟩ := B_f5.all3; have ne_w6_p : ¬ (w6.heap.size = w.heap.size) := (by omega); have ne_w6_q : ¬ (w6.heap.size = w.heap.size + 1) := (by omega); have ne_w6_r : ¬ (w6.heap.size = w.heap.size + 1 + 1) := (by omega); have ne_w6_f5 : ¬ (w6.heap.size = g_f5) := (by omega); have en_w6_p : ¬ (w.heap.size = w6.heap.size) := (by omega); have en_w6_q : ¬ (w.heap.size + 1 = w6.heap.size) := (by omega); have en_w6_r : ¬ (w.heap.size + 1 + 1 = w6.heap.size) := (by omega); have en_w6_f5 : ¬ (g_f5 = w6.heap.size) := (by omega); (first | (have qE0 := E.cell 0 rfl; have qE1 := E.cell 1 rfl; have qE2 := E.cell 2 rfl; have fE0 := E.frozen 0; have fE1 := E.frozen 1; have fE2 := E.frozen 2; have qE := E.lt) | skip))
       | (go_at_call 63; (first | (clear qE0 qE1 qE2 fE0 fE1 fE2 qE) | skip); refine callsNamed ?_; intro p7 hp; clear q_p_0 q_p_1 q_p_2 q_p_3 q_p_4 q_p_5 f_p_0 f_p_1 f_p_2 f_p_3 f_p_4 f_p_5 q_p q_q_0 q_q_1 q_q_2 q_q_3 q_q_4 q_q_5 f_q_0 f_q_1 f_q_2 f_q_3 f_q_4 f_q_5 q_q q_r_0 q_r_1 q_r_2 q_r_3 q_r_4 q_r_5 f_r_0 f_r_1 f_r_2 f_r_3 f_r_4 f_r_5 q_r q_f5_0 q_f5_1 q_f5_2 f_f5_0 f_f5_1 f_f5_2 q_f5; have O' : Old w p7 := (by rw [hp]; exact Below.trans (b := w6) O oldB); replace B_p : Bx p7 (w.heap.size) #[.bool bpx, .slice Apx npx cpx, .slice Dpx mpx epx, .bool bpy, .slice Apy npy cpy, .slice Dpy mpy epy] := (bxK B_p hp); replace B_q : Bx p7 (w.heap.size + 1) #[.bool bqx, .slice Aqx nqx cqx, .slice Dqx mqx eqx, .bool bqy, .slice Aqy nqy cqy, .slice Dqy mqy eqy] := (bxK B_q hp); replace B_r : Bx p7 (w.heap.size + 1 + 1) #[.bool brx, .slice Arx nrx crx, .slice Drx mrx erx, .bool bry, .slice Ary nry cry, .slice Dry mry ery] := (bxK B_r hp); replace B_f5 : Bx p7 (g_f5) #[.bool (sgnZ z5), .slice A5 (len (magZ z5)) c5, .slice D5 (len d5) e5] := (bxK B_f5 hp); replace r5 := rowK r5 hp; replace s5 := rowK s5 hp; replace r3 := rowK r3 hp; replace s3 := rowK s3 hp; replace r4 := rowK r4 hp; replace s4 := rowK s4 hp; replace OP : Old w4 p7 := (by rw [hp]; exact Below.trans (b := w6) OP oldB); (first | (replace E := bxK E hp) | (have E : Bx p7 w6.heap.size #[.bool false, .slice none 0 0, .slice none 0 0] := (eNew hp); have nE_p : ¬ (w6.heap.size = w.heap.size) := (by omega); have eN_p : ¬ (w.heap.size = w6.heap.size) := (by omega); have nE_q : ¬ (w6.heap.size = w.heap.size + 1) := (by omega); have eN_q : ¬ (w.heap.size + 1 = w6.heap.size) := (by omega); have nE_r : ¬ (w6.heap.size = w.heap.size + 1 + 1) := (by omega); have eN_r : ¬ (w.heap.size + 1 + 1 = w6.heap.size) := (by omega); have nE_f5 : ¬ (w6.heap.size = g_f5) := (by omega); have eN_f5 : ¬ (g_f5 = w6.heap.size) := (by omega); have ltE := Bx.lt E) | skip); have zp7 : w6.heap.size ≤ p7.heap.size := (by rw [hp]; exact leA); clear hp O; have O := O'; clear O'; refine (retZ_to HV6.out (spec_RatMul_v z3 d3 A3 D3 c3 e3 _ _ z4 d4 A4 D4 c4 e4 _ _ _ r3 s3 N3.out r4 s4 N4.out)).mono ?_; rintro e w7 ⟨⟨A6, c6, D6, e6, rfl, r6, s6, ap6⟩, o7⟩; replace B_p := Bx.old B_p o7; replace B_q := Bx.old B_q o7; replace B_r := Bx.old B_r o7; replace B_f5 := Bx.old B_f5 o7; replace r5 := Row.below r5 o7 (Nat.le_refl _); replace s5 := Row.below s5 o7 (Nat.le_refl _); replace r3 := Row.below r3 o7 (Nat.le_refl _); replace s3 := Row.below s3 o7 (Nat.le_refl _); replace r4 := Row.below r4 o7 (Nat.le_refl _); replace s4 := Row.below s4 o7 (Nat.le_refl _); replace O := Old.trans O o7; replace OP := Old.trans OP o7; (first | (replace E := Bx.old E o7) | skip); have zw7 := o7.size; replace r6 := Row.more (lo' := p7.heap.size) r6 leA; replace s6 := Row.more (lo' := p7.heap.size) s6 leA; have lim_r6 := Row.lim r6; have lim_s6 := Row.lim s6; have AP6 := Lib.hid ap6; clear ap6; obtain ⟨q_p_0, q_p_1, q_p_2, q_p_3, q_p_4, q_p_5, f_p_0, f_p_1, f_p_2, f_p_3, f_p_4, f_p_5, q_p⟩ := B_p.all6; obtain ⟨q_q_0, q_q_1, q_q_2, q_q_3, q_q_4, q_q_5, f_q_0, f_q_1, f_q_2, f_q_3, f_q_4, f_q_5, q_q⟩ := B_q.all6; obtain ⟨q_r_0, q_r_1, q_r_2, q_r_3, q_r_4, q_r_5, f_r_0, f_r_1, f_r_2, f_r_3, f_r_4, f_r_5, q_r⟩ := B_r.all6; obtain ⟨q_f5_0, q_f5_1, q_f5_2, f_f5_0, f_f5_1, f_f5_2, q_f5⟩ := B_f5.all3; have ne_w7_p : ¬ (w7.heap.size = w.heap.size) := (by omega); have ne_w7_q : ¬ (w7.heap.size = w.heap.size + 1) := (by omega); have ne_w7_r : ¬ (w7.heap.size = w.heap.size + 1 + 1) := (by omega); have ne_w7_f5 : ¬ (w7.heap.size = g_f5) := (by omega); have en_w7_p : ¬ (w.heap.size = w7.heap.size) := (by omega); have en_w7_q : ¬ (w.heap.size + 1 = w7.heap.size) := (by omega); have en_w7_r : ¬ (w.heap.size + 1 + 1 = w7.heap.size) := (by omega); have en_w7_f5 : ¬ (g_f5 = w7.heap.size) := (by omega); (first | (have qE0 := E.cell 0 rfl; have qE1 := E.cell 1 rfl; have qE2 := E.cell 2 rfl; have fE0 := E.frozen 0; have fE1 := E.frozen 1; have fE2 := E.frozen 2; have qE := E.lt) | skip)))
    all_goals (go_wp2_with fail; go_meet; exact ⟨_, A6, D6, c6, e6, rfl, leA, (by first | exact Bx.new _ _ _ | exact Bx.put3 E _ _ _ | exact Bx.put3 (Bx.new _ _ _) _ _ _ | exact Bx.put3 (Bx.drew (Bx.new _ _ _)) _ _ _), (by refine Row.more (lo := p7.heap.size) ?_ leA; first | exact (Row.far_set (Row.far_set (Row.far_set r6 (by first | (simp <;> done) | (simp; omega) | omega) _) (by first | (simp <;> done) | (simp; omega) | omega) _) (by first | (simp <;> done) | (simp; omega) | omega) _) | exact Row.below (B := w7.heap.size) r6 oldB (Nat.le_refl _)), (by refine Row.more (lo := p7.heap.size) ?_ leA; first | exact (Row.far_set (Row.far_set (Row.far_set s6 (by first | (simp <;> done) | (simp; omega) | omega) _) (by first | (simp <;> done) | (simp; omega) | omega) _) (by first | (simp <;> done) | (simp; omega) | omega) _) | exact Row.below (B := w7.heap.size) s6 oldB (Nat.le_refl _)), Below.trans (b := w7) OP oldB⟩)
  case rest =>
  obtain ⟨g_f6, A6, D6, c6, e6, rfl, hg_f6, B_f6, r6, s6, o8⟩ := hcut
  obtain ⟨w8, hw⟩ : ∃ x, x = wc := ⟨_, rfl⟩
  subst hw
  clear q_p_0 q_p_1 q_p_2 q_p_3 q_p_4 q_p_5 f_p_0 f_p_1 f_p_2 f_p_3 f_p_4 f_p_5 q_p q_q_0 q_q_1 q_q_2 q_q_3 q_q_4 q_q_5 f_q_0 f_q_1 f_q_2 f_q_3 f_q_4 f_q_5 q_q q_r_0 q_r_1 q_r_2 q_r_3 q_r_4 q_r_5 f_r_0 f_r_1 f_r_2 f_r_3 f_r_4 f_r_5 q_r q_f5_0 q_f5_1 q_f5_2 f_f5_0 f_f5_1 f_f5_2 q_f5
  clear ne_w4_p en_w4_p ne_w4_q en_w4_q ne_w4_r en_w4_r ne_w4_f5 en_w4_f5
  replace B_p := Bx.old B_p o8
  replace B_q := Bx.old B_q o8
  replace B_r := Bx.old B_r o8
  replace B_f5 := Bx.old B_f5 o8
  replace r5 := Row.below r5 o8 (Nat.le_refl _)
  replace s5 := Row.below s5 o8 (Nat.le_refl _)
  replace O := Old.trans O o8
  have zw8 := o8.size
  have lt_f6 := B_f6.lt
  have ne_f6_p : ¬ (g_f6 = w.heap.size) := by omega
  have en_f6_p : ¬ (w.heap.size = g_f6) := by omega
  have ne_f6_q : ¬ (g_f6 = w.heap.size + 1) := by omega
  have en_f6_q : ¬ (w.heap.size + 1 = g_f6) := by omega
  have ne_f6_r : ¬ (g_f6 = w.heap.size + 1 + 1) := by omega
  have en_f6_r : ¬ (w.heap.size + 1 + 1 = g_f6) := by omega
  have ne_f6_f5 : ¬ (g_f6 = g_f5) := by omega
  have en_f6_f5 : ¬ (g_f5 = g_f6) := by omega
  have lim_r6 := Row.lim r6
  have lim_s6 := Row.lim s6
  obtain ⟨q_p_0, q_p_1, q_p_2, q_p_3, q_p_4, q_p_5, f_p_0, f_p_1, f_p_2, f_p_3, f_p_4, f_p_5, q_p⟩ := B_p.all6
  obtain ⟨q_q_0, q_q_1, q_q_2, q_q_3, q_q_4, q_q_5, f_q_0, f_q_1, f_q_2, f_q_3, f_q_4, f_q_5, q_q⟩ := B_q.all6
  obtain ⟨q_r_0, q_r_1, q_r_2, q_r_3, q_r_4, q_r_5, f_r_0, f_r_1, f_r_2, f_r_3, f_r_4, f_r_5, q_r⟩ := B_r.all6
  obtain ⟨q_f5_0, q_f5_1, q_f5_2, f_f5_0, f_f5_1, f_f5_2, q_f5⟩ := B_f5.all3
  obtain ⟨q_f6_0, q_f6_1, q_f6_2, f_f6_0, f_f6_1, f_f6_2, q_f6⟩ := B_f6.all3
  go_wp2_with fail
  refine callsNamed ?_
  intro p9 hp
  clear q_p_0 q_p_1 q_p_2 q_p_3 q_p_4 q_p_5 f_p_0 f_p_1 f_p_2 f_p_3 f_p_4 f_p_5 q_p q_q_0 q_q_1 q_q_2 q_q_3 q_q_4 q_q_5 f_q_0 f_q_1 f_q_2 f_q_3 f_q_4 f_q_5 q_q q_r_0 q_r_1 q_r_2 q_r_3 q_r_4 q_r_5 f_r_0 f_r_1 f_r_2 f_r_3 f_r_4 f_r_5 q_r q_f5_0 q_f5_1 q_f5_2 f_f5_0 f_f5_1 f_f5_2 q_f5 q_f6_0 q_f6_1 q_f6_2 f_f6_0 f_f6_1 f_f6_2 q_f6
  have O' : Old w p9 := (by rw [hp]; exact Below.trans (b := w8) O oldB)
  replace B_p : Bx p9 (w.heap.size) #[.bool bpx, .slice Apx npx cpx, .slice Dpx mpx epx, .bool bpy, .slice Apy npy cpy, .slice Dpy mpy epy] := (bxK B_p hp)
  replace B_q : Bx p9 (w.heap.size + 1) #[.bool bqx, .slice Aqx nqx cqx, .slice Dqx mqx eqx, .bool bqy, .slice Aqy nqy cqy, .slice Dqy mqy eqy] := (bxK B_q hp)
  replace B_r : Bx p9 (w.heap.size + 1 + 1) #[.bool brx, .slice Arx nrx crx, .slice Drx mrx erx, .bool bry, .slice Ary nry cry, .slice Dry mry ery] := (bxK B_r hp)
  replace B_f5 : Bx p9 (g_f5) #[.bool (sgnZ z5), .slice A5 (len (magZ z5)) c5, .slice D5 (len d5) e5] := (bxK B_f5 hp)
  replace B_f6 : Bx p9 (g_f6) #[.bool (sgnZ z6), .slice A6 (len (magZ z6)) c6, .slice D6 (len d6) e6] := (bxK B_f6 hp)
  replace r5 := rowK r5 hp
  replace s5 := rowK s5 hp
  replace r6 := rowK r6 hp
  replace s6 := rowK s6 hp
  have zp9 : w8.heap.size ≤ p9.heap.size := (by rw [hp]; exact leA)
  clear hp O
  have O := O'
  clear O'
  refine (retZ_to HV7.out (spec_RatSub_v z5 d5 A5 D5 c5 e5 _ _ z6 d6 A6 D6 c6 e6 _ _ _ r5 s5 N5.out r6 s6 N6.out)).mono ?_
  rintro e w9 ⟨⟨A7, c7, D7, e7, rfl, r7, s7, ap7⟩, o9⟩
  replace B_p := Bx.old B_p o9
  replace B_q := Bx.old B_q o9
  replace B_r := Bx.old B_r o9
  replace B_f5 := Bx.old B_f5 o9
  replace B_f6 := Bx.old B_f6 o9
  replace r5 := Row.below r5 o9 (Nat.le_refl _)
  replace s5 := Row.below s5 o9 (Nat.le_refl _)
  replace r6 := Row.below r6 o9 (Nat.le_refl _)
  replace s6 := Row.below s6 o9 (Nat.le_refl _)
  replace O := Old.trans O o9
  have zw9 := o9.size
  replace r7 := Row.more (lo' := p9.heap.size) r7 leA
  replace s7 := Row.more (lo' := p9.heap.size) s7 leA
  have lim_r7 := Row.lim r7
  have lim_s7 := Row.lim s7
  have AP7 := Lib.hid ap7
  clear ap7
  obtain ⟨q_p_0, q_p_1, q_p_2, q_p_3, q_p_4, q_p_5, f_p_0, f_p_1, f_p_2, f_p_3, f_p_4, f_p_5, q_p⟩ := B_p.all6
  obtain ⟨q_q_0, q_q_1, q_q_2, q_q_3, q_q_4, q_q_5, f_q_0, f_q_1, f_q_2, f_q_3, f_q_4, f_q_5, q_q⟩ := B_q.all6
  obtain ⟨q_r_0, q_r_1, q_r_2, q_r_3, q_r_4, q_r_5, f_r_0, f_r_1, f_r_2, f_r_3, f_r_4, f_r_5, q_r⟩ := B_r.all6
  obtain ⟨q_f5_0, q_f5_1, q_f5_2, f_f5_0, f_f5_1, f_f5_2, q_f5⟩ := B_f5.all3
  obtain ⟨q_f6_0, q_f6_1, q_f6_2, f_f6_0, f_f6_1, f_f6_2, q_f6⟩ := B_f6.all3
  go_wp2_with fail
  refine callsNamed ?_
  intro p10 hp
  clear q_p_0 q_p_1 q_p_2 q_p_3 q_p_4 q_p_5 f_p_0 f_p_1 f_p_2 f_p_3 f_p_4 f_p_5 q_p q_q_0 q_q_1 q_q_2 q_q_3 q_q_4 q_q_5 f_q_0 f_q_1 f_q_2 f_q_3 f_q_4 f_q_5 q_q q_r_0 q_r_1 q_r_2 q_r_3 q_r_4 q_r_5 f_r_0 f_r_1 f_r_2 f_r_3 f_r_4 f_r_5 q_r q_f5_0 q_f5_1 q_f5_2 f_f5_0 f_f5_1 f_f5_2 q_f5 q_f6_0 q_f6_1 q_f6_2 f_f6_0 f_f6_1 f_f6_2 q_f6
  have O' : Old w p10 := (by rw [hp]; exact Below.trans (b := w9) O oldB)
  replace B_p : Bx p10 (w.heap.size) #[.bool bpx, .slice Apx npx cpx, .slice Dpx mpx epx, .bool bpy, .slice Apy npy cpy, .slice Dpy mpy epy] := (bxK B_p hp)
  replace B_q : Bx p10 (w.heap.size + 1) #[.bool bqx, .slice Aqx nqx cqx, .slice Dqx mqx eqx, .bool bqy, .slice Aqy nqy cqy, .slice Dqy mqy eqy] := (bxK B_q hp)
  replace B_r : Bx p10 (w.heap.size + 1 + 1) #[.bool brx, .slice Arx nrx crx, .slice Drx mrx erx, .bool bry, .slice Ary nry cry, .slice Dry mry ery] := (bxK B_r hp)
  replace B_f5 : Bx p10 (g_f5) #[.bool (sgnZ z5), .slice A5 (len (magZ z5)) c5, .slice D5 (len d5) e5] := (bxK B_f5 hp)
  replace B_f6 : Bx p10 (g_f6) #[.bool (sgnZ z6), .slice A6 (len (magZ z6)) c6, .slice D6 (len d6) e6] := (bxK B_f6 hp)
  replace r5 := rowK r5 hp
  replace s5 := rowK s5 hp
  replace r6 := rowK r6 hp
  replace s6 := rowK s6 hp
  replace r7 := rowK r7 hp
  replace s7 := rowK s7 hp
  have zp10 : w9.heap.size ≤ p10.heap.size := (by rw [hp]; exact leA)
  clear hp O
  have O := O'
  clear O'
  refine (spec_RatSign_v z7 d7 A7 D7 c7 e7 _ _ _ r7 s7 N7.out).mono ?_
  rintro e w10 ⟨rfl, o10⟩
  replace B_p := Bx.old B_p o10
  replace B_q := Bx.old B_q o10
  replace B_r := Bx.old B_r o10
  replace B_f5 := Bx.old B_f5 o10
  replace B_f6 := Bx.old B_f6 o10
  replace r5 := Row.below r5 o10 (Nat.le_refl _)
  replace s5 := Row.below s5 o10 (Nat.le_refl _)
  replace r6 := Row.below r6 o10 (Nat.le_refl _)
  replace s6 := Row.below s6 o10 (Nat.le_refl _)
  replace r7 := Row.below r7 o10 (Nat.le_refl _)
  replace s7 := Row.below s7 o10 (Nat.le_refl _)
  replace O := Old.trans O o10
  have zw10 := o10.size
  obtain ⟨q_p_0, q_p_1, q_p_2, q_p_3, q_p_4, q_p_5, f_p_0, f_p_1, f_p_2, f_p_3, f_p_4, f_p_5, q_p⟩ := B_p.all6
  obtain ⟨q_q_0, q_q_1, q_q_2, q_q_3, q_q_4, q_q_5, f_q_0, f_q_1, f_q_2, f_q_3, f_q_4, f_q_5, q_q⟩ := B_q.all6
  obtain ⟨q_r_0, q_r_1, q_r_2, q_r_3, q_r_4, q_r_5, f_r_0, f_r_1, f_r_2, f_r_3, f_r_4, f_r_5, q_r⟩ := B_r.all6
  obtain ⟨q_f5_0, q_f5_1, q_f5_2, f_f5_0, f_f5_1, f_f5_2, q_f5⟩ := B_f5.all3
  obtain ⟨q_f6_0, q_f6_1, q_f6_2, f_f6_0, f_f6_1, f_f6_2, q_f6⟩ := B_f6.all3
  go_wp2
  go_ret
  exact ret_int HE.out ⟨rfl, Below.trans (b := w10) O oldB⟩
set_option maxRecDepth 100000 in
set_option maxHeartbeats 8000000 in
theorem impl_Side_no  (bpx : Bool) (Apx : Option Addr) (npx cpx lpx : Nat) (fpx : Nat → Int) (Dpx : Option Addr) (mpx epx upx : Nat) (gpx : Nat → Int) (bpy : Bool) (Apy : Option Addr) (npy cpy lpy : Nat) (fpy : Nat → Int) (Dpy : Option Addr) (mpy epy upy : Nat) (gpy : Nat → Int) (bqx : Bool) (Aqx : Option Addr) (nqx cqx lqx : Nat) (fqx : Nat → Int) (Dqx : Option Addr) (mqx eqx uqx : Nat) (gqx : Nat → Int) (bqy : Bool) (Aqy : Option Addr) (nqy cqy lqy : Nat) (fqy : Nat → Int) (Dqy : Option Addr) (mqy eqy uqy : Nat) (gqy : Nat → Int) (brx : Bool) (Arx : Option Addr) (nrx crx lrx : Nat) (frx : Nat → Int) (Drx : Option Addr) (mrx erx urx : Nat) (grx : Nat → Int) (bry : Bool) (Ary : Option Addr) (nry cry lry : Nat) (fry : Nat → Int) (Dry : Option Addr) (mry ery ury : Nat) (gry : Nat → Int) (w : World) (hpx : Row w lpx Apx npx cpx fpx) (kpx : Row w upx Dpx mpx epx gpx) (hpy : Row w lpy Apy npy cpy fpy) (kpy : Row w upy Dpy mpy epy gpy) (hqx : Row w lqx Aqx nqx cqx fqx) (kqx : Row w uqx Dqx mqx eqx gqx) (hqy : Row w lqy Aqy nqy cqy fqy) (kqy : Row w uqy Dqy mqy eqy gqy) (hrx : Row w lrx Arx nrx crx frx) (krx : Row w urx Drx mrx erx grx) (hry : Row w lry Ary nry cry fry) (kry : Row w ury Dry mry ery gry) (hnpx : npx ≤ 1048576) (hmpx : mpx ≤ 1048576) (hnpy : npy ≤ 1048576) (hmpy : mpy ≤ 1048576) (hnqx : nqx ≤ 1048576) (hmqx : mqx ≤ 1048576) (hnqy : nqy ≤ 1048576) (hmqy : mqy ≤ 1048576) (hnrx : nrx ≤ 1048576) (hmrx : mrx ≤ 1048576) (hnry : nry ≤ 1048576) (hmry : mry ≤ 1048576) (q : (rIsValidPoint bpx npx fpx mpx gpx bpy npy fpy mpy gpy && rIsValidPoint bqx nqx fqx mqx gqx bqy nqy fqy mqy gqy && rIsValidPoint brx nrx frx mrx grx bry nry fry mry gry) = false) :
    Calls Try.prog 74 #[.agg #[.bool bpx, .slice Apx npx cpx, .slice Dpx mpx epx, .bool bpy, .slice Apy npy cpy, .slice Dpy mpy epy], .agg #[.bool bqx, .slice Aqx nqx cqx, .slice Dqx mqx eqx, .bool bqy, .slice Aqy nqy cqy, .slice Dqy mqy eqy], .agg #[.bool brx, .slice Arx nrx crx, .slice Drx mrx erx, .bool bry, .slice Ary nry cry, .slice Dry mry ery]] w fun e w' => e = .returned (.int .i64 (0)) ∧ Old w w' := by
  have Q := Lib.hid q
  clear q
  have O : Old w (((w.alloc (.cells #[.bool bpx, .slice Apx npx cpx, .slice Dpx mpx epx, .bool bpy, .slice Apy npy cpy, .slice Dpy mpy epy] 39)).alloc (.cells #[.bool bqx, .slice Aqx nqx cqx, .slice Dqx mqx eqx, .bool bqy, .slice Aqy nqy cqy, .slice Dqy mqy eqy] 39)).alloc (.cells #[.bool brx, .slice Arx nrx crx, .slice Drx mrx erx, .bool bry, .slice Ary nry cry, .slice Dry mry ery] 39)) := oldB
  have B_p : Bx (((w.alloc (.cells #[.bool bpx, .slice Apx npx cpx, .slice Dpx mpx epx, .bool bpy, .slice Apy npy cpy, .slice Dpy mpy epy] 39)).alloc (.cells #[.bool bqx, .slice Aqx nqx cqx, .slice Dqx mqx eqx, .bool bqy, .slice Aqy nqy cqy, .slice Dqy mqy eqy] 39)).alloc (.cells #[.bool brx, .slice Arx nrx crx, .slice Drx mrx erx, .bool bry, .slice Ary nry cry, .slice Dry mry ery] 39)) (w.heap.size) #[.bool bpx, .slice Apx npx cpx, .slice Dpx mpx epx, .bool bpy, .slice Apy npy cpy, .slice Dpy mpy epy] := by have h := (Bx.alloc (Bx.alloc (Bx.new w #[.bool bpx, .slice Apx npx cpx, .slice Dpx mpx epx, .bool bpy, .slice Apy npy cpy, .slice Dpy mpy epy] 39) (.cells #[.bool bqx, .slice Aqx nqx cqx, .slice Dqx mqx eqx, .bool bqy, .slice Aqy nqy cqy, .slice Dqy mqy eqy] 39)) (.cells #[.bool brx, .slice Arx nrx crx, .slice Drx mrx erx, .bool bry, .slice Ary nry cry, .slice Dry mry ery] 39)); simpa using h
  have B_q : Bx (((w.alloc (.cells #[.bool bpx, .slice Apx npx cpx, .slice Dpx mpx epx, .bool bpy, .slice Apy npy cpy, .slice Dpy mpy epy] 39)).alloc (.cells #[.bool bqx, .slice Aqx nqx cqx, .slice Dqx mqx eqx, .bool bqy, .slice Aqy nqy cqy, .slice Dqy mqy eqy] 39)).alloc (.cells #[.bool brx, .slice Arx nrx crx, .slice Drx mrx erx, .bool bry, .slice Ary nry cry, .slice Dry mry ery] 39)) (w.heap.size + 1) #[.bool bqx, .slice Aqx nqx cqx, .slice Dqx mqx eqx, .bool bqy, .slice Aqy nqy cqy, .slice Dqy mqy eqy] := by have h := (Bx.alloc (Bx.new (w.alloc (.cells #[.bool bpx, .slice Apx npx cpx, .slice Dpx mpx epx, .bool bpy, .slice Apy npy cpy, .slice Dpy mpy epy] 39)) #[.bool bqx, .slice Aqx nqx cqx, .slice Dqx mqx eqx, .bool bqy, .slice Aqy nqy cqy, .slice Dqy mqy eqy] 39) (.cells #[.bool brx, .slice Arx nrx crx, .slice Drx mrx erx, .bool bry, .slice Ary nry cry, .slice Dry mry ery] 39)); simpa using h
  have B_r : Bx (((w.alloc (.cells #[.bool bpx, .slice Apx npx cpx, .slice Dpx mpx epx, .bool bpy, .slice Apy npy cpy, .slice Dpy mpy epy] 39)).alloc (.cells #[.bool bqx, .slice Aqx nqx cqx, .slice Dqx mqx eqx, .bool bqy, .slice Aqy nqy cqy, .slice Dqy mqy eqy] 39)).alloc (.cells #[.bool brx, .slice Arx nrx crx, .slice Drx mrx erx, .bool bry, .slice Ary nry cry, .slice Dry mry ery] 39)) (w.heap.size + 1 + 1) #[.bool brx, .slice Arx nrx crx, .slice Drx mrx erx, .bool bry, .slice Ary nry cry, .slice Dry mry ery] := by have h := (Bx.new ((w.alloc (.cells #[.bool bpx, .slice Apx npx cpx, .slice Dpx mpx epx, .bool bpy, .slice Apy npy cpy, .slice Dpy mpy epy] 39)).alloc (.cells #[.bool bqx, .slice Aqx nqx cqx, .slice Dqx mqx eqx, .bool bqy, .slice Aqy nqy cqy, .slice Dqy mqy eqy] 39)) #[.bool brx, .slice Arx nrx crx, .slice Drx mrx erx, .bool bry, .slice Ary nry cry, .slice Dry mry ery] 39); simpa using h
  have ne_0_1 : ¬ (w.heap.size = w.heap.size + 1) := by omega
  have ne_0_2 : ¬ (w.heap.size = w.heap.size + 1 + 1) := by omega
  have ne_1_0 : ¬ (w.heap.size + 1 = w.heap.size) := by omega
  have ne_1_2 : ¬ (w.heap.size + 1 = w.heap.size + 1 + 1) := by omega
  have ne_2_0 : ¬ (w.heap.size + 1 + 1 = w.heap.size) := by omega
  have ne_2_1 : ¬ (w.heap.size + 1 + 1 = w.heap.size + 1) := by omega
  have ze : w.heap.size + 3 ≤ (((w.alloc (.cells #[.bool bpx, .slice Apx npx cpx, .slice Dpx mpx epx, .bool bpy, .slice Apy npy cpy, .slice Dpy mpy epy] 39)).alloc (.cells #[.bool bqx, .slice Aqx nqx cqx, .slice Dqx mqx eqx, .bool bqy, .slice Aqy nqy cqy, .slice Dqy mqy eqy] 39)).alloc (.cells #[.bool brx, .slice Arx nrx crx, .slice Drx mrx erx, .bool bry, .slice Ary nry cry, .slice Dry mry ery] 39)).heap.size := (by simp)
  go_enter Try.func74, Try.ntmps74
  go_wp2_with fail
  refine callsNamed ?_
  intro p1 hp
  have O' : Old w p1 := (by rw [hp]; exact Below.trans (b := (((w.alloc (.cells #[.bool bpx, .slice Apx npx cpx, .slice Dpx mpx epx, .bool bpy, .slice Apy npy cpy, .slice Dpy mpy epy] 39)).alloc (.cells #[.bool bqx, .slice Aqx nqx cqx, .slice Dqx mqx eqx, .bool bqy, .slice Aqy nqy cqy, .slice Dqy mqy eqy] 39)).alloc (.cells #[.bool brx, .slice Arx nrx crx, .slice Drx mrx erx, .bool bry, .slice Ary nry cry, .slice Dry mry ery] 39))) O oldB)
  replace B_p : Bx p1 (w.heap.size) #[.bool bpx, .slice Apx npx cpx, .slice Dpx mpx epx, .bool bpy, .slice Apy npy cpy, .slice Dpy mpy epy] := (bxK B_p hp)
  replace B_q : Bx p1 (w.heap.size + 1) #[.bool bqx, .slice Aqx nqx cqx, .slice Dqx mqx eqx, .bool bqy, .slice Aqy nqy cqy, .slice Dqy mqy eqy] := (bxK B_q hp)
  replace B_r : Bx p1 (w.heap.size + 1 + 1) #[.bool brx, .slice Arx nrx crx, .slice Drx mrx erx, .bool bry, .slice Ary nry cry, .slice Dry mry ery] := (bxK B_r hp)
  have E : Bx p1 (w.heap.size + 1 + 1 + 1) #[.bool bpx, .slice Apx npx cpx, .slice Dpx mpx epx, .bool bpy, .slice Apy npy cpy, .slice Dpy mpy epy, .bool bqx, .slice Aqx nqx cqx, .slice Dqx mqx eqx, .bool bqy, .slice Aqy nqy cqy, .slice Dqy mqy eqy, .bool brx, .slice Arx nrx crx, .slice Drx mrx erx, .bool bry, .slice Ary nry cry, .slice Dry mry ery] := (by rw [hp]; have h := Bx.new (((w.alloc (.cells #[.bool bpx, .slice Apx npx cpx, .slice Dpx mpx epx, .bool bpy, .slice Apy npy cpy, .slice Dpy mpy epy] 39)).alloc (.cells #[.bool bqx, .slice Aqx nqx cqx, .slice Dqx mqx eqx, .bool bqy, .slice Aqy nqy cqy, .slice Dqy mqy eqy] 39)).alloc (.cells #[.bool brx, .slice Arx nrx crx, .slice Drx mrx erx, .bool bry, .slice Ary nry cry, .slice Dry mry ery] 39)) #[.bool bpx, .slice Apx npx cpx, .slice Dpx mpx epx, .bool bpy, .slice Apy npy cpy, .slice Dpy mpy epy, .bool bqx, .slice Aqx nqx cqx, .slice Dqx mqx eqx, .bool bqy, .slice Aqy nqy cqy, .slice Dqy mqy eqy, .bool brx, .slice Arx nrx crx, .slice Drx mrx erx, .bool bry, .slice Ary nry cry, .slice Dry mry ery] 39; simpa using h)
  have zp1 : (((w.alloc (.cells #[.bool bpx, .slice Apx npx cpx, .slice Dpx mpx epx, .bool bpy, .slice Apy npy cpy, .slice Dpy mpy epy] 39)).alloc (.cells #[.bool bqx, .slice Aqx nqx cqx, .slice Dqx mqx eqx, .bool bqy, .slice Aqy nqy cqy, .slice Dqy mqy eqy] 39)).alloc (.cells #[.bool brx, .slice Arx nrx crx, .slice Drx mrx erx, .bool bry, .slice Ary nry cry, .slice Dry mry ery] 39)).heap.size ≤ p1.heap.size := (by rw [hp]; exact leA)
  clear hp O
  have O := O'
  clear O'
  refine (plain_to (by rw [Q.out]) (arePoints_3 bpx Apx npx cpx lpx fpx Dpx mpx epx upx gpx bpy Apy npy cpy lpy fpy Dpy mpy epy upy gpy bqx Aqx nqx cqx lqx fqx Dqx mqx eqx uqx gqx bqy Aqy nqy cqy lqy fqy Dqy mqy eqy uqy gqy brx Arx nrx crx lrx frx Drx mrx erx urx grx bry Ary nry cry lry fry Dry mry ery ury gry _ _ E (Row.below (B := w.heap.size) hpx O (Nat.le_refl _)) (Row.below (B := w.heap.size) kpx O (Nat.le_refl _)) (Row.below (B := w.heap.size) hpy O (Nat.le_refl _)) (Row.below (B := w.heap.size) kpy O (Nat.le_refl _)) (Row.below (B := w.heap.size) hqx O (Nat.le_refl _)) (Row.below (B := w.heap.size) kqx O (Nat.le_refl _)) (Row.below (B := w.heap.size) hqy O (Nat.le_refl _)) (Row.below (B := w.heap.size) kqy O (Nat.le_refl _)) (Row.below (B := w.heap.size) hrx O (Nat.le_refl _)) (Row.below (B := w.heap.size) krx O (Nat.le_refl _)) (Row.below (B := w.heap.size) hry O (Nat.le_refl _)) (Row.below (B := w.heap.size) kry O (Nat.le_refl _)) hnpx hmpx hnpy hmpy hnqx hmqx hnqy hmqy hnrx hmrx hnry hmry)).mono ?_
  rintro e w1 ⟨rfl, o1⟩
  replace B_p := Bx.old B_p o1
  replace B_q := Bx.old B_q o1
  replace B_r := Bx.old B_r o1
  replace O := Old.trans O o1
  have zw1 := o1.size
  obtain ⟨q_p_0, q_p_1, q_p_2, q_p_3, q_p_4, q_p_5, f_p_0, f_p_1, f_p_2, f_p_3, f_p_4, f_p_5, q_p⟩ := B_p.all6
  obtain ⟨q_q_0, q_q_1, q_q_2, q_q_3, q_q_4, q_q_5, f_q_0, f_q_1, f_q_2, f_q_3, f_q_4, f_q_5, q_q⟩ := B_q.all6
  obtain ⟨q_r_0, q_r_1, q_r_2, q_r_3, q_r_4, q_r_5, f_r_0, f_r_1, f_r_2, f_r_3, f_r_4, f_r_5, q_r⟩ := B_r.all6
  go_wp2
  go_ret
  exact ⟨rfl, Below.trans (b := w1) O oldB⟩
set_option maxRecDepth 100000 in
set_option maxHeartbeats 8000000 in
theorem impl_Side_yes  (zpx : Int) (dpx : Nat) (Apx Dpx : Option Addr) (cpx epx lpx mpx : Nat) (zpy : Int) (dpy : Nat) (Apy Dpy : Option Addr) (cpy epy lpy mpy : Nat) (zqx : Int) (dqx : Nat) (Aqx Dqx : Option Addr) (cqx eqx lqx mqx : Nat) (zqy : Int) (dqy : Nat) (Aqy Dqy : Option Addr) (cqy eqy lqy mqy : Nat) (zrx : Int) (drx : Nat) (Arx Drx : Option Addr) (crx erx lrx mrx : Nat) (zry : Int) (dry : Nat) (Ary Dry : Option Addr) (cry ery lry mry : Nat) (w : World)  (hpx : NatS w lpx Apx cpx (magZ zpx)) (kpx : NatS w mpx Dpx epx dpx) (npx : normF (zpx, dpx)) (hpy : NatS w lpy Apy cpy (magZ zpy)) (kpy : NatS w mpy Dpy epy dpy) (npy : normF (zpy, dpy)) (hqx : NatS w lqx Aqx cqx (magZ zqx)) (kqx : NatS w mqx Dqx eqx dqx) (nqx : normF (zqx, dqx)) (hqy : NatS w lqy Aqy cqy (magZ zqy)) (kqy : NatS w mqy Dqy eqy dqy) (nqy : normF (zqy, dqy)) (hrx : NatS w lrx Arx crx (magZ zrx)) (krx : NatS w mrx Drx erx drx) (nrx : normF (zrx, drx)) (hry : NatS w lry Ary cry (magZ zry)) (kry : NatS w mry Dry ery dry) (nry : normF (zry, dry)) (ppx : 0 < dpx) (ppy : 0 < dpy) (pqx : 0 < dqx) (pqy : 0 < dqy) (prx : 0 < drx) (pry : 0 < dry) :
    Calls Try.prog 74 #[.agg #[.bool (sgnZ zpx), .slice Apx (len (magZ zpx)) cpx, .slice Dpx (len dpx) epx, .bool (sgnZ zpy), .slice Apy (len (magZ zpy)) cpy, .slice Dpy (len dpy) epy], .agg #[.bool (sgnZ zqx), .slice Aqx (len (magZ zqx)) cqx, .slice Dqx (len dqx) eqx, .bool (sgnZ zqy), .slice Aqy (len (magZ zqy)) cqy, .slice Dqy (len dqy) eqy], .agg #[.bool (sgnZ zrx), .slice Arx (len (magZ zrx)) crx, .slice Drx (len drx) erx, .bool (sgnZ zry), .slice Ary (len (magZ zry)) cry, .slice Dry (len dry) ery]] w fun e w' => e = .returned (.int .i64 (sgnF (subF (mulF (subF (zqx, dqx) (zpx, dpx)) (subF (zry, dry) (zpy, dpy))) (mulF (subF (zqy, dqy) (zpy, dpy)) (subF (zrx, drx) (zpx, dpx)))))) ∧ Old w w' := by
  have Q : Hid ((rIsValidPoint (sgnZ zpx) (len (magZ zpx)) (digI (magZ zpx)) (len dpx) (digI dpx) (sgnZ zpy) (len (magZ zpy)) (digI (magZ zpy)) (len dpy) (digI dpy) && rIsValidPoint (sgnZ zqx) (len (magZ zqx)) (digI (magZ zqx)) (len dqx) (digI dqx) (sgnZ zqy) (len (magZ zqy)) (digI (magZ zqy)) (len dqy) (digI dqy) && rIsValidPoint (sgnZ zrx) (len (magZ zrx)) (digI (magZ zrx)) (len drx) (digI drx) (sgnZ zry) (len (magZ zry)) (digI (magZ zry)) (len dry) (digI dry)) = true) := Lib.hid (by rw [valid_yes npx npy ppx ppy, valid_yes nqx nqy pqx pqy, valid_yes nrx nry prx pry]; rfl)
  skip
  have Npx := Lib.hid npx
  have LNpx := norm_len npx
  have Lapx : len (magZ zpx) ≤ 24 := LNpx.1
  have Lbpx : len dpx ≤ 24 := LNpx.2
  clear npx LNpx
  have Npy := Lib.hid npy
  have LNpy := norm_len npy
  have Lapy : len (magZ zpy) ≤ 24 := LNpy.1
  have Lbpy : len dpy ≤ 24 := LNpy.2
  clear npy LNpy
  have Nqx := Lib.hid nqx
  have LNqx := norm_len nqx
  have Laqx : len (magZ zqx) ≤ 24 := LNqx.1
  have Lbqx : len dqx ≤ 24 := LNqx.2
  clear nqx LNqx
  have Nqy := Lib.hid nqy
  have LNqy := norm_len nqy
  have Laqy : len (magZ zqy) ≤ 24 := LNqy.1
  have Lbqy : len dqy ≤ 24 := LNqy.2
  clear nqy LNqy
  have Nrx := Lib.hid nrx
  have LNrx := norm_len nrx
  have Larx : len (magZ zrx) ≤ 24 := LNrx.1
  have Lbrx : len drx ≤ 24 := LNrx.2
  clear nrx LNrx
  have Nry := Lib.hid nry
  have LNry := norm_len nry
  have Lary : len (magZ zry) ≤ 24 := LNry.1
  have Lbry : len dry ≤ 24 := LNry.2
  clear nry LNry
  clear ppx ppy pqx pqy prx pry
  have O : Old w (((w.alloc (.cells #[.bool (sgnZ zpx), .slice Apx (len (magZ zpx)) cpx, .slice Dpx (len dpx) epx, .bool (sgnZ zpy), .slice Apy (len (magZ zpy)) cpy, .slice Dpy (len dpy) epy] 39)).alloc (.cells #[.bool (sgnZ zqx), .slice Aqx (len (magZ zqx)) cqx, .slice Dqx (len dqx) eqx, .bool (sgnZ zqy), .slice Aqy (len (magZ zqy)) cqy, .slice Dqy (len dqy) eqy] 39)).alloc (.cells #[.bool (sgnZ zrx), .slice Arx (len (magZ zrx)) crx, .slice Drx (len drx) erx, .bool (sgnZ zry), .slice Ary (len (magZ zry)) cry, .slice Dry (len dry) ery] 39)) := oldB
  have B_p : Bx (((w.alloc (.cells #[.bool (sgnZ zpx), .slice Apx (len (magZ zpx)) cpx, .slice Dpx (len dpx) epx, .bool (sgnZ zpy), .slice Apy (len (magZ zpy)) cpy, .slice Dpy (len dpy) epy] 39)).alloc (.cells #[.bool (sgnZ zqx), .slice Aqx (len (magZ zqx)) cqx, .slice Dqx (len dqx) eqx, .bool (sgnZ zqy), .slice Aqy (len (magZ zqy)) cqy, .slice Dqy (len dqy) eqy] 39)).alloc (.cells #[.bool (sgnZ zrx), .slice Arx (len (magZ zrx)) crx, .slice Drx (len drx) erx, .bool (sgnZ zry), .slice Ary (len (magZ zry)) cry, .slice Dry (len dry) ery] 39)) (w.heap.size) #[.bool (sgnZ zpx), .slice Apx (len (magZ zpx)) cpx, .slice Dpx (len dpx) epx, .bool (sgnZ zpy), .slice Apy (len (magZ zpy)) cpy, .slice Dpy (len dpy) epy] := by have h := (Bx.alloc (Bx.alloc (Bx.new w #[.bool (sgnZ zpx), .slice Apx (len (magZ zpx)) cpx, .slice Dpx (len dpx) epx, .bool (sgnZ zpy), .slice Apy (len (magZ zpy)) cpy, .slice Dpy (len dpy) epy] 39) (.cells #[.bool (sgnZ zqx), .slice Aqx (len (magZ zqx)) cqx, .slice Dqx (len dqx) eqx, .bool (sgnZ zqy), .slice Aqy (len (magZ zqy)) cqy, .slice Dqy (len dqy) eqy] 39)) (.cells #[.bool (sgnZ zrx), .slice Arx (len (magZ zrx)) crx, .slice Drx (len drx) erx, .bool (sgnZ zry), .slice Ary (len (magZ zry)) cry, .slice Dry (len dry) ery] 39)); simpa using h
  have B_q : Bx (((w.alloc (.cells #[.bool (sgnZ zpx), .slice Apx (len (magZ zpx)) cpx, .slice Dpx (len dpx) epx, .bool (sgnZ zpy), .slice Apy (len (magZ zpy)) cpy, .slice Dpy (len dpy) epy] 39)).alloc (.cells #[.bool (sgnZ zqx), .slice Aqx (len (magZ zqx)) cqx, .slice Dqx (len dqx) eqx, .bool (sgnZ zqy), .slice Aqy (len (magZ zqy)) cqy, .slice Dqy (len dqy) eqy] 39)).alloc (.cells #[.bool (sgnZ zrx), .slice Arx (len (magZ zrx)) crx, .slice Drx (len drx) erx, .bool (sgnZ zry), .slice Ary (len (magZ zry)) cry, .slice Dry (len dry) ery] 39)) (w.heap.size + 1) #[.bool (sgnZ zqx), .slice Aqx (len (magZ zqx)) cqx, .slice Dqx (len dqx) eqx, .bool (sgnZ zqy), .slice Aqy (len (magZ zqy)) cqy, .slice Dqy (len dqy) eqy] := by have h := (Bx.alloc (Bx.new (w.alloc (.cells #[.bool (sgnZ zpx), .slice Apx (len (magZ zpx)) cpx, .slice Dpx (len dpx) epx, .bool (sgnZ zpy), .slice Apy (len (magZ zpy)) cpy, .slice Dpy (len dpy) epy] 39)) #[.bool (sgnZ zqx), .slice Aqx (len (magZ zqx)) cqx, .slice Dqx (len dqx) eqx, .bool (sgnZ zqy), .slice Aqy (len (magZ zqy)) cqy, .slice Dqy (len dqy) eqy] 39) (.cells #[.bool (sgnZ zrx), .slice Arx (len (magZ zrx)) crx, .slice Drx (len drx) erx, .bool (sgnZ zry), .slice Ary (len (magZ zry)) cry, .slice Dry (len dry) ery] 39)); simpa using h
  have B_r : Bx (((w.alloc (.cells #[.bool (sgnZ zpx), .slice Apx (len (magZ zpx)) cpx, .slice Dpx (len dpx) epx, .bool (sgnZ zpy), .slice Apy (len (magZ zpy)) cpy, .slice Dpy (len dpy) epy] 39)).alloc (.cells #[.bool (sgnZ zqx), .slice Aqx (len (magZ zqx)) cqx, .slice Dqx (len dqx) eqx, .bool (sgnZ zqy), .slice Aqy (len (magZ zqy)) cqy, .slice Dqy (len dqy) eqy] 39)).alloc (.cells #[.bool (sgnZ zrx), .slice Arx (len (magZ zrx)) crx, .slice Drx (len drx) erx, .bool (sgnZ zry), .slice Ary (len (magZ zry)) cry, .slice Dry (len dry) ery] 39)) (w.heap.size + 1 + 1) #[.bool (sgnZ zrx), .slice Arx (len (magZ zrx)) crx, .slice Drx (len drx) erx, .bool (sgnZ zry), .slice Ary (len (magZ zry)) cry, .slice Dry (len dry) ery] := by have h := (Bx.new ((w.alloc (.cells #[.bool (sgnZ zpx), .slice Apx (len (magZ zpx)) cpx, .slice Dpx (len dpx) epx, .bool (sgnZ zpy), .slice Apy (len (magZ zpy)) cpy, .slice Dpy (len dpy) epy] 39)).alloc (.cells #[.bool (sgnZ zqx), .slice Aqx (len (magZ zqx)) cqx, .slice Dqx (len dqx) eqx, .bool (sgnZ zqy), .slice Aqy (len (magZ zqy)) cqy, .slice Dqy (len dqy) eqy] 39)) #[.bool (sgnZ zrx), .slice Arx (len (magZ zrx)) crx, .slice Drx (len drx) erx, .bool (sgnZ zry), .slice Ary (len (magZ zry)) cry, .slice Dry (len dry) ery] 39); simpa using h
  have ne_0_1 : ¬ (w.heap.size = w.heap.size + 1) := by omega
  have ne_0_2 : ¬ (w.heap.size = w.heap.size + 1 + 1) := by omega
  have ne_1_0 : ¬ (w.heap.size + 1 = w.heap.size) := by omega
  have ne_1_2 : ¬ (w.heap.size + 1 = w.heap.size + 1 + 1) := by omega
  have ne_2_0 : ¬ (w.heap.size + 1 + 1 = w.heap.size) := by omega
  have ne_2_1 : ¬ (w.heap.size + 1 + 1 = w.heap.size + 1) := by omega
  have ze : w.heap.size + 3 ≤ (((w.alloc (.cells #[.bool (sgnZ zpx), .slice Apx (len (magZ zpx)) cpx, .slice Dpx (len dpx) epx, .bool (sgnZ zpy), .slice Apy (len (magZ zpy)) cpy, .slice Dpy (len dpy) epy] 39)).alloc (.cells #[.bool (sgnZ zqx), .slice Aqx (len (magZ zqx)) cqx, .slice Dqx (len dqx) eqx, .bool (sgnZ zqy), .slice Aqy (len (magZ zqy)) cqy, .slice Dqy (len dqy) eqy] 39)).alloc (.cells #[.bool (sgnZ zrx), .slice Arx (len (magZ zrx)) crx, .slice Drx (len drx) erx, .bool (sgnZ zry), .slice Ary (len (magZ zry)) cry, .slice Dry (len dry) ery] 39)).heap.size := (by simp)
  go_enter Try.func74, Try.ntmps74
  go_wp2_with fail
  refine callsNamed ?_
  intro p1 hp
  have O' : Old w p1 := (by rw [hp]; exact Below.trans (b := (((w.alloc (.cells #[.bool (sgnZ zpx), .slice Apx (len (magZ zpx)) cpx, .slice Dpx (len dpx) epx, .bool (sgnZ zpy), .slice Apy (len (magZ zpy)) cpy, .slice Dpy (len dpy) epy] 39)).alloc (.cells #[.bool (sgnZ zqx), .slice Aqx (len (magZ zqx)) cqx, .slice Dqx (len dqx) eqx, .bool (sgnZ zqy), .slice Aqy (len (magZ zqy)) cqy, .slice Dqy (len dqy) eqy] 39)).alloc (.cells #[.bool (sgnZ zrx), .slice Arx (len (magZ zrx)) crx, .slice Drx (len drx) erx, .bool (sgnZ zry), .slice Ary (len (magZ zry)) cry, .slice Dry (len dry) ery] 39))) O oldB)
  replace B_p : Bx p1 (w.heap.size) #[.bool (sgnZ zpx), .slice Apx (len (magZ zpx)) cpx, .slice Dpx (len dpx) epx, .bool (sgnZ zpy), .slice Apy (len (magZ zpy)) cpy, .slice Dpy (len dpy) epy] := (bxK B_p hp)
  replace B_q : Bx p1 (w.heap.size + 1) #[.bool (sgnZ zqx), .slice Aqx (len (magZ zqx)) cqx, .slice Dqx (len dqx) eqx, .bool (sgnZ zqy), .slice Aqy (len (magZ zqy)) cqy, .slice Dqy (len dqy) eqy] := (bxK B_q hp)
  replace B_r : Bx p1 (w.heap.size + 1 + 1) #[.bool (sgnZ zrx), .slice Arx (len (magZ zrx)) crx, .slice Drx (len drx) erx, .bool (sgnZ zry), .slice Ary (len (magZ zry)) cry, .slice Dry (len dry) ery] := (bxK B_r hp)
  have E : Bx p1 (w.heap.size + 1 + 1 + 1) #[.bool (sgnZ zpx), .slice Apx (len (magZ zpx)) cpx, .slice Dpx (len dpx) epx, .bool (sgnZ zpy), .slice Apy (len (magZ zpy)) cpy, .slice Dpy (len dpy) epy, .bool (sgnZ zqx), .slice Aqx (len (magZ zqx)) cqx, .slice Dqx (len dqx) eqx, .bool (sgnZ zqy), .slice Aqy (len (magZ zqy)) cqy, .slice Dqy (len dqy) eqy, .bool (sgnZ zrx), .slice Arx (len (magZ zrx)) crx, .slice Drx (len drx) erx, .bool (sgnZ zry), .slice Ary (len (magZ zry)) cry, .slice Dry (len dry) ery] := (by rw [hp]; have h := Bx.new (((w.alloc (.cells #[.bool (sgnZ zpx), .slice Apx (len (magZ zpx)) cpx, .slice Dpx (len dpx) epx, .bool (sgnZ zpy), .slice Apy (len (magZ zpy)) cpy, .slice Dpy (len dpy) epy] 39)).alloc (.cells #[.bool (sgnZ zqx), .slice Aqx (len (magZ zqx)) cqx, .slice Dqx (len dqx) eqx, .bool (sgnZ zqy), .slice Aqy (len (magZ zqy)) cqy, .slice Dqy (len dqy) eqy] 39)).alloc (.cells #[.bool (sgnZ zrx), .slice Arx (len (magZ zrx)) crx, .slice Drx (len drx) erx, .bool (sgnZ zry), .slice Ary (len (magZ zry)) cry, .slice Dry (len dry) ery] 39)) #[.bool (sgnZ zpx), .slice Apx (len (magZ zpx)) cpx, .slice Dpx (len dpx) epx, .bool (sgnZ zpy), .slice Apy (len (magZ zpy)) cpy, .slice Dpy (len dpy) epy, .bool (sgnZ zqx), .slice Aqx (len (magZ zqx)) cqx, .slice Dqx (len dqx) eqx, .bool (sgnZ zqy), .slice Aqy (len (magZ zqy)) cqy, .slice Dqy (len dqy) eqy, .bool (sgnZ zrx), .slice Arx (len (magZ zrx)) crx, .slice Drx (len drx) erx, .bool (sgnZ zry), .slice Ary (len (magZ zry)) cry, .slice Dry (len dry) ery] 39; simpa using h)
  have zp1 : (((w.alloc (.cells #[.bool (sgnZ zpx), .slice Apx (len (magZ zpx)) cpx, .slice Dpx (len dpx) epx, .bool (sgnZ zpy), .slice Apy (len (magZ zpy)) cpy, .slice Dpy (len dpy) epy] 39)).alloc (.cells #[.bool (sgnZ zqx), .slice Aqx (len (magZ zqx)) cqx, .slice Dqx (len dqx) eqx, .bool (sgnZ zqy), .slice Aqy (len (magZ zqy)) cqy, .slice Dqy (len dqy) eqy] 39)).alloc (.cells #[.bool (sgnZ zrx), .slice Arx (len (magZ zrx)) crx, .slice Drx (len drx) erx, .bool (sgnZ zry), .slice Ary (len (magZ zry)) cry, .slice Dry (len dry) ery] 39)).heap.size ≤ p1.heap.size := (by rw [hp]; exact leA)
  clear hp O
  have O := O'
  clear O'
  refine (plain_to (by rw [Q.out]) (arePoints_3 (sgnZ zpx) Apx (len (magZ zpx)) cpx lpx (digI (magZ zpx)) Dpx (len dpx) epx mpx (digI dpx) (sgnZ zpy) Apy (len (magZ zpy)) cpy lpy (digI (magZ zpy)) Dpy (len dpy) epy mpy (digI dpy) (sgnZ zqx) Aqx (len (magZ zqx)) cqx lqx (digI (magZ zqx)) Dqx (len dqx) eqx mqx (digI dqx) (sgnZ zqy) Aqy (len (magZ zqy)) cqy lqy (digI (magZ zqy)) Dqy (len dqy) eqy mqy (digI dqy) (sgnZ zrx) Arx (len (magZ zrx)) crx lrx (digI (magZ zrx)) Drx (len drx) erx mrx (digI drx) (sgnZ zry) Ary (len (magZ zry)) cry lry (digI (magZ zry)) Dry (len dry) ery mry (digI dry) _ _ E (Row.below (B := w.heap.size) hpx O (Nat.le_refl _)) (Row.below (B := w.heap.size) kpx O (Nat.le_refl _)) (Row.below (B := w.heap.size) hpy O (Nat.le_refl _)) (Row.below (B := w.heap.size) kpy O (Nat.le_refl _)) (Row.below (B := w.heap.size) hqx O (Nat.le_refl _)) (Row.below (B := w.heap.size) kqx O (Nat.le_refl _)) (Row.below (B := w.heap.size) hqy O (Nat.le_refl _)) (Row.below (B := w.heap.size) kqy O (Nat.le_refl _)) (Row.below (B := w.heap.size) hrx O (Nat.le_refl _)) (Row.below (B := w.heap.size) krx O (Nat.le_refl _)) (Row.below (B := w.heap.size) hry O (Nat.le_refl _)) (Row.below (B := w.heap.size) kry O (Nat.le_refl _)) (by omega) (by omega) (by omega) (by omega) (by omega) (by omega) (by omega) (by omega) (by omega) (by omega) (by omega) (by omega))).mono ?_
  rintro e w1 ⟨rfl, o1⟩
  replace B_p := Bx.old B_p o1
  replace B_q := Bx.old B_q o1
  replace B_r := Bx.old B_r o1
  replace O := Old.trans O o1
  have zw1 := o1.size
  obtain ⟨q_p_0, q_p_1, q_p_2, q_p_3, q_p_4, q_p_5, f_p_0, f_p_1, f_p_2, f_p_3, f_p_4, f_p_5, q_p⟩ := B_p.all6
  obtain ⟨q_q_0, q_q_1, q_q_2, q_q_3, q_q_4, q_q_5, f_q_0, f_q_1, f_q_2, f_q_3, f_q_4, f_q_5, q_q⟩ := B_q.all6
  obtain ⟨q_r_0, q_r_1, q_r_2, q_r_3, q_r_4, q_r_5, f_r_0, f_r_1, f_r_2, f_r_3, f_r_4, f_r_5, q_r⟩ := B_r.all6
  go_wp2_with fail
  refine callsNamed ?_
  intro p2 hp
  clear q_p_0 q_p_1 q_p_2 q_p_3 q_p_4 q_p_5 f_p_0 f_p_1 f_p_2 f_p_3 f_p_4 f_p_5 q_p q_q_0 q_q_1 q_q_2 q_q_3 q_q_4 q_q_5 f_q_0 f_q_1 f_q_2 f_q_3 f_q_4 f_q_5 q_q q_r_0 q_r_1 q_r_2 q_r_3 q_r_4 q_r_5 f_r_0 f_r_1 f_r_2 f_r_3 f_r_4 f_r_5 q_r
  have O' : Old w p2 := (by rw [hp]; exact Below.trans (b := w1) O oldB)
  replace B_p : Bx p2 (w.heap.size) #[.bool (sgnZ zpx), .slice Apx (len (magZ zpx)) cpx, .slice Dpx (len dpx) epx, .bool (sgnZ zpy), .slice Apy (len (magZ zpy)) cpy, .slice Dpy (len dpy) epy] := (bxK B_p hp)
  replace B_q : Bx p2 (w.heap.size + 1) #[.bool (sgnZ zqx), .slice Aqx (len (magZ zqx)) cqx, .slice Dqx (len dqx) eqx, .bool (sgnZ zqy), .slice Aqy (len (magZ zqy)) cqy, .slice Dqy (len dqy) eqy] := (bxK B_q hp)
  replace B_r : Bx p2 (w.heap.size + 1 + 1) #[.bool (sgnZ zrx), .slice Arx (len (magZ zrx)) crx, .slice Drx (len drx) erx, .bool (sgnZ zry), .slice Ary (len (magZ zry)) cry, .slice Dry (len dry) ery] := (bxK B_r hp)
  clear E
  have zp2 : w1.heap.size ≤ p2.heap.size := (by rw [hp]; exact leA)
  clear hp O
  have O := O'
  clear O'
  refine (side_any  zpx dpx Apx Dpx cpx epx lpx mpx zpy dpy Apy Dpy cpy epy lpy mpy zqx dqx Aqx Dqx cqx eqx lqx mqx zqy dqy Aqy Dqy cqy eqy lqy mqy zrx drx Arx Drx crx erx lrx mrx zry dry Ary Dry cry ery lry mry _  (Row.below (B := w.heap.size) hpx O (Nat.le_refl _)) (Row.below (B := w.heap.size) kpx O (Nat.le_refl _)) Npx.out (Row.below (B := w.heap.size) hpy O (Nat.le_refl _)) (Row.below (B := w.heap.size) kpy O (Nat.le_refl _)) Npy.out (Row.below (B := w.heap.size) hqx O (Nat.le_refl _)) (Row.below (B := w.heap.size) kqx O (Nat.le_refl _)) Nqx.out (Row.below (B := w.heap.size) hqy O (Nat.le_refl _)) (Row.below (B := w.heap.size) kqy O (Nat.le_refl _)) Nqy.out (Row.below (B := w.heap.size) hrx O (Nat.le_refl _)) (Row.below (B := w.heap.size) krx O (Nat.le_refl _)) Nrx.out (Row.below (B := w.heap.size) hry O (Nat.le_refl _)) (Row.below (B := w.heap.size) kry O (Nat.le_refl _)) Nry.out).mono ?_
  rintro e w2 ⟨rfl, o2⟩
  replace B_p := Bx.old B_p o2
  replace B_q := Bx.old B_q o2
  replace B_r := Bx.old B_r o2
  replace O := Old.trans O o2
  have zw2 := o2.size
  obtain ⟨q_p_0, q_p_1, q_p_2, q_p_3, q_p_4, q_p_5, f_p_0, f_p_1, f_p_2, f_p_3, f_p_4, f_p_5, q_p⟩ := B_p.all6
  obtain ⟨q_q_0, q_q_1, q_q_2, q_q_3, q_q_4, q_q_5, f_q_0, f_q_1, f_q_2, f_q_3, f_q_4, f_q_5, q_q⟩ := B_q.all6
  obtain ⟨q_r_0, q_r_1, q_r_2, q_r_3, q_r_4, q_r_5, f_r_0, f_r_1, f_r_2, f_r_3, f_r_4, f_r_5, q_r⟩ := B_r.all6
  go_wp2
  go_ret
  exact ⟨rfl, Below.trans (b := w2) O oldB⟩
theorem impl_Side  (bpx : Bool) (Apx : Option Addr) (npx cpx lpx : Nat) (fpx : Nat → Int) (Dpx : Option Addr) (mpx epx upx : Nat) (gpx : Nat → Int) (bpy : Bool) (Apy : Option Addr) (npy cpy lpy : Nat) (fpy : Nat → Int) (Dpy : Option Addr) (mpy epy upy : Nat) (gpy : Nat → Int) (bqx : Bool) (Aqx : Option Addr) (nqx cqx lqx : Nat) (fqx : Nat → Int) (Dqx : Option Addr) (mqx eqx uqx : Nat) (gqx : Nat → Int) (bqy : Bool) (Aqy : Option Addr) (nqy cqy lqy : Nat) (fqy : Nat → Int) (Dqy : Option Addr) (mqy eqy uqy : Nat) (gqy : Nat → Int) (brx : Bool) (Arx : Option Addr) (nrx crx lrx : Nat) (frx : Nat → Int) (Drx : Option Addr) (mrx erx urx : Nat) (grx : Nat → Int) (bry : Bool) (Ary : Option Addr) (nry cry lry : Nat) (fry : Nat → Int) (Dry : Option Addr) (mry ery ury : Nat) (gry : Nat → Int) (w : World)  (hpx : Row w lpx Apx npx cpx fpx) (kpx : Row w upx Dpx mpx epx gpx) (hpy : Row w lpy Apy npy cpy fpy) (kpy : Row w upy Dpy mpy epy gpy) (hqx : Row w lqx Aqx nqx cqx fqx) (kqx : Row w uqx Dqx mqx eqx gqx) (hqy : Row w lqy Aqy nqy cqy fqy) (kqy : Row w uqy Dqy mqy eqy gqy) (hrx : Row w lrx Arx nrx crx frx) (krx : Row w urx Drx mrx erx grx) (hry : Row w lry Ary nry cry fry) (kry : Row w ury Dry mry ery gry) (hnpx : npx ≤ 1048576) (hmpx : mpx ≤ 1048576) (hnpy : npy ≤ 1048576) (hmpy : mpy ≤ 1048576) (hnqx : nqx ≤ 1048576) (hmqx : mqx ≤ 1048576) (hnqy : nqy ≤ 1048576) (hmqy : mqy ≤ 1048576) (hnrx : nrx ≤ 1048576) (hmrx : mrx ≤ 1048576) (hnry : nry ≤ 1048576) (hmry : mry ≤ 1048576) :
    Calls Try.prog 74 #[.agg #[.bool bpx, .slice Apx npx cpx, .slice Dpx mpx epx, .bool bpy, .slice Apy npy cpy, .slice Dpy mpy epy], .agg #[.bool bqx, .slice Aqx nqx cqx, .slice Dqx mqx eqx, .bool bqy, .slice Aqy nqy cqy, .slice Dqy mqy eqy], .agg #[.bool brx, .slice Arx nrx crx, .slice Drx mrx erx, .bool bry, .slice Ary nry cry, .slice Dry mry ery]] w fun e w' => e = .returned (.int .i64 (rSide bpx npx fpx mpx gpx bpy npy fpy mpy gpy bqx nqx fqx mqx gqx bqy nqy fqy mqy gqy brx nrx frx mrx grx bry nry fry mry gry)) ∧ Old w w' := by
  by_cases qpx : okR bpx npx fpx mpx gpx
  case neg =>
    have e : rSide bpx npx fpx mpx gpx bpy npy fpy mpy gpy bqx nqx fqx mqx gqx bqy nqy fqy mqy gqy brx nrx frx mrx grx bry nry fry mry gry = 0 := by unfold rSide; rw [vR_no qpx, subF_no2 (b := (0, 0)) rfl, mulF_no1 (a := (0, 0)) rfl, subF_no1 (a := (0, 0)) rfl]; rfl
    rw [e]
    exact impl_Side_no  bpx Apx npx cpx lpx fpx Dpx mpx epx upx gpx bpy Apy npy cpy lpy fpy Dpy mpy epy upy gpy bqx Aqx nqx cqx lqx fqx Dqx mqx eqx uqx gqx bqy Aqy nqy cqy lqy fqy Dqy mqy eqy uqy gqy brx Arx nrx crx lrx frx Drx mrx erx urx grx bry Ary nry cry lry fry Dry mry ery ury gry w hpx kpx hpy kpy hqx kqx hqy kqy hrx krx hry kry hnpx hmpx hnpy hmpy hnqx hmqx hnqy hmqy hnrx hmrx hnry hmry (by unfold rIsValidPoint; rw [rRatOk_no qpx]; simp)
  by_cases qpy : okR bpy npy fpy mpy gpy
  case neg =>
    have e : rSide bpx npx fpx mpx gpx bpy npy fpy mpy gpy bqx nqx fqx mqx gqx bqy nqy fqy mqy gqy brx nrx frx mrx grx bry nry fry mry gry = 0 := by unfold rSide; rw [vR_no qpy, subF_no2 (b := (0, 0)) rfl, mulF_no2 (b := (0, 0)) rfl, subF_no1 (a := (0, 0)) rfl]; rfl
    rw [e]
    exact impl_Side_no  bpx Apx npx cpx lpx fpx Dpx mpx epx upx gpx bpy Apy npy cpy lpy fpy Dpy mpy epy upy gpy bqx Aqx nqx cqx lqx fqx Dqx mqx eqx uqx gqx bqy Aqy nqy cqy lqy fqy Dqy mqy eqy uqy gqy brx Arx nrx crx lrx frx Drx mrx erx urx grx bry Ary nry cry lry fry Dry mry ery ury gry w hpx kpx hpy kpy hqx kqx hqy kqy hrx krx hry kry hnpx hmpx hnpy hmpy hnqx hmqx hnqy hmqy hnrx hmrx hnry hmry (by unfold rIsValidPoint; rw [rRatOk_no qpy]; simp)
  by_cases qqx : okR bqx nqx fqx mqx gqx
  case neg =>
    have e : rSide bpx npx fpx mpx gpx bpy npy fpy mpy gpy bqx nqx fqx mqx gqx bqy nqy fqy mqy gqy brx nrx frx mrx grx bry nry fry mry gry = 0 := by unfold rSide; rw [vR_no qqx, subF_no1 (a := (0, 0)) rfl, mulF_no1 (a := (0, 0)) rfl, subF_no1 (a := (0, 0)) rfl]; rfl
    rw [e]
    exact impl_Side_no  bpx Apx npx cpx lpx fpx Dpx mpx epx upx gpx bpy Apy npy cpy lpy fpy Dpy mpy epy upy gpy bqx Aqx nqx cqx lqx fqx Dqx mqx eqx uqx gqx bqy Aqy nqy cqy lqy fqy Dqy mqy eqy uqy gqy brx Arx nrx crx lrx frx Drx mrx erx urx grx bry Ary nry cry lry fry Dry mry ery ury gry w hpx kpx hpy kpy hqx kqx hqy kqy hrx krx hry kry hnpx hmpx hnpy hmpy hnqx hmqx hnqy hmqy hnrx hmrx hnry hmry (by unfold rIsValidPoint; rw [rRatOk_no qqx]; simp)
  by_cases qqy : okR bqy nqy fqy mqy gqy
  case neg =>
    have e : rSide bpx npx fpx mpx gpx bpy npy fpy mpy gpy bqx nqx fqx mqx gqx bqy nqy fqy mqy gqy brx nrx frx mrx grx bry nry fry mry gry = 0 := by unfold rSide; rw [vR_no qqy, subF_no1 (a := (0, 0)) rfl, mulF_no1 (a := (0, 0)) rfl, subF_no2 (b := (0, 0)) rfl]; rfl
    rw [e]
    exact impl_Side_no  bpx Apx npx cpx lpx fpx Dpx mpx epx upx gpx bpy Apy npy cpy lpy fpy Dpy mpy epy upy gpy bqx Aqx nqx cqx lqx fqx Dqx mqx eqx uqx gqx bqy Aqy nqy cqy lqy fqy Dqy mqy eqy uqy gqy brx Arx nrx crx lrx frx Drx mrx erx urx grx bry Ary nry cry lry fry Dry mry ery ury gry w hpx kpx hpy kpy hqx kqx hqy kqy hrx krx hry kry hnpx hmpx hnpy hmpy hnqx hmqx hnqy hmqy hnrx hmrx hnry hmry (by unfold rIsValidPoint; rw [rRatOk_no qqy]; simp)
  by_cases qrx : okR brx nrx frx mrx grx
  case neg =>
    have e : rSide bpx npx fpx mpx gpx bpy npy fpy mpy gpy bqx nqx fqx mqx gqx bqy nqy fqy mqy gqy brx nrx frx mrx grx bry nry fry mry gry = 0 := by unfold rSide; rw [vR_no qrx, subF_no1 (a := (0, 0)) rfl, mulF_no2 (b := (0, 0)) rfl, subF_no2 (b := (0, 0)) rfl]; rfl
    rw [e]
    exact impl_Side_no  bpx Apx npx cpx lpx fpx Dpx mpx epx upx gpx bpy Apy npy cpy lpy fpy Dpy mpy epy upy gpy bqx Aqx nqx cqx lqx fqx Dqx mqx eqx uqx gqx bqy Aqy nqy cqy lqy fqy Dqy mqy eqy uqy gqy brx Arx nrx crx lrx frx Drx mrx erx urx grx bry Ary nry cry lry fry Dry mry ery ury gry w hpx kpx hpy kpy hqx kqx hqy kqy hrx krx hry kry hnpx hmpx hnpy hmpy hnqx hmqx hnqy hmqy hnrx hmrx hnry hmry (by unfold rIsValidPoint; rw [rRatOk_no qrx]; simp)
  by_cases qry : okR bry nry fry mry gry
  case neg =>
    have e : rSide bpx npx fpx mpx gpx bpy npy fpy mpy gpy bqx nqx fqx mqx gqx bqy nqy fqy mqy gqy brx nrx frx mrx grx bry nry fry mry gry = 0 := by unfold rSide; rw [vR_no qry, subF_no1 (a := (0, 0)) rfl, mulF_no2 (b := (0, 0)) rfl, subF_no1 (a := (0, 0)) rfl]; rfl
    rw [e]
    exact impl_Side_no  bpx Apx npx cpx lpx fpx Dpx mpx epx upx gpx bpy Apy npy cpy lpy fpy Dpy mpy epy upy gpy bqx Aqx nqx cqx lqx fqx Dqx mqx eqx uqx gqx bqy Aqy nqy cqy lqy fqy Dqy mqy eqy uqy gqy brx Arx nrx crx lrx frx Drx mrx erx urx grx bry Ary nry cry lry fry Dry mry ery ury gry w hpx kpx hpy kpy hqx kqx hqy kqy hrx krx hry kry hnpx hmpx hnpy hmpy hnqx hmqx hnqy hmqy hnrx hmrx hnry hmry (by unfold rIsValidPoint; rw [rRatOk_no qry]; simp)
  unfold rSide
  obtain ⟨zpx, dpx, f1px, f2px, f3px, ppx, nnpx, vpx, spx, spx'⟩ := okR_z qpx hpx kpx
  obtain ⟨zpy, dpy, f1py, f2py, f3py, ppy, nnpy, vpy, spy, spy'⟩ := okR_z qpy hpy kpy
  obtain ⟨zqx, dqx, f1qx, f2qx, f3qx, pqx, nnqx, vqx, sqx, sqx'⟩ := okR_z qqx hqx kqx
  obtain ⟨zqy, dqy, f1qy, f2qy, f3qy, pqy, nnqy, vqy, sqy, sqy'⟩ := okR_z qqy hqy kqy
  obtain ⟨zrx, drx, f1rx, f2rx, f3rx, prx, nnrx, vrx, srx, srx'⟩ := okR_z qrx hrx krx
  obtain ⟨zry, dry, f1ry, f2ry, f3ry, pry, nnry, vry, sry, sry'⟩ := okR_z qry hry kry
  rw [vpx, f1px, f2px, f3px, vpy, f1py, f2py, f3py, vqx, f1qx, f2qx, f3qx, vqy, f1qy, f2qy, f3qy, vrx, f1rx, f2rx, f3rx, vry, f1ry, f2ry, f3ry]
  exact impl_Side_yes  zpx dpx Apx Dpx cpx epx lpx upx zpy dpy Apy Dpy cpy epy lpy upy zqx dqx Aqx Dqx cqx eqx lqx uqx zqy dqy Aqy Dqy cqy eqy lqy uqy zrx drx Arx Drx crx erx lrx urx zry dry Ary Dry cry ery lry ury w  spx spx' nnpx spy spy' nnpy sqx sqx' nnqx sqy sqy' nnqy srx srx' nnrx sry sry' nnry ppx ppy pqx pqy prx pry
end Go.Proofs.Ytnkeenejcpkelaa
