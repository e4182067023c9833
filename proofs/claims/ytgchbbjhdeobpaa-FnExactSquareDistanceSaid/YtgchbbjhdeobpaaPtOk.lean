import Derived.Test.YtgchbbjhdeobpaaRatOk
import Derived.Test.YtgchbbjhdeobpaaWq
/-
  Points: both IsValidPoint's, both SamePoint's, arePoints.
-/
namespace Go.Proofs.Ytgchbbjhdeobpaa
set_option linter.unusedVariables false
open Go.RowKit Num
attribute [local go_sem ↓] Go.wp_at_zero Go.wp_at_succ
noncomputable def rIsValidPoint (bpx : Bool) (npx : Nat) (fpx : Nat → Int) (mpx : Nat) (gpx : Nat → Int) (bpy : Bool) (npy : Nat) (fpy : Nat → Int) (mpy : Nat) (gpy : Nat → Int) : Bool := rRatOk bpx npx fpx mpx gpx && rRatOk bpy npy fpy mpy gpy
set_option maxRecDepth 100000 in
set_option maxHeartbeats 8000000 in
theorem impl_IsValidPoint (bpx : Bool) (Apx : Option Addr) (npx cpx lpx : Nat) (fpx : Nat → Int) (Dpx : Option Addr) (mpx epx upx : Nat) (gpx : Nat → Int) (bpy : Bool) (Apy : Option Addr) (npy cpy lpy : Nat) (fpy : Nat → Int) (Dpy : Option Addr) (mpy epy upy : Nat) (gpy : Nat → Int) (w : World) (hpx : Row w lpx Apx npx cpx fpx) (kpx : Row w upx Dpx mpx epx gpx) (hpy : Row w lpy Apy npy cpy fpy) (kpy : Row w upy Dpy mpy epy gpy) (hnpx : npx ≤ 1048576) (hmpx : mpx ≤ 1048576) (hnpy : npy ≤ 1048576) (hmpy : mpy ≤ 1048576) :
    Calls Try.prog 36 #[.agg #[.bool bpx, .slice Apx npx cpx, .slice Dpx mpx epx, .bool bpy, .slice Apy npy cpy, .slice Dpy mpy epy]] w fun e w' => e = .returned (.bool (rIsValidPoint bpx npx fpx mpx gpx bpy npy fpy mpy gpy)) ∧ Old w w' := by
  unfold rIsValidPoint
  cases hX : rRatOk bpx npx fpx mpx gpx
  · have HX := Lib.hid hX
    clear hX
    have O : Old w (w.alloc (.cells #[.bool bpx, .slice Apx npx cpx, .slice Dpx mpx epx, .bool bpy, .slice Apy npy cpy, .slice Dpy mpy epy] 35)) := oldB
    have B_p : Bx (w.alloc (.cells #[.bool bpx, .slice Apx npx cpx, .slice Dpx mpx epx, .bool bpy, .slice Apy npy cpy, .slice Dpy mpy epy] 35)) (w.heap.size) #[.bool bpx, .slice Apx npx cpx, .slice Dpx mpx epx, .bool bpy, .slice Apy npy cpy, .slice Dpy mpy epy] := by have h := (Bx.new w #[.bool bpx, .slice Apx npx cpx, .slice Dpx mpx epx, .bool bpy, .slice Apy npy cpy, .slice Dpy mpy epy] 35); simpa using h
    have ze : w.heap.size + 1 ≤ (w.alloc (.cells #[.bool bpx, .slice Apx npx cpx, .slice Dpx mpx epx, .bool bpy, .slice Apy npy cpy, .slice Dpy mpy epy] 35)).heap.size := (by simp)
    go_enter Try.func36, Try.ntmps36
    go_wp2_with fail
    refine callsNamed ?_
    intro p1 hp
    have O' : Old w p1 := (by rw [hp]; exact Below.trans (b := (w.alloc (.cells #[.bool bpx, .slice Apx npx cpx, .slice Dpx mpx epx, .bool bpy, .slice Apy npy cpy, .slice Dpy mpy epy] 35))) O oldB)
    replace B_p : Bx p1 (w.heap.size) #[.bool bpx, .slice Apx npx cpx, .slice Dpx mpx epx, .bool bpy, .slice Apy npy cpy, .slice Dpy mpy epy] := (bxK B_p hp)
    have zp1 : (w.alloc (.cells #[.bool bpx, .slice Apx npx cpx, .slice Dpx mpx epx, .bool bpy, .slice Apy npy cpy, .slice Dpy mpy epy] 35)).heap.size ≤ p1.heap.size := (by rw [hp]; exact leA)
    clear hp O
    have O := O'
    clear O'
    refine (plain_to (by rw [HX.out]) (impl_RatOk bpx Apx npx cpx lpx fpx Dpx mpx epx upx gpx _ (Row.below (B := w.heap.size) hpx O (Nat.le_refl _)) (Row.below (B := w.heap.size) kpx O (Nat.le_refl _)) hnpx hmpx)).mono ?_
    rintro e w1 ⟨rfl, o1⟩
    replace B_p := Bx.old B_p o1
    replace O := Old.trans O o1
    have zw1 := o1.size
    obtain ⟨q_p_0, q_p_1, q_p_2, q_p_3, q_p_4, q_p_5, f_p_0, f_p_1, f_p_2, f_p_3, f_p_4, f_p_5, q_p⟩ := B_p.all6
    go_wp2
    go_ret
    exact ret_boolQ (by simp) ⟨rfl, Below.trans (b := w1) O oldB⟩
  · have HX := Lib.hid hX
    clear hX
    have O : Old w (w.alloc (.cells #[.bool bpx, .slice Apx npx cpx, .slice Dpx mpx epx, .bool bpy, .slice Apy npy cpy, .slice Dpy mpy epy] 35)) := oldB
    have B_p : Bx (w.alloc (.cells #[.bool bpx, .slice Apx npx cpx, .slice Dpx mpx epx, .bool bpy, .slice Apy npy cpy, .slice Dpy mpy epy] 35)) (w.heap.size) #[.bool bpx, .slice Apx npx cpx, .slice Dpx mpx epx, .bool bpy, .slice Apy npy cpy, .slice Dpy mpy epy] := by have h := (Bx.new w #[.bool bpx, .slice Apx npx cpx, .slice Dpx mpx epx, .bool bpy, .slice Apy npy cpy, .slice Dpy mpy epy] 35); simpa using h
    have ze : w.heap.size + 1 ≤ (w.alloc (.cells #[.bool bpx, .slice Apx npx cpx, .slice Dpx mpx epx, .bool bpy, .slice Apy npy cpy, .slice Dpy mpy epy] 35)).heap.size := (by simp)
    go_enter Try.func36, Try.ntmps36
    go_wp2_with fail
    refine callsNamed ?_
    intro p1 hp
    have O' : Old w p1 := (by rw [hp]; exact Below.trans (b := (w.alloc (.cells #[.bool bpx, .slice Apx npx cpx, .slice Dpx mpx epx, .bool bpy, .slice Apy npy cpy, .slice Dpy mpy epy] 35))) O oldB)
    replace B_p : Bx p1 (w.heap.size) #[.bool bpx, .slice Apx npx cpx, .slice Dpx mpx epx, .bool bpy, .slice Apy npy cpy, .slice Dpy mpy epy] := (bxK B_p hp)
    have zp1 : (w.alloc (.cells #[.bool bpx, .slice Apx npx cpx, .slice Dpx mpx epx, .bool bpy, .slice Apy npy cpy, .slice Dpy mpy epy] 35)).heap.size ≤ p1.heap.size := (by rw [hp]; exact leA)
    clear hp O
    have O := O'
    clear O'
    refine (plain_to (by rw [HX.out]) (impl_RatOk bpx Apx npx cpx lpx fpx Dpx mpx epx upx gpx _ (Row.below (B := w.heap.size) hpx O (Nat.le_refl _)) (Row.below (B := w.heap.size) kpx O (Nat.le_refl _)) hnpx hmpx)).mono ?_
    rintro e w1 ⟨rfl, o1⟩
    replace B_p := Bx.old B_p o1
    replace O := Old.trans O o1
    have zw1 := o1.size
    obtain ⟨q_p_0, q_p_1, q_p_2, q_p_3, q_p_4, q_p_5, f_p_0, f_p_1, f_p_2, f_p_3, f_p_4, f_p_5, q_p⟩ := B_p.all6
    go_wp2_with fail
    refine callsNamed ?_
    intro p2 hp
    clear q_p_0 q_p_1 q_p_2 q_p_3 q_p_4 q_p_5 f_p_0 f_p_1 f_p_2 f_p_3 f_p_4 f_p_5 q_p
    have O' : Old w p2 := (by rw [hp]; exact Below.trans (b := w1) O oldB)
    replace B_p : Bx p2 (w.heap.size) #[.bool bpx, .slice Apx npx cpx, .slice Dpx mpx epx, .bool bpy, .slice Apy npy cpy, .slice Dpy mpy epy] := (bxK B_p hp)
    have zp2 : w1.heap.size ≤ p2.heap.size := (by rw [hp]; exact leA)
    clear hp O
    have O := O'
    clear O'
    refine (impl_RatOk bpy Apy npy cpy lpy fpy Dpy mpy epy upy gpy _ (Row.below (B := w.heap.size) hpy O (Nat.le_refl _)) (Row.below (B := w.heap.size) kpy O (Nat.le_refl _)) hnpy hmpy).mono ?_
    rintro e w2 ⟨rfl, o2⟩
    replace B_p := Bx.old B_p o2
    replace O := Old.trans O o2
    have zw2 := o2.size
    obtain ⟨q_p_0, q_p_1, q_p_2, q_p_3, q_p_4, q_p_5, f_p_0, f_p_1, f_p_2, f_p_3, f_p_4, f_p_5, q_p⟩ := B_p.all6
    go_wp2
    go_ret
    exact ret_boolQ (by simp) ⟨rfl, Below.trans (b := w2) O oldB⟩
set_option maxRecDepth 100000 in
set_option maxHeartbeats 8000000 in
theorem notPoint_any (bpx : Bool) (Apx : Option Addr) (npx cpx lpx : Nat) (fpx : Nat → Int) (Dpx : Option Addr) (mpx epx upx : Nat) (gpx : Nat → Int) (bpy : Bool) (Apy : Option Addr) (npy cpy lpy : Nat) (fpy : Nat → Int) (Dpy : Option Addr) (mpy epy upy : Nat) (gpy : Nat → Int) (w : World) (hpx : Row w lpx Apx npx cpx fpx) (kpx : Row w upx Dpx mpx epx gpx) (hpy : Row w lpy Apy npy cpy fpy) (kpy : Row w upy Dpy mpy epy gpy) (hnpx : npx ≤ 1048576) (hmpx : mpx ≤ 1048576) (hnpy : npy ≤ 1048576) (hmpy : mpy ≤ 1048576) :
    Calls Try.prog 35 #[.agg #[.bool bpx, .slice Apx npx cpx, .slice Dpx mpx epx, .bool bpy, .slice Apy npy cpy, .slice Dpy mpy epy]] w fun e w' => e = .returned (.bool (!rIsValidPoint bpx npx fpx mpx gpx bpy npy fpy mpy gpy)) ∧ Old w w' := by
  have O : Old w (w.alloc (.cells #[.bool bpx, .slice Apx npx cpx, .slice Dpx mpx epx, .bool bpy, .slice Apy npy cpy, .slice Dpy mpy epy] 35)) := oldB
  have B_p : Bx (w.alloc (.cells #[.bool bpx, .slice Apx npx cpx, .slice Dpx mpx epx, .bool bpy, .slice Apy npy cpy, .slice Dpy mpy epy] 35)) (w.heap.size) #[.bool bpx, .slice Apx npx cpx, .slice Dpx mpx epx, .bool bpy, .slice Apy npy cpy, .slice Dpy mpy epy] := by have h := (Bx.new w #[.bool bpx, .slice Apx npx cpx, .slice Dpx mpx epx, .bool bpy, .slice Apy npy cpy, .slice Dpy mpy epy] 35); simpa using h
  have ze : w.heap.size + 1 ≤ (w.alloc (.cells #[.bool bpx, .slice Apx npx cpx, .slice Dpx mpx epx, .bool bpy, .slice Apy npy cpy, .slice Dpy mpy epy] 35)).heap.size := (by simp)
  go_enter Try.func35, Try.ntmps35
  go_wp2_with fail
  refine callsNamed ?_
  intro p1 hp
  have O' : Old w p1 := (by rw [hp]; exact Below.trans (b := (w.alloc (.cells #[.bool bpx, .slice Apx npx cpx, .slice Dpx mpx epx, .bool bpy, .slice Apy npy cpy, .slice Dpy mpy epy] 35))) O oldB)
  replace B_p : Bx p1 (w.heap.size) #[.bool bpx, .slice Apx npx cpx, .slice Dpx mpx epx, .bool bpy, .slice Apy npy cpy, .slice Dpy mpy epy] := (bxK B_p hp)
  have zp1 : (w.alloc (.cells #[.bool bpx, .slice Apx npx cpx, .slice Dpx mpx epx, .bool bpy, .slice Apy npy cpy, .slice Dpy mpy epy] 35)).heap.size ≤ p1.heap.size := (by rw [hp]; exact leA)
  clear hp O
  have O := O'
  clear O'
  refine (impl_IsValidPoint bpx Apx npx cpx lpx fpx Dpx mpx epx upx gpx bpy Apy npy cpy lpy fpy Dpy mpy epy upy gpy _ (Row.below (B := w.heap.size) hpx O (Nat.le_refl _)) (Row.below (B := w.heap.size) kpx O (Nat.le_refl _)) (Row.below (B := w.heap.size) hpy O (Nat.le_refl _)) (Row.below (B := w.heap.size) kpy O (Nat.le_refl _)) hnpx hmpx hnpy hmpy).mono ?_
  rintro e w1 ⟨rfl, o1⟩
  replace B_p := Bx.old B_p o1
  replace O := Old.trans O o1
  have zw1 := o1.size
  obtain ⟨q_p_0, q_p_1, q_p_2, q_p_3, q_p_4, q_p_5, f_p_0, f_p_1, f_p_2, f_p_3, f_p_4, f_p_5, q_p⟩ := B_p.all6
  go_wp2
  go_ret
  exact ⟨rfl, Below.trans (b := w1) O oldB⟩
/-- Block g holds from off on the cells of a point that is valid, or is not, as v says. -/
def PtAt (w : World) (g off : Nat) (v : Bool) : Prop := ∃ (bpx : Bool) (Apx : Option Addr) (npx cpx lpx : Nat) (fpx : Nat → Int) (Dpx : Option Addr) (mpx epx upx : Nat) (gpx : Nat → Int) (bpy : Bool) (Apy : Option Addr) (npy cpy lpy : Nat) (fpy : Nat → Int) (Dpy : Option Addr) (mpy epy upy : Nat) (gpy : Nat → Int), w.cell? ⟨g, off + 0, none⟩ = some (.bool bpx) ∧ w.cell? ⟨g, off + 1, none⟩ = some (.slice Apx npx cpx) ∧ w.cell? ⟨g, off + 2, none⟩ = some (.slice Dpx mpx epx) ∧ w.cell? ⟨g, off + 3, none⟩ = some (.bool bpy) ∧ w.cell? ⟨g, off + 4, none⟩ = some (.slice Apy npy cpy) ∧ w.cell? ⟨g, off + 5, none⟩ = some (.slice Dpy mpy epy) ∧ Row w lpx Apx npx cpx fpx ∧ Row w upx Dpx mpx epx gpx ∧ Row w lpy Apy npy cpy fpy ∧ Row w upy Dpy mpy epy gpy ∧ npx ≤ 1048576 ∧ mpx ≤ 1048576 ∧ npy ≤ 1048576 ∧ mpy ≤ 1048576 ∧ v = rIsValidPoint bpx npx fpx mpx gpx bpy npy fpy mpy gpy
theorem PtAt.old {w w' : World} {g off : Nat} {v : Bool} (h : PtAt w g off v) (o : Old w w') (hg : g < w.heap.size) : PtAt w' g off v := by
  obtain ⟨bpx, Apx, npx, cpx, lpx, fpx, Dpx, mpx, epx, upx, gpx, bpy, Apy, npy, cpy, lpy, fpy, Dpy, mpy, epy, upy, gpy, c0, c1, c2, c3, c4, c5, r1, r2, r3, r4, l1, l2, l3, l4, hv⟩ := h
  have hc : ∀ j, w'.cell? ⟨g, j, none⟩ = w.cell? ⟨g, j, none⟩ := fun j => o.cell (p := ⟨g, j, none⟩) hg
  exact ⟨bpx, Apx, npx, cpx, lpx, fpx, Dpx, mpx, epx, upx, gpx, bpy, Apy, npy, cpy, lpy, fpy, Dpy, mpy, epy, upy, gpy, (hc _).trans c0, (hc _).trans c1, (hc _).trans c2, (hc _).trans c3, (hc _).trans c4, (hc _).trans c5, Row.below r1 o (Nat.le_refl _), Row.below r2 o (Nat.le_refl _), Row.below r3 o (Nat.le_refl _), Row.below r4 o (Nat.le_refl _), l1, l2, l3, l4, hv⟩
def foundPt (n : Nat) (v : Nat → Bool) (r : Int) : Prop := (r = -1 ∧ ∀ j, j < n → v j = true) ∨ (0 ≤ r ∧ ∃ j, j < n ∧ v j = false)
set_option maxRecDepth 100000 in
set_option maxHeartbeats 8000000 in
theorem indexFunc_pts (g n : Nat) (v : Nat → Bool) (w : World) (h : ∀ k, k < n → PtAt w g (k * 6) (v k)) (hg : g < w.heap.size) (hn : n ≤ 3) :
    Calls Try.prog 48 #[.slice (some ⟨g, 0, none⟩) n n, .func (.func 35) #[] #[]] w fun e w' => ∃ r, e = .returned (.int .i64 r) ∧ foundPt n v r ∧ Old w w' := by
  go_enter Try.func48, Try.ntmps48
  go_wp2
  go_loopw [8] (fun i wr => ∃ k : Nat, k ≤ n ∧ i = .int .i64 (k : Int) ∧ Old w wr ∧ Hid (∀ j, j < k → v j = true)) (fun i _ => n - (intOf i).toNat)
  case atStart => exact ⟨0, Nat.zero_le _, rfl, oldA, Lib.hid fun j hj => by omega⟩
  case round =>
    obtain ⟨k, hk, rfl, O, Hg⟩ := hrel
    by_cases hlt : k < n
    · obtain ⟨bpx, Apx, npx, cpx, lpx, fpx, Dpx, mpx, epx, upx, gpx, bpy, Apy, npy, cpy, lpy, fpy, Dpy, mpy, epy, upy, gpy, c0, c1, c2, c3, c4, c5, r1, r2, r3, r4, l1, l2, l3, l4, hv⟩ := (h k hlt).old O hg
      simp only [Nat.add_zero] at c0
      cases hvk : v k
      · have HV : Hid (rIsValidPoint bpx npx fpx mpx gpx bpy npy fpy mpy gpy = false) := Lib.hid (hv.symm.trans hvk)
        have HK := Lib.hid hvk
        clear hv hvk
        go_wp2_with fail
        refine (plain_to (by rw [HV.out]) (notPoint_any bpx Apx npx cpx lpx fpx Dpx mpx epx upx gpx bpy Apy npy cpy lpy fpy Dpy mpy epy upy gpy _ r1 r2 r3 r4 l1 l2 l3 l4)).mono ?_
        rintro e w2 ⟨rfl, o2⟩
        have O2 := Old.trans O o2
        clear c0 c1 c2 c3 c4 c5 O
        go_wp2
        go_ret
        exact ⟨_, rfl, .inr ⟨by omega, k, hlt, HK.out⟩, oldA⟩
      · have HV : Hid (rIsValidPoint bpx npx fpx mpx gpx bpy npy fpy mpy gpy = true) := Lib.hid (hv.symm.trans hvk)
        have HK := Lib.hid hvk
        clear hv hvk
        go_wp2_with fail
        refine (plain_to (by rw [HV.out]) (notPoint_any bpx Apx npx cpx lpx fpx Dpx mpx epx upx gpx bpy Apy npy cpy lpy fpy Dpy mpy epy upy gpy _ r1 r2 r3 r4 l1 l2 l3 l4)).mono ?_
        rintro e w2 ⟨rfl, o2⟩
        have O2 := Old.trans O o2
        clear c0 c1 c2 c3 c4 c5 O
        go_wp2
        go_roundw
        case rel => exact ⟨k + 1, by omega, by go_num, oldA, Lib.hid fun j hj => if e : j = k then e ▸ HK.out else Hg.out j (by omega)⟩
        case measure => simp [intOf]; omega
    · have e : k = n := by omega
      subst e
      go_wp2
      go_ret
      exact ⟨_, rfl, .inl ⟨rfl, Hg.out⟩, oldA⟩
set_option maxRecDepth 100000 in
set_option maxHeartbeats 8000000 in
theorem arePts_bad (g n : Nat) (v : Nat → Bool) (w : World) (h : ∀ k, k < n → PtAt w g (k * 6) (v k)) (hg : g < w.heap.size) (hn : n ≤ 3) (k : Nat) (hk : k < n) (hv : v k = false) :
    Calls Try.prog 18 #[.slice (some ⟨g, 0, none⟩) n n] w fun e w' => e = .returned (.bool false) ∧ Old w w' := by
  go_enter Try.func18, Try.ntmps18
  go_wp2_with fail
  go_enter Try.func34, Try.ntmps34
  go_wp2_with fail
  refine (indexFunc_pts g n v w h hg hn).mono ?_
  rintro e w' ⟨r, rfl, hr, o⟩
  have hr' : 0 ≤ r := by
    rcases hr with ⟨_, h1⟩ | ⟨h1, _⟩
    · rw [h1 k hk] at hv; cases hv
    · exact h1
  clear hr
  go_wp2
  go_ret
  exact ⟨rfl, oldA⟩
set_option maxRecDepth 100000 in
set_option maxHeartbeats 8000000 in
theorem arePts_good (g n : Nat) (v : Nat → Bool) (w : World) (h : ∀ k, k < n → PtAt w g (k * 6) (v k)) (hg : g < w.heap.size) (hn : n ≤ 3) (hv : ∀ k, k < n → v k = true) :
    Calls Try.prog 18 #[.slice (some ⟨g, 0, none⟩) n n] w fun e w' => e = .returned (.bool true) ∧ Old w w' := by
  go_enter Try.func18, Try.ntmps18
  go_wp2_with fail
  go_enter Try.func34, Try.ntmps34
  go_wp2_with fail
  refine (indexFunc_pts g n v w h hg hn).mono ?_
  rintro e w' ⟨r, rfl, hr, o⟩
  have hr' : r < 0 := by
    rcases hr with ⟨h1, _⟩ | ⟨_, j, hj, h2⟩
    · omega
    · rw [hv j hj] at h2; cases h2
  have hd : decide (0 ≤ r) = false := by simp; omega
  clear hr
  go_wp2
  go_ret
  exact ⟨rfl, oldA⟩
set_option maxRecDepth 100000 in
set_option maxHeartbeats 8000000 in
theorem arePoints_1 (bpx : Bool) (Apx : Option Addr) (npx cpx lpx : Nat) (fpx : Nat → Int) (Dpx : Option Addr) (mpx epx upx : Nat) (gpx : Nat → Int) (bpy : Bool) (Apy : Option Addr) (npy cpy lpy : Nat) (fpy : Nat → Int) (Dpy : Option Addr) (mpy epy upy : Nat) (gpy : Nat → Int) (g : Nat) (w : World) (E : Bx w g #[.bool bpx, .slice Apx npx cpx, .slice Dpx mpx epx, .bool bpy, .slice Apy npy cpy, .slice Dpy mpy epy]) (hpx : Row w lpx Apx npx cpx fpx) (kpx : Row w upx Dpx mpx epx gpx) (hpy : Row w lpy Apy npy cpy fpy) (kpy : Row w upy Dpy mpy epy gpy) (hnpx : npx ≤ 1048576) (hmpx : mpx ≤ 1048576) (hnpy : npy ≤ 1048576) (hmpy : mpy ≤ 1048576) :
    Calls Try.prog 18 #[.slice (some ⟨g, 0, none⟩) 1 1] w fun e w' => e = .returned (.bool (rIsValidPoint bpx npx fpx mpx gpx bpy npy fpy mpy gpy)) ∧ Old w w' := by
  have hP : ∀ k, k < 1 → PtAt w g (k * 6) ((fun k => if k = 0 then rIsValidPoint bpx npx fpx mpx gpx bpy npy fpy mpy gpy else true) k) := by
    intro k hk
    obtain rfl : k = 0 := by omega
    · exact ⟨_, _, _, _, _, _, _, _, _, _, _, _, _, _, _, _, _, _, _, _, _, _, E.cell 0 rfl, E.cell 1 rfl, E.cell 2 rfl, E.cell 3 rfl, E.cell 4 rfl, E.cell 5 rfl, hpx, kpx, hpy, kpy, hnpx, hmpx, hnpy, hmpy, rfl⟩

  by_cases hall : rIsValidPoint bpx npx fpx mpx gpx bpy npy fpy mpy gpy = true
  · have hb : (rIsValidPoint bpx npx fpx mpx gpx bpy npy fpy mpy gpy) = true := by simp [hall]
    rw [hb]
    exact arePts_good g 1 _ w hP E.lt (by omega) (fun k hk => by
      obtain rfl : k = 0 := by omega
      all_goals simp [hall])
  · have hb : (rIsValidPoint bpx npx fpx mpx gpx bpy npy fpy mpy gpy) = false := by
      cases h : (rIsValidPoint bpx npx fpx mpx gpx bpy npy fpy mpy gpy)
      · rfl
      · exact absurd (by simpa using h) hall
    rw [hb]
    obtain ⟨k, hk, hv⟩ : ∃ k, k < 1 ∧ (fun k => if k = 0 then rIsValidPoint bpx npx fpx mpx gpx bpy npy fpy mpy gpy else true) k = false := by
      clear hP
      cases hvp : rIsValidPoint bpx npx fpx mpx gpx bpy npy fpy mpy gpy
      · exact ⟨0, by omega, by simp⟩
      exact absurd hvp hall
    exact arePts_bad g 1 _ w hP E.lt (by omega) k hk hv
set_option maxRecDepth 100000 in
set_option maxHeartbeats 8000000 in
theorem arePoints_2 (bpx : Bool) (Apx : Option Addr) (npx cpx lpx : Nat) (fpx : Nat → Int) (Dpx : Option Addr) (mpx epx upx : Nat) (gpx : Nat → Int) (bpy : Bool) (Apy : Option Addr) (npy cpy lpy : Nat) (fpy : Nat → Int) (Dpy : Option Addr) (mpy epy upy : Nat) (gpy : Nat → Int) (bqx : Bool) (Aqx : Option Addr) (nqx cqx lqx : Nat) (fqx : Nat → Int) (Dqx : Option Addr) (mqx eqx uqx : Nat) (gqx : Nat → Int) (bqy : Bool) (Aqy : Option Addr) (nqy cqy lqy : Nat) (fqy : Nat → Int) (Dqy : Option Addr) (mqy eqy uqy : Nat) (gqy : Nat → Int) (g : Nat) (w : World) (E : Bx w g #[.bool bpx, .slice Apx npx cpx, .slice Dpx mpx epx, .bool bpy, .slice Apy npy cpy, .slice Dpy mpy epy, .bool bqx, .slice Aqx nqx cqx, .slice Dqx mqx eqx, .bool bqy, .slice Aqy nqy cqy, .slice Dqy mqy eqy]) (hpx : Row w lpx Apx npx cpx fpx) (kpx : Row w upx Dpx mpx epx gpx) (hpy : Row w lpy Apy npy cpy fpy) (kpy : Row w upy Dpy mpy epy gpy) (hqx : Row w lqx Aqx nqx cqx fqx) (kqx : Row w uqx Dqx mqx eqx gqx) (hqy : Row w lqy Aqy nqy cqy fqy) (kqy : Row w uqy Dqy mqy eqy gqy) (hnpx : npx ≤ 1048576) (hmpx : mpx ≤ 1048576) (hnpy : npy ≤ 1048576) (hmpy : mpy ≤ 1048576) (hnqx : nqx ≤ 1048576) (hmqx : mqx ≤ 1048576) (hnqy : nqy ≤ 1048576) (hmqy : mqy ≤ 1048576) :
    Calls Try.prog 18 #[.slice (some ⟨g, 0, none⟩) 2 2] w fun e w' => e = .returned (.bool ((rIsValidPoint bpx npx fpx mpx gpx bpy npy fpy mpy gpy && rIsValidPoint bqx nqx fqx mqx gqx bqy nqy fqy mqy gqy))) ∧ Old w w' := by
  have hP : ∀ k, k < 2 → PtAt w g (k * 6) ((fun k => if k = 0 then rIsValidPoint bpx npx fpx mpx gpx bpy npy fpy mpy gpy else if k = 1 then rIsValidPoint bqx nqx fqx mqx gqx bqy nqy fqy mqy gqy else true) k) := by
    intro k hk
    obtain rfl | rfl : k = 0 ∨ k = 1 := by omega
    · exact ⟨_, _, _, _, _, _, _, _, _, _, _, _, _, _, _, _, _, _, _, _, _, _, E.cell 0 rfl, E.cell 1 rfl, E.cell 2 rfl, E.cell 3 rfl, E.cell 4 rfl, E.cell 5 rfl, hpx, kpx, hpy, kpy, hnpx, hmpx, hnpy, hmpy, rfl⟩
    · exact ⟨_, _, _, _, _, _, _, _, _, _, _, _, _, _, _, _, _, _, _, _, _, _, E.cell 6 rfl, E.cell 7 rfl, E.cell 8 rfl, E.cell 9 rfl, E.cell 10 rfl, E.cell 11 rfl, hqx, kqx, hqy, kqy, hnqx, hmqx, hnqy, hmqy, rfl⟩

  by_cases hall : rIsValidPoint bpx npx fpx mpx gpx bpy npy fpy mpy gpy = true ∧ rIsValidPoint bqx nqx fqx mqx gqx bqy nqy fqy mqy gqy = true
  · have hb : ((rIsValidPoint bpx npx fpx mpx gpx bpy npy fpy mpy gpy && rIsValidPoint bqx nqx fqx mqx gqx bqy nqy fqy mqy gqy)) = true := by simp [hall]
    rw [hb]
    exact arePts_good g 2 _ w hP E.lt (by omega) (fun k hk => by
      obtain rfl | rfl : k = 0 ∨ k = 1 := by omega
      all_goals simp [hall])
  · have hb : ((rIsValidPoint bpx npx fpx mpx gpx bpy npy fpy mpy gpy && rIsValidPoint bqx nqx fqx mqx gqx bqy nqy fqy mqy gqy)) = false := by
      cases h : ((rIsValidPoint bpx npx fpx mpx gpx bpy npy fpy mpy gpy && rIsValidPoint bqx nqx fqx mqx gqx bqy nqy fqy mqy gqy))
      · rfl
      · exact absurd (by simpa using h) hall
    rw [hb]
    obtain ⟨k, hk, hv⟩ : ∃ k, k < 2 ∧ (fun k => if k = 0 then rIsValidPoint bpx npx fpx mpx gpx bpy npy fpy mpy gpy else if k = 1 then rIsValidPoint bqx nqx fqx mqx gqx bqy nqy fqy mqy gqy else true) k = false := by
      clear hP
      cases hvp : rIsValidPoint bpx npx fpx mpx gpx bpy npy fpy mpy gpy
      · exact ⟨0, by omega, by simp⟩
      cases hvq : rIsValidPoint bqx nqx fqx mqx gqx bqy nqy fqy mqy gqy
      · exact ⟨1, by omega, by simp⟩
      exact absurd ⟨hvp, hvq⟩ hall
    exact arePts_bad g 2 _ w hP E.lt (by omega) k hk hv
set_option maxRecDepth 100000 in
set_option maxHeartbeats 8000000 in
theorem arePoints_3 (bpx : Bool) (Apx : Option Addr) (npx cpx lpx : Nat) (fpx : Nat → Int) (Dpx : Option Addr) (mpx epx upx : Nat) (gpx : Nat → Int) (bpy : Bool) (Apy : Option Addr) (npy cpy lpy : Nat) (fpy : Nat → Int) (Dpy : Option Addr) (mpy epy upy : Nat) (gpy : Nat → Int) (bqx : Bool) (Aqx : Option Addr) (nqx cqx lqx : Nat) (fqx : Nat → Int) (Dqx : Option Addr) (mqx eqx uqx : Nat) (gqx : Nat → Int) (bqy : Bool) (Aqy : Option Addr) (nqy cqy lqy : Nat) (fqy : Nat → Int) (Dqy : Option Addr) (mqy eqy uqy : Nat) (gqy : Nat → Int) (brx : Bool) (Arx : Option Addr) (nrx crx lrx : Nat) (frx : Nat → Int) (Drx : Option Addr) (mrx erx urx : Nat) (grx : Nat → Int) (bry : Bool) (Ary : Option Addr) (nry cry lry : Nat) (fry : Nat → Int) (Dry : Option Addr) (mry ery ury : Nat) (gry : Nat → Int) (g : Nat) (w : World) (E : Bx w g #[.bool bpx, .slice Apx npx cpx, .slice Dpx mpx epx, .bool bpy, .slice Apy npy cpy, .slice Dpy mpy epy, .bool bqx, .slice Aqx nqx cqx, .slice Dqx mqx eqx, .bool bqy, .slice Aqy nqy cqy, .slice Dqy mqy eqy, .bool brx, .slice Arx nrx crx, .slice Drx mrx erx, .bool bry, .slice Ary nry cry, .slice Dry mry ery]) (hpx : Row w lpx Apx npx cpx fpx) (kpx : Row w upx Dpx mpx epx gpx) (hpy : Row w lpy Apy npy cpy fpy) (kpy : Row w upy Dpy mpy epy gpy) (hqx : Row w lqx Aqx nqx cqx fqx) (kqx : Row w uqx Dqx mqx eqx gqx) (hqy : Row w lqy Aqy nqy cqy fqy) (kqy : Row w uqy Dqy mqy eqy gqy) (hrx : Row w lrx Arx nrx crx frx) (krx : Row w urx Drx mrx erx grx) (hry : Row w lry Ary nry cry fry) (kry : Row w ury Dry mry ery gry) (hnpx : npx ≤ 1048576) (hmpx : mpx ≤ 1048576) (hnpy : npy ≤ 1048576) (hmpy : mpy ≤ 1048576) (hnqx : nqx ≤ 1048576) (hmqx : mqx ≤ 1048576) (hnqy : nqy ≤ 1048576) (hmqy : mqy ≤ 1048576) (hnrx : nrx ≤ 1048576) (hmrx : mrx ≤ 1048576) (hnry : nry ≤ 1048576) (hmry : mry ≤ 1048576) :
    Calls Try.prog 18 #[.slice (some ⟨g, 0, none⟩) 3 3] w fun e w' => e = .returned (.bool ((rIsValidPoint bpx npx fpx mpx gpx bpy npy fpy mpy gpy && rIsValidPoint bqx nqx fqx mqx gqx bqy nqy fqy mqy gqy && rIsValidPoint brx nrx frx mrx grx bry nry fry mry gry))) ∧ Old w w' := by
  have hP : ∀ k, k < 3 → PtAt w g (k * 6) ((fun k => if k = 0 then rIsValidPoint bpx npx fpx mpx gpx bpy npy fpy mpy gpy else if k = 1 then rIsValidPoint bqx nqx fqx mqx gqx bqy nqy fqy mqy gqy else if k = 2 then rIsValidPoint brx nrx frx mrx grx bry nry fry mry gry else true) k) := by
    intro k hk
    obtain rfl | rfl | rfl : k = 0 ∨ k = 1 ∨ k = 2 := by omega
    · exact ⟨_, _, _, _, _, _, _, _, _, _, _, _, _, _, _, _, _, _, _, _, _, _, E.cell 0 rfl, E.cell 1 rfl, E.cell 2 rfl, E.cell 3 rfl, E.cell 4 rfl, E.cell 5 rfl, hpx, kpx, hpy, kpy, hnpx, hmpx, hnpy, hmpy, rfl⟩
    · exact ⟨_, _, _, _, _, _, _, _, _, _, _, _, _, _, _, _, _, _, _, _, _, _, E.cell 6 rfl, E.cell 7 rfl, E.cell 8 rfl, E.cell 9 rfl, E.cell 10 rfl, E.cell 11 rfl, hqx, kqx, hqy, kqy, hnqx, hmqx, hnqy, hmqy, rfl⟩
    · exact ⟨_, _, _, _, _, _, _, _, _, _, _, _, _, _, _, _, _, _, _, _, _, _, E.cell 12 rfl, E.cell 13 rfl, E.cell 14 rfl, E.cell 15 rfl, E.cell 16 rfl, E.cell 17 rfl, hrx, krx, hry, kry, hnrx, hmrx, hnry, hmry, rfl⟩

  by_cases hall : rIsValidPoint bpx npx fpx mpx gpx bpy npy fpy mpy gpy = true ∧ rIsValidPoint bqx nqx fqx mqx gqx bqy nqy fqy mqy gqy = true ∧ rIsValidPoint brx nrx frx mrx grx bry nry fry mry gry = true
  · have hb : ((rIsValidPoint bpx npx fpx mpx gpx bpy npy fpy mpy gpy && rIsValidPoint bqx nqx fqx mqx gqx bqy nqy fqy mqy gqy && rIsValidPoint brx nrx frx mrx grx bry nry fry mry gry)) = true := by simp [hall]
    rw [hb]
    exact arePts_good g 3 _ w hP E.lt (by omega) (fun k hk => by
      obtain rfl | rfl | rfl : k = 0 ∨ k = 1 ∨ k = 2 := by omega
      all_goals simp [hall])
  · have hb : ((rIsValidPoint bpx npx fpx mpx gpx bpy npy fpy mpy gpy && rIsValidPoint bqx nqx fqx mqx gqx bqy nqy fqy mqy gqy && rIsValidPoint brx nrx frx mrx grx bry nry fry mry gry)) = false := by
      cases h : ((rIsValidPoint bpx npx fpx mpx gpx bpy npy fpy mpy gpy && rIsValidPoint bqx nqx fqx mqx gqx bqy nqy fqy mqy gqy && rIsValidPoint brx nrx frx mrx grx bry nry fry mry gry))
      · rfl
      · exact absurd (by simpa [and_assoc] using h) hall
    rw [hb]
    obtain ⟨k, hk, hv⟩ : ∃ k, k < 3 ∧ (fun k => if k = 0 then rIsValidPoint bpx npx fpx mpx gpx bpy npy fpy mpy gpy else if k = 1 then rIsValidPoint bqx nqx fqx mqx gqx bqy nqy fqy mqy gqy else if k = 2 then rIsValidPoint brx nrx frx mrx grx bry nry fry mry gry else true) k = false := by
      clear hP
      cases hvp : rIsValidPoint bpx npx fpx mpx gpx bpy npy fpy mpy gpy
      · exact ⟨0, by omega, by simp⟩
      cases hvq : rIsValidPoint bqx nqx fqx mqx gqx bqy nqy fqy mqy gqy
      · exact ⟨1, by omega, by simp⟩
      cases hvr : rIsValidPoint brx nrx frx mrx grx bry nry fry mry gry
      · exact ⟨2, by omega, by simp⟩
      exact absurd ⟨hvp, hvq, hvr⟩ hall
    exact arePts_bad g 3 _ w hP E.lt (by omega) k hk hv
end Go.Proofs.Ytgchbbjhdeobpaa
