import Derived.Test.YtnkeenejcpkelaaRatMake
import Derived.Test.YtnkeenejcpkelaaBigInt2
import Derived.Test.YtnkeenejcpkelaaWq
/-
  An int as a fraction: both RatFromInt's.
-/
namespace Go.Proofs.Ytnkeenejcpkelaa
set_option linter.unusedVariables false
open Go.RowKit Num
attribute [local go_sem ↓] Go.wp_at_zero Go.wp_at_succ
def vRatFromInt (a : Int) : Fr := (zBigIntOf a, 1)
theorem int_len (a : Int) : len (magZ (zBigIntOf a)) ≤ 3 := by
  have h1 : magZ (zBigIntOf a) ≤ 9223372036854775808 := by unfold magZ zBigIntOf; split <;> omega
  have h2 := len_mono h1
  rw [len_min] at h2
  exact h2
theorem vRatFromInt_norm (a : Int) : normF (vRatFromInt a) := int_norm (by have := int_len a; omega)
theorem cell_alloc_old {w : World} {o : Obj} {b k : Nat} (h : b < w.heap.size) : (w.alloc o).cell? ⟨b, k, none⟩ = w.cell? ⟨b, k, none⟩ := ((Old.refl w).alloc (Nat.le_refl _) o).cell (p := ⟨b, k, none⟩) h
theorem one_row_lo (w : World) (g : Nat) (hg : g = w.heap.size) : Row (w.alloc (.cells #[.int .i64 1] 3)) g (some ⟨g, 0, none⟩) 1 1 (digI 1) := by
  subst hg
  refine ⟨Nat.le_refl _, fun hn => ?_⟩
  obtain ⟨b, off, e, _, rest⟩ := (one_row' w).2 hn
  injection e with e
  injection e with e1 e2
  subst e1
  subst e2
  exact ⟨_, _, rfl, Nat.le_refl _, rest⟩
set_option maxRecDepth 100000 in
set_option maxHeartbeats 1000000 in
theorem spec_RatFromInt (a : Int) (w : World) (b : -9223372036854775808 ≤ a ∧ a ≤ 9223372036854775807) :
    Calls Try.prog 34 #[.int .i64 a] w fun e w' => RetR e w' w.heap.size (vRatFromInt a) ∧ Old w w' := by
  obtain ⟨z, hz⟩ : ∃ z, z = zBigIntOf a := ⟨_, rfl⟩
  have HZ := Lib.hid hz.symm
  have HV : Hid (vRatFromInt a = (z, 1)) := Lib.hid (by rw [hz]; rfl)
  have HB := Lib.hid b
  clear hz b
  have O : Old w (w.alloc (.cells #[.bool false, .slice none 0 0, .slice none 0 0] 31)) := oldA
  have B_r : Bx (w.alloc (.cells #[.bool false, .slice none 0 0, .slice none 0 0] 31)) (w.heap.size) #[.bool false, .slice none 0 0, .slice none 0 0] := by have h := (Bx.new w #[.bool false, .slice none 0 0, .slice none 0 0] 31); simpa using h
  have ze : w.heap.size + 1 ≤ (w.alloc (.cells #[.bool false, .slice none 0 0, .slice none 0 0] 31)).heap.size := (by simp)
  go_enter Try.func34, Try.ntmps34
  go_wp2_with fail
  refine callsNamed ?_
  intro p1 hp
  have O' : Old w p1 := (by rw [hp]; exact Below.trans (b := (w.alloc (.cells #[.bool false, .slice none 0 0, .slice none 0 0] 31))) O oldA)
  replace B_r : Bx p1 (w.heap.size) #[.bool false, .slice none 0 0, .slice none 0 0] := (bxK B_r hp)
  have zp1 : (w.alloc (.cells #[.bool false, .slice none 0 0, .slice none 0 0] 31)).heap.size ≤ p1.heap.size := (by rw [hp]; exact leA)
  clear hp O
  have O := O'
  clear O'
  refine (retB_to HZ.out (spec_BigIntOf a _ HB.out)).mono ?_
  rintro e w1 ⟨⟨A5, c5, rfl, r5⟩, o1⟩
  replace B_r := Bx.old B_r o1
  replace O := Old.trans O o1
  have zw1 := o1.size
  replace r5 := Row.more (lo' := p1.heap.size) r5 leA
  have lim_r5 := Row.lim r5
  obtain ⟨q_r_0, q_r_1, q_r_2, f_r_0, f_r_1, f_r_2, q_r⟩ := B_r.all3
  have hlt : w.heap.size < w1.heap.size := by omega
  go_wp2
  refine bodyPost_ret (v := .agg #[.bool (sgnZ z), .slice A5 (len (magZ z)) c5, .slice (some ⟨w1.heap.size, 0, none⟩) 1 1]) (by simp [results, Try.results34, go_sem, q_r_0, q_r_1, q_r_2, cell_alloc_old, hlt]) rfl ⟨⟨z, 1, A5, c5, some ⟨w1.heap.size, 0, none⟩, 1, HV.out, by rw [len_1], ?_, ?_, ?_⟩, ?_⟩
  · refine Row.more (lo := p1.heap.size) ?_ leA
    repeat' (first | (with_reducible exact r5) | (with_reducible refine Row.alloc' ?_ _) | (with_reducible refine Row.drewN ?_ _) | (with_reducible refine Row.drew' ?_) | refine Row.far_set ?_ (by first | (simp <;> done) | (simp; omega) | omega) _)
  · show Row _ _ _ (len 1) 1 _
    rw [len_1]
    refine Row.more (lo := w1.heap.size) ?_ leA
    repeat' (first | exact one_row_lo _ _ (by simp) | (with_reducible refine Row.drewN ?_ _) | (with_reducible refine Row.drew' ?_) | refine Row.far_set ?_ (by first | (simp <;> done) | (simp; omega) | omega) _)
  · intro a a' h1 h2 e1 e2
    have h3 := lim_r5 h1 a e1
    injection e2 with e2
    subst e2
    show a.block ≠ w1.heap.size
    omega
  · exact Below.trans (b := w1) O oldA
set_option maxRecDepth 100000 in
set_option maxHeartbeats 1000000 in
theorem ratInt_any (a : Int) (w : World) (b : -9223372036854775808 ≤ a ∧ a ≤ 9223372036854775807) :
    Calls Try.prog 87 #[.int .i64 a] w fun e w' => RetR e w' w.heap.size (vRatFromInt a) ∧ Old w w' := by
  obtain ⟨z, hz⟩ : ∃ z, z = zBigIntOf a := ⟨_, rfl⟩
  have HZ := Lib.hid hz.symm
  have HV : Hid (vRatFromInt a = (z, 1)) := Lib.hid (by rw [hz]; rfl)
  have HB := Lib.hid b
  clear hz b
  have O : Old w (w.alloc (.cells #[.bool false, .slice none 0 0, .slice none 0 0] 31)) := oldA
  have B_r : Bx (w.alloc (.cells #[.bool false, .slice none 0 0, .slice none 0 0] 31)) (w.heap.size) #[.bool false, .slice none 0 0, .slice none 0 0] := by have h := (Bx.new w #[.bool false, .slice none 0 0, .slice none 0 0] 31); simpa using h
  have ze : w.heap.size + 1 ≤ (w.alloc (.cells #[.bool false, .slice none 0 0, .slice none 0 0] 31)).heap.size := (by simp)
  go_enter Try.func87, Try.ntmps87
  go_wp2_with fail
  refine callsNamed ?_
  intro p1 hp
  have O' : Old w p1 := (by rw [hp]; exact Below.trans (b := (w.alloc (.cells #[.bool false, .slice none 0 0, .slice none 0 0] 31))) O oldA)
  replace B_r : Bx p1 (w.heap.size) #[.bool false, .slice none 0 0, .slice none 0 0] := (bxK B_r hp)
  have zp1 : (w.alloc (.cells #[.bool false, .slice none 0 0, .slice none 0 0] 31)).heap.size ≤ p1.heap.size := (by rw [hp]; exact leA)
  clear hp O
  have O := O'
  clear O'
  refine (retB_to HZ.out (bigOf_any a _ HB.out)).mono ?_
  rintro e w1 ⟨⟨A5, c5, rfl, r5⟩, o1⟩
  replace B_r := Bx.old B_r o1
  replace O := Old.trans O o1
  have zw1 := o1.size
  replace r5 := Row.more (lo' := p1.heap.size) r5 leA
  have lim_r5 := Row.lim r5
  obtain ⟨q_r_0, q_r_1, q_r_2, f_r_0, f_r_1, f_r_2, q_r⟩ := B_r.all3
  have hlt : w.heap.size < w1.heap.size := by omega
  go_wp2
  refine bodyPost_ret (v := .agg #[.bool (sgnZ z), .slice A5 (len (magZ z)) c5, .slice (some ⟨w1.heap.size, 0, none⟩) 1 1]) (by simp [results, Try.results87, go_sem, q_r_0, q_r_1, q_r_2, cell_alloc_old, hlt]) rfl ⟨⟨z, 1, A5, c5, some ⟨w1.heap.size, 0, none⟩, 1, HV.out, by rw [len_1], ?_, ?_, ?_⟩, ?_⟩
  · refine Row.more (lo := p1.heap.size) ?_ leA
    repeat' (first | (with_reducible exact r5) | (with_reducible refine Row.alloc' ?_ _) | (with_reducible refine Row.drewN ?_ _) | (with_reducible refine Row.drew' ?_) | refine Row.far_set ?_ (by first | (simp <;> done) | (simp; omega) | omega) _)
  · show Row _ _ _ (len 1) 1 _
    rw [len_1]
    refine Row.more (lo := w1.heap.size) ?_ leA
    repeat' (first | exact one_row_lo _ _ (by simp) | (with_reducible refine Row.drewN ?_ _) | (with_reducible refine Row.drew' ?_) | refine Row.far_set ?_ (by first | (simp <;> done) | (simp; omega) | omega) _)
  · intro a a' h1 h2 e1 e2
    have h3 := lim_r5 h1 a e1
    injection e2 with e2
    subst e2
    show a.block ≠ w1.heap.size
    omega
  · exact Below.trans (b := w1) O oldA
set_option maxRecDepth 100000 in
set_option maxHeartbeats 1000000 in
theorem impl_RatFromInt (a : Int) (w : World) (b : -9223372036854775808 ≤ a ∧ a ≤ 9223372036854775807) :
    Calls Try.prog 35 #[.int .i64 a] w fun e w' => RetR e w' w.heap.size (vRatFromInt a) ∧ Old w w' := by
  have HB := Lib.hid b
  clear b
  have O : Old w (w.alloc (.cells #[.bool false, .slice none 0 0, .slice none 0 0] 31)) := oldA
  have B_r : Bx (w.alloc (.cells #[.bool false, .slice none 0 0, .slice none 0 0] 31)) (w.heap.size) #[.bool false, .slice none 0 0, .slice none 0 0] := by have h := (Bx.new w #[.bool false, .slice none 0 0, .slice none 0 0] 31); simpa using h
  have ze : w.heap.size + 1 ≤ (w.alloc (.cells #[.bool false, .slice none 0 0, .slice none 0 0] 31)).heap.size := (by simp)
  go_enter Try.func35, Try.ntmps35
  go_wp2_with fail
  refine callsNamed ?_
  intro p1 hp
  have O' : Old w p1 := (by rw [hp]; exact Below.trans (b := (w.alloc (.cells #[.bool false, .slice none 0 0, .slice none 0 0] 31))) O oldA)
  replace B_r : Bx p1 (w.heap.size) #[.bool false, .slice none 0 0, .slice none 0 0] := (bxK B_r hp)
  have zp1 : (w.alloc (.cells #[.bool false, .slice none 0 0, .slice none 0 0] 31)).heap.size ≤ p1.heap.size := (by rw [hp]; exact leA)
  clear hp O
  have O := O'
  clear O'
  refine (ratInt_any a _ HB.out).mono ?_
  rintro e w1 ⟨⟨z9, d9, A9, c9, D9, e9, hv, rfl, r9, s9, ap⟩, o1⟩
  replace B_r := Bx.old B_r o1
  replace O := Old.trans O o1
  have zw1 := o1.size
  replace r9 := Row.more (lo' := p1.heap.size) r9 leA
  replace s9 := Row.more (lo' := p1.heap.size) s9 leA
  have lim_r9 := Row.lim r9
  have lim_s9 := Row.lim s9
  have HV := Lib.hid hv
  have AP := Lib.hid ap
  clear hv ap
  obtain ⟨q_r_0, q_r_1, q_r_2, f_r_0, f_r_1, f_r_2, q_r⟩ := B_r.all3
  go_wp2
  refine bodyPost_ret (v := .agg #[.bool (sgnZ z9), .slice A9 (len (magZ z9)) c9, .slice D9 (len d9) e9]) (by simp [results, Try.results35, go_sem, q_r_0, q_r_1, q_r_2]) rfl ⟨⟨z9, d9, A9, c9, D9, e9, HV.out, rfl, ?_, ?_, AP.out⟩, ?_⟩
  · refine Row.more (lo := p1.heap.size) ?_ leA
    repeat' (first | (with_reducible exact r9) | (with_reducible refine Row.far_set ?_ (by first | (simp <;> done) | (simp; omega) | omega) _))
  · refine Row.more (lo := p1.heap.size) ?_ leA
    repeat' (first | (with_reducible exact s9) | (with_reducible refine Row.far_set ?_ (by first | (simp <;> done) | (simp; omega) | omega) _))
  · exact Below.trans (b := w1) O oldA
def vPointOf (a b : Int) : Fr × Fr := (vRatFromInt a, vRatFromInt b)
theorem vPointOf_norm (a b : Int) : normF (vPointOf a b).1 ∧ normF (vPointOf a b).2 := ⟨vRatFromInt_norm a, vRatFromInt_norm b⟩
set_option maxRecDepth 100000 in
set_option maxHeartbeats 1000000 in
theorem spec_PointOf (a b : Int) (w : World) (ha : -9223372036854775808 ≤ a ∧ a ≤ 9223372036854775807) (hb : -9223372036854775808 ≤ b ∧ b ≤ 9223372036854775807) :
    Calls Try.prog 38 #[.agg #[.int .i64 a, .int .i64 b]] w fun e w' => RetP e w' w.heap.size (vPointOf a b) ∧ Old w w' := by
  have HA := Lib.hid ha
  have HB := Lib.hid hb
  clear ha hb
  have O : Old w ((w.alloc (.cells #[.int .i64 a, .int .i64 b] 48)).alloc (.cells #[.bool false, .slice none 0 0, .slice none 0 0, .bool false, .slice none 0 0, .slice none 0 0] 39)) := oldB
  have B_x : Bx ((w.alloc (.cells #[.int .i64 a, .int .i64 b] 48)).alloc (.cells #[.bool false, .slice none 0 0, .slice none 0 0, .bool false, .slice none 0 0, .slice none 0 0] 39)) (w.heap.size) #[.int .i64 a, .int .i64 b] := by have h := (Bx.alloc (Bx.new w #[.int .i64 a, .int .i64 b] 48) (.cells #[.bool false, .slice none 0 0, .slice none 0 0, .bool false, .slice none 0 0, .slice none 0 0] 39)); simpa using h
  have B_r : Bx ((w.alloc (.cells #[.int .i64 a, .int .i64 b] 48)).alloc (.cells #[.bool false, .slice none 0 0, .slice none 0 0, .bool false, .slice none 0 0, .slice none 0 0] 39)) (w.heap.size + 1) #[.bool false, .slice none 0 0, .slice none 0 0, .bool false, .slice none 0 0, .slice none 0 0] := by have h := (Bx.new (w.alloc (.cells #[.int .i64 a, .int .i64 b] 48)) #[.bool false, .slice none 0 0, .slice none 0 0, .bool false, .slice none 0 0, .slice none 0 0] 39); simpa using h
  have ne_0_1 : ¬ (w.heap.size = w.heap.size + 1) := by omega
  have ne_1_0 : ¬ (w.heap.size + 1 = w.heap.size) := by omega
  have ze : w.heap.size + 2 ≤ ((w.alloc (.cells #[.int .i64 a, .int .i64 b] 48)).alloc (.cells #[.bool false, .slice none 0 0, .slice none 0 0, .bool false, .slice none 0 0, .slice none 0 0] 39)).heap.size := (by simp)
  go_enter Try.func38, Try.ntmps38
  go_wp2_with fail
  go_region_held3 (fun w' => w'.cell? ⟨w.heap.size, 0, none⟩ = some (.int .i64 a) ∧ w'.cell? ⟨w.heap.size, 1, none⟩ = some (.int .i64 b)) (go_keep)
    (first
     | (go_at_call 34; refine callsNamed ?_; intro p1 hp; have O' : Old w p1 := (by rw [hp]; exact Below.trans (b := ((w.alloc (.cells #[.int .i64 a, .int .i64 b] 48)).alloc (.cells #[.bool false, .slice none 0 0, .slice none 0 0, .bool false, .slice none 0 0, .slice none 0 0] 39))) O oldB); replace B_x : Bx p1 (w.heap.size) #[.int .i64 a, .int .i64 b] := (bxK B_x hp); replace B_r : Bx p1 (w.heap.size + 1) #[.bool false, .slice none 0 0, .slice none 0 0, .bool false, .slice none 0 0, .slice none 0 0] := (bxK B_r hp); have zp1 : ((w.alloc (.cells #[.int .i64 a, .int .i64 b] 48)).alloc (.cells #[.bool false, .slice none 0 0, .slice none 0 0, .bool false, .slice none 0 0, .slice none 0 0] 39)).heap.size ≤ p1.heap.size := (by rw [hp]; exact leA); clear hp O; have O := O'; clear O'; (with_reducible refine (spec_RatFromInt a _ HA.out).mono ?_); rintro e w1 ⟨⟨z8, d8, A8, c8, D8, e8, hv8, rfl, r8, s8, ap8⟩, o1⟩; replace B_x := Bx.old B_x o1; replace B_r := Bx.old B_r o1; replace O := Old.trans O o1; have zw1 := o1.size; replace r8 := Row.more (lo' := p1.heap.size) r8 leA; replace s8 := Row.more (lo' := p1.heap.size) s8 leA; have lim_r8 := Row.lim r8; have lim_s8 := Row.lim s8; have HV8 := Lib.hid hv8; have AP8 := Lib.hid ap8; clear hv8 ap8; obtain ⟨q_x_0, q_x_1, f_x_0, f_x_1, q_x⟩ := B_x.all2; obtain ⟨q_r_0, q_r_1, q_r_2, q_r_3, q_r_4, q_r_5, f_r_0, f_r_1, f_r_2, f_r_3, f_r_4, f_r_5, q_r⟩ := B_r.all6)
     | (go_at_call 34; refine callsNamed ?_; intro p2 hp; clear q_x_0 q_x_1 f_x_0 f_x_1 q_x q_r_0 q_r_1 q_r_2 q_r_3 q_r_4 q_r_5 f_r_0 f_r_1 f_r_2 f_r_3 f_r_4 f_r_5 q_r; have O' : Old w p2 := (by rw [hp]; exact Below.trans (b := w1) O oldB); replace B_x : Bx p2 (w.heap.size) #[.int .i64 a, .int .i64 b] := (bxK B_x hp); replace B_r : Bx p2 (w.heap.size + 1) #[.bool false, .slice none 0 0, .slice none 0 0, .bool false, .slice none 0 0, .slice none 0 0] := (bxK B_r hp); replace r8 := rowK r8 hp; replace s8 := rowK s8 hp; have zp2 : w1.heap.size ≤ p2.heap.size := (by rw [hp]; exact leA); clear hp O; have O := O'; clear O'; (with_reducible refine (spec_RatFromInt b _ HB.out).mono ?_); rintro e w2 ⟨⟨z9, d9, A9, c9, D9, e9, hv9, rfl, r9, s9, ap9⟩, o2⟩; replace B_x := Bx.old B_x o2; replace B_r := Bx.old B_r o2; replace r8 := Row.below r8 o2 (Nat.le_refl _); replace s8 := Row.below s8 o2 (Nat.le_refl _); replace O := Old.trans O o2; have zw2 := o2.size; replace r9 := Row.more (lo' := p2.heap.size) r9 leA; replace s9 := Row.more (lo' := p2.heap.size) s9 leA; have lim_r9 := Row.lim r9; have lim_s9 := Row.lim s9; have HV9 := Lib.hid hv9; have AP9 := Lib.hid ap9; clear hv9 ap9; obtain ⟨q_x_0, q_x_1, f_x_0, f_x_1, q_x⟩ := B_x.all2; obtain ⟨q_r_0, q_r_1, q_r_2, q_r_3, q_r_4, q_r_5, f_r_0, f_r_1, f_r_2, f_r_3, f_r_4, f_r_5, q_r⟩ := B_r.all6))
  have AP := Lib.hid (And.intro AP8.out (And.intro (Apart.of lim_r8 r9 (by omega)) (And.intro (Apart.of lim_r8 s9 (by omega)) (And.intro (Apart.of lim_s8 r9 (by omega)) (And.intro (Apart.of lim_s8 s9 (by omega)) AP9.out)))))
  go_wp2
  refine bodyPost_ret (v := .agg #[.bool (sgnZ z8), .slice A8 (len (magZ z8)) c8, .slice D8 (len d8) e8, .bool (sgnZ z9), .slice A9 (len (magZ z9)) c9, .slice D9 (len d9) e9]) (by simp [results, Try.results38, go_sem, q_r_0, q_r_1, q_r_2, q_r_3, q_r_4, q_r_5]) rfl ⟨⟨z8, d8, z9, d9, A8, c8, D8, e8, A9, c9, D9, e9, by rw [← HV8.out, ← HV9.out]; rfl, rfl, ?_, ?_, ?_, ?_, AP.out⟩, ?_⟩
  · refine Row.more (lo := p1.heap.size) ?_ leA
    repeat' (first | (with_reducible exact r8) | (with_reducible refine Row.far_set ?_ (by first | (simp <;> done) | (simp; omega) | omega) _))
  · refine Row.more (lo := p1.heap.size) ?_ leA
    repeat' (first | (with_reducible exact s8) | (with_reducible refine Row.far_set ?_ (by first | (simp <;> done) | (simp; omega) | omega) _))
  · refine Row.more (lo := p2.heap.size) ?_ leA
    repeat' (first | (with_reducible exact r9) | (with_reducible refine Row.far_set ?_ (by first | (simp <;> done) | (simp; omega) | omega) _))
  · refine Row.more (lo := p2.heap.size) ?_ leA
    repeat' (first | (with_reducible exact s9) | (with_reducible refine Row.far_set ?_ (by first | (simp <;> done) | (simp; omega) | omega) _))
  · exact Below.trans (b := w2) O oldB
set_option maxRecDepth 100000 in
set_option maxHeartbeats 1000000 in
theorem impl_PointOf (a b : Int) (w : World) (ha : -9223372036854775808 ≤ a ∧ a ≤ 9223372036854775807) (hb : -9223372036854775808 ≤ b ∧ b ≤ 9223372036854775807) :
    Calls Try.prog 40 #[.agg #[.int .i64 a, .int .i64 b]] w fun e w' => RetP e w' w.heap.size (vPointOf a b) ∧ Old w w' := by
  have HA := Lib.hid ha
  have HB := Lib.hid hb
  clear ha hb
  have O : Old w ((w.alloc (.cells #[.int .i64 a, .int .i64 b] 48)).alloc (.cells #[.bool false, .slice none 0 0, .slice none 0 0, .bool false, .slice none 0 0, .slice none 0 0] 39)) := oldB
  have B_x : Bx ((w.alloc (.cells #[.int .i64 a, .int .i64 b] 48)).alloc (.cells #[.bool false, .slice none 0 0, .slice none 0 0, .bool false, .slice none 0 0, .slice none 0 0] 39)) (w.heap.size) #[.int .i64 a, .int .i64 b] := by have h := (Bx.alloc (Bx.new w #[.int .i64 a, .int .i64 b] 48) (.cells #[.bool false, .slice none 0 0, .slice none 0 0, .bool false, .slice none 0 0, .slice none 0 0] 39)); simpa using h
  have B_r : Bx ((w.alloc (.cells #[.int .i64 a, .int .i64 b] 48)).alloc (.cells #[.bool false, .slice none 0 0, .slice none 0 0, .bool false, .slice none 0 0, .slice none 0 0] 39)) (w.heap.size + 1) #[.bool false, .slice none 0 0, .slice none 0 0, .bool false, .slice none 0 0, .slice none 0 0] := by have h := (Bx.new (w.alloc (.cells #[.int .i64 a, .int .i64 b] 48)) #[.bool false, .slice none 0 0, .slice none 0 0, .bool false, .slice none 0 0, .slice none 0 0] 39); simpa using h
  have ne_0_1 : ¬ (w.heap.size = w.heap.size + 1) := by omega
  have ne_1_0 : ¬ (w.heap.size + 1 = w.heap.size) := by omega
  have ze : w.heap.size + 2 ≤ ((w.alloc (.cells #[.int .i64 a, .int .i64 b] 48)).alloc (.cells #[.bool false, .slice none 0 0, .slice none 0 0, .bool false, .slice none 0 0, .slice none 0 0] 39)).heap.size := (by simp)
  go_enter Try.func40, Try.ntmps40
  go_wp2_with fail
  go_region_held3 (fun w' => w'.cell? ⟨w.heap.size, 0, none⟩ = some (.int .i64 a) ∧ w'.cell? ⟨w.heap.size, 1, none⟩ = some (.int .i64 b)) (go_keep)
    (first
     | (go_at_call 87; refine callsNamed ?_; intro p1 hp; have O' : Old w p1 := (by rw [hp]; exact Below.trans (b := ((w.alloc (.cells #[.int .i64 a, .int .i64 b] 48)).alloc (.cells #[.bool false, .slice none 0 0, .slice none 0 0, .bool false, .slice none 0 0, .slice none 0 0] 39))) O oldB); replace B_x : Bx p1 (w.heap.size) #[.int .i64 a, .int .i64 b] := (bxK B_x hp); replace B_r : Bx p1 (w.heap.size + 1) #[.bool false, .slice none 0 0, .slice none 0 0, .bool false, .slice none 0 0, .slice none 0 0] := (bxK B_r hp); have zp1 : ((w.alloc (.cells #[.int .i64 a, .int .i64 b] 48)).alloc (.cells #[.bool false, .slice none 0 0, .slice none 0 0, .bool false, .slice none 0 0, .slice none 0 0] 39)).heap.size ≤ p1.heap.size := (by rw [hp]; exact leA); clear hp O; have O := O'; clear O'; (with_reducible refine (ratInt_any a _ HA.out).mono ?_); rintro e w1 ⟨⟨z8, d8, A8, c8, D8, e8, hv8, rfl, r8, s8, ap8⟩, o1⟩; replace B_x := Bx.old B_x o1; replace B_r := Bx.old B_r o1; replace O := Old.trans O o1; have zw1 := o1.size; replace r8 := Row.more (lo' := p1.heap.size) r8 leA; replace s8 := Row.more (lo' := p1.heap.size) s8 leA; have lim_r8 := Row.lim r8; have lim_s8 := Row.lim s8; have HV8 := Lib.hid hv8; have AP8 := Lib.hid ap8; clear hv8 ap8; obtain ⟨q_x_0, q_x_1, f_x_0, f_x_1, q_x⟩ := B_x.all2; obtain ⟨q_r_0, q_r_1, q_r_2, q_r_3, q_r_4, q_r_5, f_r_0, f_r_1, f_r_2, f_r_3, f_r_4, f_r_5, q_r⟩ := B_r.all6)
     | (go_at_call 87; refine callsNamed ?_; intro p2 hp; clear q_x_0 q_x_1 f_x_0 f_x_1 q_x q_r_0 q_r_1 q_r_2 q_r_3 q_r_4 q_r_5 f_r_0 f_r_1 f_r_2 f_r_3 f_r_4 f_r_5 q_r; have O' : Old w p2 := (by rw [hp]; exact Below.trans (b := w1) O oldB); replace B_x : Bx p2 (w.heap.size) #[.int .i64 a, .int .i64 b] := (bxK B_x hp); replace B_r : Bx p2 (w.heap.size + 1) #[.bool false, .slice none 0 0, .slice none 0 0, .bool false, .slice none 0 0, .slice none 0 0] := (bxK B_r hp); replace r8 := rowK r8 hp; replace s8 := rowK s8 hp; have zp2 : w1.heap.size ≤ p2.heap.size := (by rw [hp]; exact leA); clear hp O; have O := O'; clear O'; (with_reducible refine (ratInt_any b _ HB.out).mono ?_); rintro e w2 ⟨⟨z9, d9, A9, c9, D9, e9, hv9, rfl, r9, s9, ap9⟩, o2⟩; replace B_x := Bx.old B_x o2; replace B_r := Bx.old B_r o2; replace r8 := Row.below r8 o2 (Nat.le_refl _); replace s8 := Row.below s8 o2 (Nat.le_refl _); replace O := Old.trans O o2; have zw2 := o2.size; replace r9 := Row.more (lo' := p2.heap.size) r9 leA; replace s9 := Row.more (lo' := p2.heap.size) s9 leA; have lim_r9 := Row.lim r9; have lim_s9 := Row.lim s9; have HV9 := Lib.hid hv9; have AP9 := Lib.hid ap9; clear hv9 ap9; obtain ⟨q_x_0, q_x_1, f_x_0, f_x_1, q_x⟩ := B_x.all2; obtain ⟨q_r_0, q_r_1, q_r_2, q_r_3, q_r_4, q_r_5, f_r_0, f_r_1, f_r_2, f_r_3, f_r_4, f_r_5, q_r⟩ := B_r.all6))
  have AP := Lib.hid (And.intro AP8.out (And.intro (Apart.of lim_r8 r9 (by omega)) (And.intro (Apart.of lim_r8 s9 (by omega)) (And.intro (Apart.of lim_s8 r9 (by omega)) (And.intro (Apart.of lim_s8 s9 (by omega)) AP9.out)))))
  go_wp2
  refine bodyPost_ret (v := .agg #[.bool (sgnZ z8), .slice A8 (len (magZ z8)) c8, .slice D8 (len d8) e8, .bool (sgnZ z9), .slice A9 (len (magZ z9)) c9, .slice D9 (len d9) e9]) (by simp [results, Try.results40, go_sem, q_r_0, q_r_1, q_r_2, q_r_3, q_r_4, q_r_5]) rfl ⟨⟨z8, d8, z9, d9, A8, c8, D8, e8, A9, c9, D9, e9, by rw [← HV8.out, ← HV9.out]; rfl, rfl, ?_, ?_, ?_, ?_, AP.out⟩, ?_⟩
  · refine Row.more (lo := p1.heap.size) ?_ leA
    repeat' (first | (with_reducible exact r8) | (with_reducible refine Row.far_set ?_ (by first | (simp <;> done) | (simp; omega) | omega) _))
  · refine Row.more (lo := p1.heap.size) ?_ leA
    repeat' (first | (with_reducible exact s8) | (with_reducible refine Row.far_set ?_ (by first | (simp <;> done) | (simp; omega) | omega) _))
  · refine Row.more (lo := p2.heap.size) ?_ leA
    repeat' (first | (with_reducible exact r9) | (with_reducible refine Row.far_set ?_ (by first | (simp <;> done) | (simp; omega) | omega) _))
  · refine Row.more (lo := p2.heap.size) ?_ leA
    repeat' (first | (with_reducible exact s9) | (with_reducible refine Row.far_set ?_ (by first | (simp <;> done) | (simp; omega) | omega) _))
  · exact Below.trans (b := w2) O oldB
end Go.Proofs.Ytnkeenejcpkelaa
