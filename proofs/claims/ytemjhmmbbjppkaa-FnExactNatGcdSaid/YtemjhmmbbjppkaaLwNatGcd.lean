/-
  The law FnExactNatGcd: the program's function and the reference's return the same, the arguments are left as they were, and the result is memory of its own.
-/
import Derived.Test.YtemjhmmbbjppkaaArgs
import Derived.Deep.DeepCutAuto
import Derived.Deep.RegionHeld3
import Derived.Deep.DrawnRows
import Derived.Test.YtemjhmmbbjppkaaBoxes
import Derived.Test.YtemjhmmbbjppkaaGcd
namespace Go.Proofs.Ytemjhmmbbjppkaa
set_option linter.unusedVariables false
open Go.ChangeShapes Go.WideShapes Go.ChangeAt Go.RowKit
open Go.ChangeMaps (open_string shut_string)
attribute [local go_sem ↓] Go.wp_at_zero Go.wp_at_succ
set_option maxRecDepth 100000 in
set_option maxHeartbeats 1000000 in
theorem walkNatGcd (A0_0 : Option Addr) (n0_0 c0_0 : Nat) (f0_0 : Nat → Int) (A1_0 : Option Addr) (n1_0 c1_0 : Nat) (f1_0 : Nat → Int) (w : World) (h0_0 : Rd w A0_0 n0_0 c0_0 f0_0) (h1_0 : Rd w A1_0 n1_0 c1_0 f1_0) :
    Calls Try.prog 15 #[.slice A0_0 n0_0 c0_0, .slice A1_0 n1_0 c1_0] w fun e w' => e = .returned (.bool true) ∧ Old w w' := by
  by_cases hn0_0 : n0_0 ≤ 1048576
  · skip
    by_cases hn1_0 : n1_0 ≤ 1048576
    · skip
      have L_0_0 : Num.len (rNatGcd n0_0 f0_0 n1_0 f1_0) ≤ 1048576 := by have := rNatGcd_len n0_0 f0_0 n1_0 f1_0; omega
      have O := Old.refl w
      go_enter Try.func15, Try.ntmps15
      go_wp2_with fail
      refine (toIntS_any _ _ _ _ _ (h0_0.below O (Nat.le_refl _)) hn0_0).mono ?_
      rintro e w1 ⟨rfl, R_t1_0, o1⟩
      replace O := Old.trans O o1
      have z1 := o1.size
      clear o1
      have lim_t1_0 := R_t1_0.lim
      have low_t1_0 := Low.mono (lo' := w.heap.size + 0) R_t1_0.low (by first | exact Nat.le_refl _ | (simp <;> omega))
      go_wp2_with fail
      refine (toIntS_any _ _ _ _ _ (h1_0.below O (Nat.le_refl _)) hn1_0).mono ?_
      rintro e w2 ⟨rfl, R_t2_0, o2⟩
      replace R_t1_0 := Row.below R_t1_0 o2 (Nat.le_refl _)
      replace O := Old.trans O o2
      have z2 := o2.size
      clear o2
      have lim_t2_0 := R_t2_0.lim
      have low_t2_0 := Low.mono (lo' := w1.heap.size + 0) R_t2_0.low (by first | exact Nat.le_refl _ | (simp <;> omega))
      go_wp2_with fail
      refine (spec_NatGcd _ _ _ _ _ _ _ _ _ _ _ R_t1_0 R_t2_0 hn0_0 hn1_0).mono ?_
      rintro e w3 ⟨⟨A_w0_0, c_w0_0, rfl, R_w0_0⟩, o3⟩
      clear R_t1_0 lim_t1_0 low_t1_0
      clear R_t2_0 lim_t2_0 low_t2_0
      replace O := Old.trans O o3
      have z3 := o3.size
      clear o3
      have lim_w0_0 := R_w0_0.lim
      have low_w0_0 := Low.mono (lo' := w2.heap.size + 0) R_w0_0.low (by first | exact Nat.le_refl _ | (simp <;> omega))
      go_wp2_with fail
      refine (toIntS_any _ _ _ _ _ (h0_0.below O (Nat.le_refl _)) hn0_0).mono ?_
      rintro e w4 ⟨rfl, R_t3_0, o4⟩
      replace R_w0_0 := Row.below R_w0_0 o4 (Nat.le_refl _)
      replace O := Old.trans O o4
      have z4 := o4.size
      clear o4
      have lim_t3_0 := R_t3_0.lim
      have low_t3_0 := Low.mono (lo' := w3.heap.size + 0) R_t3_0.low (by first | exact Nat.le_refl _ | (simp <;> omega))
      go_wp2_with fail
      refine (toIntS_any _ _ _ _ _ (h1_0.below O (Nat.le_refl _)) hn1_0).mono ?_
      rintro e w5 ⟨rfl, R_t4_0, o5⟩
      replace R_w0_0 := Row.below R_w0_0 o5 (Nat.le_refl _)
      replace R_t3_0 := Row.below R_t3_0 o5 (Nat.le_refl _)
      replace O := Old.trans O o5
      have z5 := o5.size
      clear o5
      have lim_t4_0 := R_t4_0.lim
      have low_t4_0 := Low.mono (lo' := w4.heap.size + 0) R_t4_0.low (by first | exact Nat.le_refl _ | (simp <;> omega))
      go_wp2_with fail
      refine (impl_NatGcd _ _ _ _ _ _ _ _ _ _ _ R_t3_0 R_t4_0 hn0_0 hn1_0).mono ?_
      rintro e w6 ⟨⟨A_g0_0, c_g0_0, rfl, R_g0_0⟩, o6⟩
      replace R_w0_0 := Row.below R_w0_0 o6 (Nat.le_refl _)
      replace R_t3_0 := Row.below R_t3_0 o6 (Nat.le_refl _)
      replace R_t4_0 := Row.below R_t4_0 o6 (Nat.le_refl _)
      replace O := Old.trans O o6
      have z6 := o6.size
      clear o6
      have lim_g0_0 := R_g0_0.lim
      have low_g0_0 := Low.mono (lo' := w5.heap.size + 0) R_g0_0.low (by first | exact Nat.le_refl _ | (simp <;> omega))
      go_wp2_with fail
      refine (eqIntS_yes _ _ _ _ _ _ _ _ _ _ R_g0_0 R_w0_0 (fun _ _ => rfl) L_0_0).mono ?_
      rintro e w7 ⟨rfl, o7⟩
      replace R_w0_0 := Row.below R_w0_0 o7 (Nat.le_refl _)
      replace R_t3_0 := Row.below R_t3_0 o7 (Nat.le_refl _)
      replace R_t4_0 := Row.below R_t4_0 o7 (Nat.le_refl _)
      replace R_g0_0 := Row.below R_g0_0 o7 (Nat.le_refl _)
      replace O := Old.trans O o7
      have z7 := o7.size
      clear o7
      go_wp2_with fail
      refine (toIntS_any _ _ _ _ _ (h0_0.below O (Nat.le_refl _)) hn0_0).mono ?_
      rintro e w8 ⟨rfl, R_t5_0, o8⟩
      replace R_w0_0 := Row.below R_w0_0 o8 (Nat.le_refl _)
      replace R_t3_0 := Row.below R_t3_0 o8 (Nat.le_refl _)
      replace R_t4_0 := Row.below R_t4_0 o8 (Nat.le_refl _)
      replace R_g0_0 := Row.below R_g0_0 o8 (Nat.le_refl _)
      replace O := Old.trans O o8
      have z8 := o8.size
      clear o8
      have lim_t5_0 := R_t5_0.lim
      have low_t5_0 := Low.mono (lo' := w7.heap.size + 0) R_t5_0.low (by first | exact Nat.le_refl _ | (simp <;> omega))
      go_wp2_with fail
      refine (eqIntS_yes _ _ _ _ _ _ _ _ _ _ R_t3_0 R_t5_0 (fun _ _ => rfl) hn0_0).mono ?_
      rintro e w9 ⟨rfl, o9⟩
      clear R_t5_0 lim_t5_0 low_t5_0
      replace R_w0_0 := Row.below R_w0_0 o9 (Nat.le_refl _)
      replace R_t3_0 := Row.below R_t3_0 o9 (Nat.le_refl _)
      replace R_t4_0 := Row.below R_t4_0 o9 (Nat.le_refl _)
      replace R_g0_0 := Row.below R_g0_0 o9 (Nat.le_refl _)
      replace O := Old.trans O o9
      have z9 := o9.size
      clear o9
      go_wp2_with fail
      refine (toIntS_any _ _ _ _ _ (h1_0.below O (Nat.le_refl _)) hn1_0).mono ?_
      rintro e w10 ⟨rfl, R_t6_0, o10⟩
      replace R_w0_0 := Row.below R_w0_0 o10 (Nat.le_refl _)
      replace R_t3_0 := Row.below R_t3_0 o10 (Nat.le_refl _)
      replace R_t4_0 := Row.below R_t4_0 o10 (Nat.le_refl _)
      replace R_g0_0 := Row.below R_g0_0 o10 (Nat.le_refl _)
      replace O := Old.trans O o10
      have z10 := o10.size
      clear o10
      have lim_t6_0 := R_t6_0.lim
      have low_t6_0 := Low.mono (lo' := w9.heap.size + 0) R_t6_0.low (by first | exact Nat.le_refl _ | (simp <;> omega))
      go_wp2_with fail
      refine (eqIntS_yes _ _ _ _ _ _ _ _ _ _ R_t4_0 R_t6_0 (fun _ _ => rfl) hn1_0).mono ?_
      rintro e w11 ⟨rfl, o11⟩
      clear R_t6_0 lim_t6_0 low_t6_0
      replace R_w0_0 := Row.below R_w0_0 o11 (Nat.le_refl _)
      replace R_t3_0 := Row.below R_t3_0 o11 (Nat.le_refl _)
      replace R_t4_0 := Row.below R_t4_0 o11 (Nat.le_refl _)
      replace R_g0_0 := Row.below R_g0_0 o11 (Nat.le_refl _)
      replace O := Old.trans O o11
      have z11 := o11.size
      clear o11
      go_wp2_with fail
      refine (markIntS_any _ _ _ _ _ _ _ R_t3_0 hn0_0 (by omega) (by omega)).mono ?_
      rintro e w12 ⟨rfl, S_0, G_0⟩
      clear R_t3_0
      have R_t3_0 := S_0
      clear S_0
      replace R_w0_0 := Row.apart R_w0_0 G_0 lim_w0_0 low_w0_0 lim_t3_0 low_t3_0 (by omega)
      replace R_t4_0 := Row.apart R_t4_0 G_0 lim_t4_0 low_t4_0 lim_t3_0 low_t3_0 (by omega)
      replace R_g0_0 := Row.apart R_g0_0 G_0 lim_g0_0 low_g0_0 lim_t3_0 low_t3_0 (by omega)
      replace O := Below.grown O G_0 O.size (low_t3_0.own (by omega))
      have z12 := G_0.size
      clear G_0
      go_wp2_with fail
      refine (markIntS_any _ _ _ _ _ _ _ R_t4_0 hn1_0 (by omega) (by omega)).mono ?_
      rintro e w13 ⟨rfl, S_0, G_0⟩
      clear R_t4_0
      have R_t4_0 := S_0
      clear S_0
      replace R_w0_0 := Row.apart R_w0_0 G_0 lim_w0_0 low_w0_0 lim_t4_0 low_t4_0 (by omega)
      replace R_t3_0 := Row.apart R_t3_0 G_0 lim_t3_0 low_t3_0 lim_t4_0 low_t4_0 (by omega)
      replace R_g0_0 := Row.apart R_g0_0 G_0 lim_g0_0 low_g0_0 lim_t4_0 low_t4_0 (by omega)
      replace O := Below.grown O G_0 O.size (low_t4_0.own (by omega))
      have z13 := G_0.size
      clear G_0
      go_wp2_with fail
      refine (eqIntS_yes _ _ _ _ _ _ _ _ _ _ R_g0_0 R_w0_0 (fun _ _ => rfl) L_0_0).mono ?_
      rintro e w14 ⟨rfl, o14⟩
      replace R_w0_0 := Row.below R_w0_0 o14 (Nat.le_refl _)
      replace R_t3_0 := Row.below R_t3_0 o14 (Nat.le_refl _)
      replace R_t4_0 := Row.below R_t4_0 o14 (Nat.le_refl _)
      replace R_g0_0 := Row.below R_g0_0 o14 (Nat.le_refl _)
      replace O := Old.trans O o14
      have z14 := o14.size
      clear o14
      go_wp2_with fail
      refine (markIntS_any _ _ _ _ _ _ _ R_g0_0 L_0_0 (by omega) (by omega)).mono ?_
      rintro e w15 ⟨rfl, S_0, G_0⟩
      clear R_g0_0
      have R_g0_0 := S_0
      clear S_0
      replace R_w0_0 := Row.apart R_w0_0 G_0 lim_w0_0 low_w0_0 lim_g0_0 low_g0_0 (by omega)
      replace R_t3_0 := Row.apart R_t3_0 G_0 lim_t3_0 low_t3_0 lim_g0_0 low_g0_0 (by omega)
      replace R_t4_0 := Row.apart R_t4_0 G_0 lim_t4_0 low_t4_0 lim_g0_0 low_g0_0 (by omega)
      replace O := Below.grown O G_0 O.size (low_g0_0.own (by omega))
      have z15 := G_0.size
      clear G_0
      go_wp2_with fail
      refine (heldIntS_yes _ _ _ _ _ _ _ R_g0_0 (fun _ _ => rfl) L_0_0 (by omega) (by omega)).mono ?_
      rintro e w' ⟨rfl, rfl⟩
      go_wp2_with fail
      refine (toIntS_any _ _ _ _ _ (h0_0.below O (Nat.le_refl _)) hn0_0).mono ?_
      rintro e w16 ⟨rfl, R_t7_0, o16⟩
      replace R_w0_0 := Row.below R_w0_0 o16 (Nat.le_refl _)
      replace R_t3_0 := Row.below R_t3_0 o16 (Nat.le_refl _)
      replace R_t4_0 := Row.below R_t4_0 o16 (Nat.le_refl _)
      replace R_g0_0 := Row.below R_g0_0 o16 (Nat.le_refl _)
      replace O := Old.trans O o16
      have z16 := o16.size
      clear o16
      have lim_t7_0 := R_t7_0.lim
      have low_t7_0 := Low.mono (lo' := w15.heap.size + 0) R_t7_0.low (by first | exact Nat.le_refl _ | (simp <;> omega))
      go_wp2_with fail
      refine (toIntS_any _ _ _ _ _ (h1_0.below O (Nat.le_refl _)) hn1_0).mono ?_
      rintro e w17 ⟨rfl, R_t8_0, o17⟩
      replace R_w0_0 := Row.below R_w0_0 o17 (Nat.le_refl _)
      replace R_t3_0 := Row.below R_t3_0 o17 (Nat.le_refl _)
      replace R_t4_0 := Row.below R_t4_0 o17 (Nat.le_refl _)
      replace R_g0_0 := Row.below R_g0_0 o17 (Nat.le_refl _)
      replace R_t7_0 := Row.below R_t7_0 o17 (Nat.le_refl _)
      replace O := Old.trans O o17
      have z17 := o17.size
      clear o17
      have lim_t8_0 := R_t8_0.lim
      have low_t8_0 := Low.mono (lo' := w16.heap.size + 0) R_t8_0.low (by first | exact Nat.le_refl _ | (simp <;> omega))
      go_wp2_with fail
      refine (impl_NatGcd _ _ _ _ _ _ _ _ _ _ _ R_t7_0 R_t8_0 hn0_0 hn1_0).mono ?_
      rintro e w18 ⟨⟨A_h0_0, c_h0_0, rfl, R_h0_0⟩, o18⟩
      clear R_t7_0 lim_t7_0 low_t7_0
      clear R_t8_0 lim_t8_0 low_t8_0
      replace R_w0_0 := Row.below R_w0_0 o18 (Nat.le_refl _)
      replace R_t3_0 := Row.below R_t3_0 o18 (Nat.le_refl _)
      replace R_t4_0 := Row.below R_t4_0 o18 (Nat.le_refl _)
      replace R_g0_0 := Row.below R_g0_0 o18 (Nat.le_refl _)
      replace O := Old.trans O o18
      have z18 := o18.size
      clear o18
      have lim_h0_0 := R_h0_0.lim
      have low_h0_0 := Low.mono (lo' := w17.heap.size + 0) R_h0_0.low (by first | exact Nat.le_refl _ | (simp <;> omega))
      go_wp2_with fail
      refine (eqIntS_yes _ _ _ _ _ _ _ _ _ _ R_h0_0 R_w0_0 (fun _ _ => rfl) L_0_0).mono ?_
      rintro e w19 ⟨rfl, o19⟩
      replace R_w0_0 := Row.below R_w0_0 o19 (Nat.le_refl _)
      replace R_t3_0 := Row.below R_t3_0 o19 (Nat.le_refl _)
      replace R_t4_0 := Row.below R_t4_0 o19 (Nat.le_refl _)
      replace R_g0_0 := Row.below R_g0_0 o19 (Nat.le_refl _)
      replace R_h0_0 := Row.below R_h0_0 o19 (Nat.le_refl _)
      replace O := Old.trans O o19
      have z19 := o19.size
      clear o19
      go_wp2_with fail
      refine (heldIntS_yes _ _ _ _ _ _ _ R_g0_0 (fun _ _ => rfl) L_0_0 (by omega) (by omega)).mono ?_
      rintro e w' ⟨rfl, rfl⟩
      go_wp2
      go_ret
      exact ⟨rfl, O⟩
    · go_enter Try.func15, Try.ntmps15
      go_wp2
      go_ret
      exact ⟨rfl, Old.refl w⟩
  · go_enter Try.func15, Try.ntmps15
    go_wp2
    go_ret
    exact ⟨rfl, Old.refl w⟩

set_option maxRecDepth 100000 in
theorem liftedNatGcd (os : Os) (started : os.Started) (H : Type) (enc : TypeId × Value → H) :
    ReturnsInHanded {} Try.checked os 15 .any (Rows.fnExactNatGcdSpec.pre6 enc Try.prog Try.f15 Rows.fnExactNatGcdRow.domain false) (Rows.fnExactNatGcdSpec.post enc Try.prog Try.f15 false true false false) := by
  refine returnsInHanded_of_change (C := Try.checked) ownKnob_none started (by kernel_rfl) Try.func15
    (ChangeSpec.witness6 (enc := enc) (C := Try.checked) false ⟨#[], #[.slice none 0 0, .slice none 0 0], []⟩ 8 (by kernel_rfl) (by kernel_rfl) (by kernel_rfl) (by kernel_rfl)) ?_
  intro W base args ds gs before hval0 hW hcnd _
  have hval : ∀ (j : Nat) t v, Try.f15.params[j]? = some t → args[j]? = some v → Value.okWide Try.prog W .any base t v := hval0
  have hW' := hW
  obtain ⟨p, q, hA0, hV, rfl, hfz, hnd⟩ := hW
  have hA : DataW.TrodAll enc Try.prog W 0 (fun _ => true) true Try.f15.params.toList args.toList ds p := hA0
  rw [Try.params15] at hA hval
  obtain ⟨v0, vs0, d0, ds0, p0, q0, hargs, rfl, rfl, h0, r0⟩ := trodAll_cons hA
  obtain ⟨v1, vs1, d1, ds1, p1, q1, rfl, rfl, rfl, h1, r1⟩ := trodAll_cons r0
  obtain ⟨rfl, rfl, rfl⟩ := trodAll_nil r1
  obtain rfl : args = #[v0, v1] := by cases args; simp_all
  obtain ⟨rfl, rfl⟩ := trodVars_none hV
  obtain ⟨A0, n0, c0, rfl⟩ := okWide_slice Try.underlying27 (hval 0 27 v0 rfl rfl)
  have k0 := h0
  have lt0 : ∀ x ∈ p0, x.block < W.heap.size := by obtain ⟨m, hm⟩ := k0; exact DataW.trod_lt m _ _ _ hm
  obtain ⟨f0, g0⟩ := open_rd h0
  obtain ⟨A1, n1, c1, rfl⟩ := okWide_slice Try.underlying27 (hval 1 27 v1 rfl rfl)
  have k1 := h1
  have lt1 : ∀ x ∈ p1, x.block < W.heap.size := by obtain ⟨m, hm⟩ := k1; exact DataW.trod_lt m _ _ _ hm
  obtain ⟨f1, g1⟩ := open_rd h1
  clear hA0 hval0
  refine (walkNatGcd A0 n0 c0 f0 A1 n1 c1 f1 W g0 g1).mono fun e W' ⟨he, bel⟩ => ?_
  subst he
  exact ⟨_, rfl, _, _, _, [], _, [], hW', trodAll_mk1 (shut_bool Try.underlying4 _), (trodAll_cons_mk (Below.trod laidOut (by kernel_rfl) (of_decide_eq_true (by kernel_rfl)) k0 bel lt0) (trodAll_cons_mk (Below.trod laidOut (by kernel_rfl) (of_decide_eq_true (by kernel_rfl)) k1 bel lt1) trodAll_mk0)), rfl, bel.frame _, fun h => by cases h⟩

theorem inPlaceNatGcd : (Rows.fnExactNatGcdRow.inPlace == Try.prog.inPlace 15) = true := by kernel_rfl
theorem unfollowedNatGcd : (Rows.fnExactNatGcdRow.unfollowed == Try.prog.unfollowed 15) = true := by kernel_rfl
theorem recursesNatGcd : (Rows.fnExactNatGcdRow.recurses == Try.prog.recurses 15) = true := by kernel_rfl
theorem namedNatGcd : (Rows.fnExactNatGcdRow.named == Try.prog.varsNamed 15) = true := by kernel_rfl
theorem closedNatGcd : joinedFacts Try.prog 15 Try.f15 Rows.fnExactNatGcdSpec Rows.fnExactNatGcdRow = true :=
  joined_of (by kernel_rfl) laidOut mapsRowed_yes (by kernel_rfl) (by kernel_rfl) (by kernel_rfl) stops_none (by kernel_rfl) knobs_none inPlaceNatGcd unfollowedNatGcd recursesNatGcd namedNatGcd
    (by kernel_rfl) (by kernel_rfl) (by kernel_rfl) (by kernel_rfl) (by kernel_rfl) (by kernel_rfl) (by kernel_rfl) (by kernel_rfl) (by kernel_rfl) plainKeys_yes (by kernel_rfl) (by kernel_rfl) stopsHeard_yes mayEnter_yes liftsFinal_no (by kernel_rfl) make_cut (by kernel_rfl)
    (by kernel_rfl) (by kernel_rfl) (by kernel_rfl) (by kernel_rfl) (by kernel_rfl)

/-- The statement. -/
theorem fnExactNatGcd_holds : Rows.FnExactNatGcdSaid :=
  OpenClaim.holds_of_wide 15 Try.f15 rfl rfl rfl rfl rfl rfl rfl ⟨rfl, rfl, rfl, rfl, rfl⟩ rfl rfl rfl rfl rfl (by kernel_rfl) Try.func15 closedNatGcd
    (of_decide_eq_true (by kernel_rfl)) (by unfold Func.isWrapper; first | (rw [if_pos (by decide +kernel)]; kernel_rfl) | (rw [if_neg (by decide +kernel)]; exact ⟨rfl, rfl⟩))
    (fun os started H enc _ => liftedNatGcd os started H enc)
end Go.Proofs.Ytemjhmmbbjppkaa
