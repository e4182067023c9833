/-
  The law FnExactNatMul: the program's function and the reference's return the same, the arguments are left as they were, and the result is memory of its own.
-/
import Derived.Test.YtifpffljpafdhaaArgs
import Derived.Test.YtifpffljpafdhaaNatFns
namespace Go.Proofs.Ytifpffljpafdhaa
set_option linter.unusedVariables false
open Go.ChangeShapes Go.WideShapes Go.ChangeAt Go.RowKit
open Go.ChangeMaps (open_string shut_string)
set_option maxRecDepth 100000 in
set_option maxHeartbeats 1000000 in
theorem walkNatMul (A0 : Option Addr) (n0 c0 : Nat) (f0 : Nat → Int) (A1 : Option Addr) (n1 c1 : Nat) (f1 : Nat → Int) (w : World) (h0 : Rd w A0 n0 c0 f0) (h1 : Rd w A1 n1 c1 f1) :
    Calls Try.prog 18 #[.slice A0 n0 c0, .slice A1 n1 c1] w fun e w' => e = .returned (.bool true) ∧ Old w w' := by
  by_cases hn0 : n0 ≤ 1048576
  · skip
    by_cases hn1 : n1 ≤ 1048576
    · skip
      have L_0 : Num.len (rNatMul n0 f0 n1 f1) ≤ 1048576 := by have := rNatMul_len n0 f0 n1 f1; omega
      have O := Old.refl w
      go_enter Try.func18, Try.ntmps18
      go_wp2_with fail
      refine (toIntS_any A0 n0 c0 f0 _ (h0.below O (Nat.le_refl _)) hn0).mono ?_
      rintro e w1 ⟨rfl, R_t1, o1⟩
      replace O := Old.trans O o1
      have z1 := o1.size
      clear o1
      have lim_t1 := R_t1.lim
      have low_t1 := R_t1.low
      go_wp2_with fail
      refine (toIntS_any A1 n1 c1 f1 _ (h1.below O (Nat.le_refl _)) hn1).mono ?_
      rintro e w2 ⟨rfl, R_t2, o2⟩
      replace R_t1 := Row.below R_t1 o2 (Nat.le_refl _)
      replace O := Old.trans O o2
      have z2 := o2.size
      clear o2
      have lim_t2 := R_t2.lim
      have low_t2 := R_t2.low
      go_wp2_with fail
      refine (spec_NatMul _ _ _ _ _ _ _ _ _ _ _ R_t1 R_t2 hn0 hn1).mono ?_
      rintro e w3 ⟨⟨A_w0, c_w0, rfl, R_w0⟩, o3⟩
      clear R_t1 lim_t1 low_t1
      clear R_t2 lim_t2 low_t2
      replace O := Old.trans O o3
      have z3 := o3.size
      clear o3
      have lim_w0 := R_w0.lim
      have low_w0 := R_w0.low
      go_wp2_with fail
      refine (toIntS_any A0 n0 c0 f0 _ (h0.below O (Nat.le_refl _)) hn0).mono ?_
      rintro e w4 ⟨rfl, R_t3, o4⟩
      replace R_w0 := Row.below R_w0 o4 (Nat.le_refl _)
      replace O := Old.trans O o4
      have z4 := o4.size
      clear o4
      have lim_t3 := R_t3.lim
      have low_t3 := R_t3.low
      go_wp2_with fail
      refine (toIntS_any A1 n1 c1 f1 _ (h1.below O (Nat.le_refl _)) hn1).mono ?_
      rintro e w5 ⟨rfl, R_t4, o5⟩
      replace R_w0 := Row.below R_w0 o5 (Nat.le_refl _)
      replace R_t3 := Row.below R_t3 o5 (Nat.le_refl _)
      replace O := Old.trans O o5
      have z5 := o5.size
      clear o5
      have lim_t4 := R_t4.lim
      have low_t4 := R_t4.low
      go_wp2_with fail
      refine (impl_NatMul _ _ _ _ _ _ _ _ _ _ _ R_t3 R_t4 hn0 hn1).mono ?_
      rintro e w6 ⟨⟨A_g0, c_g0, rfl, R_g0⟩, o6⟩
      replace R_w0 := Row.below R_w0 o6 (Nat.le_refl _)
      replace R_t3 := Row.below R_t3 o6 (Nat.le_refl _)
      replace R_t4 := Row.below R_t4 o6 (Nat.le_refl _)
      replace O := Old.trans O o6
      have z6 := o6.size
      clear o6
      have lim_g0 := R_g0.lim
      have low_g0 := R_g0.low
      go_wp2_with fail
      refine (eqIntS_yes _ _ _ _ _ _ _ _ _ _ R_g0 R_w0 (fun _ _ => rfl) L_0).mono ?_
      rintro e w7 ⟨rfl, o7⟩
      replace R_w0 := Row.below R_w0 o7 (Nat.le_refl _)
      replace R_t3 := Row.below R_t3 o7 (Nat.le_refl _)
      replace R_t4 := Row.below R_t4 o7 (Nat.le_refl _)
      replace R_g0 := Row.below R_g0 o7 (Nat.le_refl _)
      replace O := Old.trans O o7
      have z7 := o7.size
      clear o7
      go_wp2_with fail
      refine (toIntS_any A0 n0 c0 f0 _ (h0.below O (Nat.le_refl _)) hn0).mono ?_
      rintro e w8 ⟨rfl, R_t5, o8⟩
      replace R_w0 := Row.below R_w0 o8 (Nat.le_refl _)
      replace R_t3 := Row.below R_t3 o8 (Nat.le_refl _)
      replace R_t4 := Row.below R_t4 o8 (Nat.le_refl _)
      replace R_g0 := Row.below R_g0 o8 (Nat.le_refl _)
      replace O := Old.trans O o8
      have z8 := o8.size
      clear o8
      have lim_t5 := R_t5.lim
      have low_t5 := R_t5.low
      go_wp2_with fail
      refine (eqIntS_yes _ _ _ _ _ _ _ _ _ _ R_t3 R_t5 (fun _ _ => rfl) hn0).mono ?_
      rintro e w9 ⟨rfl, o9⟩
      clear R_t5 lim_t5 low_t5
      replace R_w0 := Row.below R_w0 o9 (Nat.le_refl _)
      replace R_t3 := Row.below R_t3 o9 (Nat.le_refl _)
      replace R_t4 := Row.below R_t4 o9 (Nat.le_refl _)
      replace R_g0 := Row.below R_g0 o9 (Nat.le_refl _)
      replace O := Old.trans O o9
      have z9 := o9.size
      clear o9
      go_wp2_with fail
      refine (toIntS_any A1 n1 c1 f1 _ (h1.below O (Nat.le_refl _)) hn1).mono ?_
      rintro e w10 ⟨rfl, R_t6, o10⟩
      replace R_w0 := Row.below R_w0 o10 (Nat.le_refl _)
      replace R_t3 := Row.below R_t3 o10 (Nat.le_refl _)
      replace R_t4 := Row.below R_t4 o10 (Nat.le_refl _)
      replace R_g0 := Row.below R_g0 o10 (Nat.le_refl _)
      replace O := Old.trans O o10
      have z10 := o10.size
      clear o10
      have lim_t6 := R_t6.lim
      have low_t6 := R_t6.low
      go_wp2_with fail
      refine (eqIntS_yes _ _ _ _ _ _ _ _ _ _ R_t4 R_t6 (fun _ _ => rfl) hn1).mono ?_
      rintro e w11 ⟨rfl, o11⟩
      clear R_t6 lim_t6 low_t6
      replace R_w0 := Row.below R_w0 o11 (Nat.le_refl _)
      replace R_t3 := Row.below R_t3 o11 (Nat.le_refl _)
      replace R_t4 := Row.below R_t4 o11 (Nat.le_refl _)
      replace R_g0 := Row.below R_g0 o11 (Nat.le_refl _)
      replace O := Old.trans O o11
      have z11 := o11.size
      clear o11
      go_wp2_with fail
      refine (markIntS_any _ _ _ _ _ _ _ R_t3 hn0 (by omega) (by omega)).mono ?_
      rintro e w12 ⟨rfl, R', G⟩
      clear R_t3
      have R_t3 := R'
      clear R'
      replace R_w0 := (by first | exact Row.older R_w0 G lim_w0 low_t3 (by omega) | exact Row.younger R_w0 G low_w0 lim_t3 (by omega) | exact Row.kept R_w0 G ap_g0 | exact Row.kept R_w0 G (fun a a' h h' e e' => (ap_g0 a' a h' h e' e).symm) : Row w12 _ _ _ _ _)
      replace R_t4 := (by first | exact Row.older R_t4 G lim_t4 low_t3 (by omega) | exact Row.younger R_t4 G low_t4 lim_t3 (by omega) | exact Row.kept R_t4 G ap_g0 | exact Row.kept R_t4 G (fun a a' h h' e e' => (ap_g0 a' a h' h e' e).symm) : Row w12 _ _ _ _ _)
      replace R_g0 := (by first | exact Row.older R_g0 G lim_g0 low_t3 (by omega) | exact Row.younger R_g0 G low_g0 lim_t3 (by omega) | exact Row.kept R_g0 G ap_g0 | exact Row.kept R_g0 G (fun a a' h h' e e' => (ap_g0 a' a h' h e' e).symm) : Row w12 _ _ _ _ _)
      replace O := Below.grown O G O.size (low_t3.own (by omega))
      have z12 := G.size
      clear G
      go_wp2_with fail
      refine (markIntS_any _ _ _ _ _ _ _ R_t4 hn1 (by omega) (by omega)).mono ?_
      rintro e w13 ⟨rfl, R', G⟩
      clear R_t4
      have R_t4 := R'
      clear R'
      replace R_w0 := (by first | exact Row.older R_w0 G lim_w0 low_t4 (by omega) | exact Row.younger R_w0 G low_w0 lim_t4 (by omega) | exact Row.kept R_w0 G ap_g0 | exact Row.kept R_w0 G (fun a a' h h' e e' => (ap_g0 a' a h' h e' e).symm) : Row w13 _ _ _ _ _)
      replace R_t3 := (by first | exact Row.older R_t3 G lim_t3 low_t4 (by omega) | exact Row.younger R_t3 G low_t3 lim_t4 (by omega) | exact Row.kept R_t3 G ap_g0 | exact Row.kept R_t3 G (fun a a' h h' e e' => (ap_g0 a' a h' h e' e).symm) : Row w13 _ _ _ _ _)
      replace R_g0 := (by first | exact Row.older R_g0 G lim_g0 low_t4 (by omega) | exact Row.younger R_g0 G low_g0 lim_t4 (by omega) | exact Row.kept R_g0 G ap_g0 | exact Row.kept R_g0 G (fun a a' h h' e e' => (ap_g0 a' a h' h e' e).symm) : Row w13 _ _ _ _ _)
      replace O := Below.grown O G O.size (low_t4.own (by omega))
      have z13 := G.size
      clear G
      go_wp2_with fail
      refine (eqIntS_yes _ _ _ _ _ _ _ _ _ _ R_g0 R_w0 (fun _ _ => rfl) L_0).mono ?_
      rintro e w14 ⟨rfl, o14⟩
      replace R_w0 := Row.below R_w0 o14 (Nat.le_refl _)
      replace R_t3 := Row.below R_t3 o14 (Nat.le_refl _)
      replace R_t4 := Row.below R_t4 o14 (Nat.le_refl _)
      replace R_g0 := Row.below R_g0 o14 (Nat.le_refl _)
      replace O := Old.trans O o14
      have z14 := o14.size
      clear o14
      go_wp2_with fail
      refine (markIntS_any _ _ _ _ _ _ _ R_g0 L_0 (by omega) (by omega)).mono ?_
      rintro e w15 ⟨rfl, R', G⟩
      clear R_g0
      have R_g0 := R'
      clear R'
      replace R_w0 := (by first | exact Row.older R_w0 G lim_w0 low_g0 (by omega) | exact Row.younger R_w0 G low_w0 lim_g0 (by omega) | exact Row.kept R_w0 G ap_g0 | exact Row.kept R_w0 G (fun a a' h h' e e' => (ap_g0 a' a h' h e' e).symm) : Row w15 _ _ _ _ _)
      replace R_t3 := (by first | exact Row.older R_t3 G lim_t3 low_g0 (by omega) | exact Row.younger R_t3 G low_t3 lim_g0 (by omega) | exact Row.kept R_t3 G ap_g0 | exact Row.kept R_t3 G (fun a a' h h' e e' => (ap_g0 a' a h' h e' e).symm) : Row w15 _ _ _ _ _)
      replace R_t4 := (by first | exact Row.older R_t4 G lim_t4 low_g0 (by omega) | exact Row.younger R_t4 G low_t4 lim_g0 (by omega) | exact Row.kept R_t4 G ap_g0 | exact Row.kept R_t4 G (fun a a' h h' e e' => (ap_g0 a' a h' h e' e).symm) : Row w15 _ _ _ _ _)
      replace O := Below.grown O G O.size (low_g0.own (by omega))
      have z15 := G.size
      clear G
      go_wp2_with fail
      refine (heldIntS_yes _ _ _ _ _ _ _ R_g0 (fun _ _ => by first | rfl | omega) L_0 (by omega) (by omega)).mono ?_
      rintro e w' ⟨rfl, rfl⟩
      go_wp2_with fail
      refine (toIntS_any A0 n0 c0 f0 _ (h0.below O (Nat.le_refl _)) hn0).mono ?_
      rintro e w16 ⟨rfl, R_t7, o16⟩
      replace R_w0 := Row.below R_w0 o16 (Nat.le_refl _)
      replace R_t3 := Row.below R_t3 o16 (Nat.le_refl _)
      replace R_t4 := Row.below R_t4 o16 (Nat.le_refl _)
      replace R_g0 := Row.below R_g0 o16 (Nat.le_refl _)
      replace O := Old.trans O o16
      have z16 := o16.size
      clear o16
      have lim_t7 := R_t7.lim
      have low_t7 := R_t7.low
      go_wp2_with fail
      refine (toIntS_any A1 n1 c1 f1 _ (h1.below O (Nat.le_refl _)) hn1).mono ?_
      rintro e w17 ⟨rfl, R_t8, o17⟩
      replace R_w0 := Row.below R_w0 o17 (Nat.le_refl _)
      replace R_t3 := Row.below R_t3 o17 (Nat.le_refl _)
      replace R_t4 := Row.below R_t4 o17 (Nat.le_refl _)
      replace R_g0 := Row.below R_g0 o17 (Nat.le_refl _)
      replace R_t7 := Row.below R_t7 o17 (Nat.le_refl _)
      replace O := Old.trans O o17
      have z17 := o17.size
      clear o17
      have lim_t8 := R_t8.lim
      have low_t8 := R_t8.low
      go_wp2_with fail
      refine (impl_NatMul _ _ _ _ _ _ _ _ _ _ _ R_t7 R_t8 hn0 hn1).mono ?_
      rintro e w18 ⟨⟨A_h0, c_h0, rfl, R_h0⟩, o18⟩
      clear R_t7 lim_t7 low_t7
      clear R_t8 lim_t8 low_t8
      replace R_w0 := Row.below R_w0 o18 (Nat.le_refl _)
      replace R_t3 := Row.below R_t3 o18 (Nat.le_refl _)
      replace R_t4 := Row.below R_t4 o18 (Nat.le_refl _)
      replace R_g0 := Row.below R_g0 o18 (Nat.le_refl _)
      replace O := Old.trans O o18
      have z18 := o18.size
      clear o18
      have lim_h0 := R_h0.lim
      have low_h0 := R_h0.low
      clear R_t3 lim_t3 low_t3
      clear R_t4 lim_t4 low_t4
      go_wp2_with fail
      refine (eqIntS_yes _ _ _ _ _ _ _ _ _ _ R_h0 R_w0 (fun _ _ => rfl) L_0).mono ?_
      rintro e w19 ⟨rfl, o19⟩
      clear R_w0 lim_w0 low_w0
      clear R_h0 lim_h0 low_h0
      replace R_g0 := Row.below R_g0 o19 (Nat.le_refl _)
      replace O := Old.trans O o19
      have z19 := o19.size
      clear o19
      go_wp2_with fail
      refine (heldIntS_yes _ _ _ _ _ _ _ R_g0 (fun _ _ => by first | rfl | omega) L_0 (by omega) (by omega)).mono ?_
      rintro e w' ⟨rfl, rfl⟩
      go_wp2
      go_ret
      exact ⟨rfl, O⟩
    · go_enter Try.func18, Try.ntmps18
      go_wp2
      go_ret
      exact ⟨rfl, Old.refl w⟩
  · go_enter Try.func18, Try.ntmps18
    go_wp2
    go_ret
    exact ⟨rfl, Old.refl w⟩

set_option maxRecDepth 100000 in
theorem liftedNatMul (os : Os) (started : os.Started) (H : Type) (enc : TypeId × Value → H) :
    ReturnsInHanded {} Try.checked os 18 .any (Rows.fnExactNatMulSpec.pre6 enc Try.prog Try.f18 Rows.fnExactNatMulRow.domain false) (Rows.fnExactNatMulSpec.post enc Try.prog Try.f18 false true false false) := by
  refine returnsInHanded_of_change (C := Try.checked) ownKnob_none started (by kernel_rfl) Try.func18
    (ChangeSpec.witness6 (enc := enc) (C := Try.checked) false ⟨#[], #[.slice none 0 0, .slice none 0 0], []⟩ 8 (by kernel_rfl) (by kernel_rfl) (by kernel_rfl) (by kernel_rfl)) ?_
  intro W base args ds gs before hval0 hW hcnd _
  have hval : ∀ (j : Nat) t v, Try.f18.params[j]? = some t → args[j]? = some v → Value.okWide Try.prog W .any base t v := hval0
  have hW' := hW
  obtain ⟨p, q, hA0, hV, rfl, hfz, hnd⟩ := hW
  have hA : DataW.TrodAll enc Try.prog W 0 (fun _ => true) true Try.f18.params.toList args.toList ds p := hA0
  rw [Try.params18] at hA hval
  obtain ⟨v0, vs0, d0, ds0, p0, q0, hargs, rfl, rfl, h0, r0⟩ := trodAll_cons hA
  obtain ⟨v1, vs1, d1, ds1, p1, q1, rfl, rfl, rfl, h1, r1⟩ := trodAll_cons r0
  obtain ⟨rfl, rfl, rfl⟩ := trodAll_nil r1
  obtain rfl : args = #[v0, v1] := by cases args; simp_all
  obtain ⟨rfl, rfl⟩ := trodVars_none hV
  obtain ⟨A0, n0, c0, rfl⟩ := okWide_slice Try.underlying30 (hval 0 30 v0 rfl rfl)
  have k0 := h0
  have lt0 : ∀ x ∈ p0, x.block < W.heap.size := by obtain ⟨m, hm⟩ := k0; exact DataW.trod_lt m _ _ _ hm
  obtain ⟨f0, g0⟩ := open_rd h0
  obtain ⟨A1, n1, c1, rfl⟩ := okWide_slice Try.underlying30 (hval 1 30 v1 rfl rfl)
  have k1 := h1
  have lt1 : ∀ x ∈ p1, x.block < W.heap.size := by obtain ⟨m, hm⟩ := k1; exact DataW.trod_lt m _ _ _ hm
  obtain ⟨f1, g1⟩ := open_rd h1
  clear hA0 hval0
  refine (walkNatMul A0 n0 c0 f0 A1 n1 c1 f1 W g0 g1).mono fun e W' ⟨he, bel⟩ => ?_
  subst he
  exact ⟨_, rfl, _, _, _, [], _, [], hW', trodAll_mk1 (shut_bool Try.underlying4 _), (trodAll_cons_mk (Below.trod laidOut (by kernel_rfl) (of_decide_eq_true (by kernel_rfl)) k0 bel lt0) (trodAll_cons_mk (Below.trod laidOut (by kernel_rfl) (of_decide_eq_true (by kernel_rfl)) k1 bel lt1) trodAll_mk0)), rfl, bel.frame _, fun h => by cases h⟩

theorem inPlaceNatMul : (Rows.fnExactNatMulRow.inPlace == Try.prog.inPlace 18) = true := by kernel_rfl
theorem unfollowedNatMul : (Rows.fnExactNatMulRow.unfollowed == Try.prog.unfollowed 18) = true := by kernel_rfl
theorem recursesNatMul : (Rows.fnExactNatMulRow.recurses == Try.prog.recurses 18) = true := by kernel_rfl
theorem namedNatMul : (Rows.fnExactNatMulRow.named == Try.prog.varsNamed 18) = true := by kernel_rfl
theorem closedNatMul : joinedFacts Try.prog 18 Try.f18 Rows.fnExactNatMulSpec Rows.fnExactNatMulRow = true :=
  joined_of (by kernel_rfl) laidOut mapsRowed_yes (by kernel_rfl) (by kernel_rfl) (by kernel_rfl) stops_none (by kernel_rfl) knobs_none inPlaceNatMul unfollowedNatMul recursesNatMul namedNatMul
    (by kernel_rfl) (by kernel_rfl) (by kernel_rfl) (by kernel_rfl) (by kernel_rfl) (by kernel_rfl) (by kernel_rfl) (by kernel_rfl) (by kernel_rfl) plainKeys_yes (by kernel_rfl) (by kernel_rfl) stopsHeard_yes mayEnter_yes liftsFinal_no (by kernel_rfl) make_cut (by kernel_rfl)
    (by kernel_rfl) (by kernel_rfl) (by kernel_rfl) (by kernel_rfl) (by kernel_rfl)

/-- The statement. -/
theorem fnExactNatMul_holds : Rows.FnExactNatMulSaid :=
  OpenClaim.holds_of_wide 18 Try.f18 rfl rfl rfl rfl rfl rfl rfl ⟨rfl, rfl, rfl, rfl, rfl⟩ rfl rfl rfl rfl rfl (by kernel_rfl) Try.func18 closedNatMul
    (of_decide_eq_true (by kernel_rfl)) (by unfold Func.isWrapper; first | (rw [if_pos (by decide +kernel)]; kernel_rfl) | (rw [if_neg (by decide +kernel)]; exact ⟨rfl, rfl⟩))
    (fun os started H enc _ => liftedNatMul os started H enc)
end Go.Proofs.Ytifpffljpafdhaa
