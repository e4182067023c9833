import Derived.Test.YtgchbbjhdeobpaaGreatDoorArgs
import Derived.Test.YtgchbbjhdeobpaaGreatDoorKnow
import Derived.Deep.DeepCutAuto
import Derived.Deep.RegionHeld3
import Derived.Deep.DrawnRows
import Derived.Test.YtgchbbjhdeobpaaGreatDoorBoxes
import Derived.Test.YtgchbbjhdeobpaaGreatDoorParRat
import Derived.Test.YtgchbbjhdeobpaaGreatDoorRatLaw
import Derived.Test.YtgchbbjhdeobpaaGreatDoorWk
/-
  The law FnExactParseRat: the program's function and the reference's return the same, the arguments are left as they were, and the result is memory of its own.
-/
namespace Go.Proofs.YtgchbbjhdeobpaaGreatDoor
set_option linter.unusedVariables false
open Go.ChangeShapes Go.WideShapes Go.ChangeAt Go.RowKit
open Go.ChangeMaps (open_string shut_string)
attribute [local go_sem ↓] Go.wp_at_zero Go.wp_at_succ
set_option maxRecDepth 100000 in
set_option maxHeartbeats 8000000 in
theorem walkParseRat (s0_0 : ByteArray) (w : World) (b0_0 : s0_0.size ≤ maxLen)  (KT : KT w) :
    Calls Tryz.prog 3 #[.string s0_0] w fun e w' => e = .returned (.bool true) ∧ Old w w' := by
  by_cases hn0_0 : s0_0.size ≤ 1048576
  · skip
    have NV := vParseRat_norm s0_0
    obtain ⟨Z0, D0, hV0⟩ : ∃ z d, vParseRat s0_0 = (z, d) := ⟨_, _, rfl⟩
    rw [hV0] at NV
    have HV0 := Lib.hid hV0
    have NL := norm_len NV
    simp only at NL
    have L_0_1 : Num.len (magZ Z0) ≤ 1048576 := by omega
    have L_0_2 : Num.len D0 ≤ 1048576 := by omega
    clear NV NL hV0
    have O := Old.refl w
    go_enter Tryz.func3, Tryz.ntmps3
    go_wp2_with fail
    refine (spec_ParseRat s0_0 _ hn0_0).mono ?_
    rintro e w1 ⟨⟨x0, x1, A_w0_1, c_w0_1, A_w0_2, c_w0_2, hv, he, R_w0_1, R_w0_2, ap_w0⟩, o1⟩
    rw [HV0.out] at hv
    obtain ⟨rfl, rfl⟩ := Prod.mk.inj hv
    subst he
    replace O := Old.trans O o1
    have z1 := o1.size
    clear o1
    have lim_w0_1 := R_w0_1.lim
    have low_w0_1 := Low.mono (lo' := w.heap.size + 0) R_w0_1.low (by first | exact Nat.le_refl _ | (simp <;> omega))
    have lim_w0_2 := R_w0_2.lim
    have low_w0_2 := Low.mono (lo' := w.heap.size + 0) R_w0_2.low (by first | exact Nat.le_refl _ | (simp <;> omega))
    go_wp2_with fail
    refine (impl_ParseRat s0_0 _ hn0_0 (KT.old (Below.trans (b := w1) O oldA))).mono ?_
    rintro e w2 ⟨⟨x0, x1, A_g0_1, c_g0_1, A_g0_2, c_g0_2, hv, he, R_g0_1, R_g0_2, ap_g0⟩, o2⟩
    rw [HV0.out] at hv
    obtain ⟨rfl, rfl⟩ := Prod.mk.inj hv
    subst he
    have B_w0 : Bx w2 w1.heap.size #[.bool (sgnZ Z0), .slice A_w0_1 (Num.len (magZ Z0)) c_w0_1, .slice A_w0_2 (Num.len D0) c_w0_2] := Bx.old (Bx.new _ _ _) o2
    have zb2 := B_w0.lt
    replace o2 : Old w1 w2 := Below.trans (b := _) oldA (Below.mono o2 (by simp <;> omega))
    replace R_w0_1 := Row.below R_w0_1 o2 (Nat.le_refl _)
    replace R_w0_2 := Row.below R_w0_2 o2 (Nat.le_refl _)
    replace O := Old.trans O o2
    have z2 := o2.size
    clear o2
    have lim_g0_1 := R_g0_1.lim
    have low_g0_1 := Low.mono (lo' := w1.heap.size + 1) R_g0_1.low (by first | exact Nat.le_refl _ | (simp <;> omega))
    have lim_g0_2 := R_g0_2.lim
    have low_g0_2 := Low.mono (lo' := w1.heap.size + 1) R_g0_2.low (by first | exact Nat.le_refl _ | (simp <;> omega))
    have q_w0_0 := B_w0.cell 0 rfl
    have q_w0_1 := B_w0.cell 1 rfl
    have q_w0_2 := B_w0.cell 2 rfl
    have q_w0 := B_w0.lt
    go_wp2_with fail
    refine (eqRat_yes _ _ _ _ _ _ _ _ _ _ _ _ _ _ _ _ _ _ _ _ (Row.below (B := w2.heap.size) R_g0_1 oldA (Nat.le_refl _)) (Row.below (B := w2.heap.size) R_w0_1 oldA (Nat.le_refl _)) (fun _ _ => rfl) L_0_1 (Row.below (B := w2.heap.size) R_g0_2 oldA (Nat.le_refl _)) (Row.below (B := w2.heap.size) R_w0_2 oldA (Nat.le_refl _)) (fun _ _ => rfl) L_0_2).mono ?_
    rintro e w3 ⟨rfl, o3⟩
    clear q_w0_0 q_w0_1 q_w0_2 q_w0
    have B_g0 : Bx w3 w2.heap.size #[.bool (sgnZ Z0), .slice A_g0_1 (Num.len (magZ Z0)) c_g0_1, .slice A_g0_2 (Num.len D0) c_g0_2] := Bx.old (Bx.new _ _ _) o3
    have zb3 := B_g0.lt
    replace o3 : Old w2 w3 := Below.trans (b := _) oldA (Below.mono o3 (by simp <;> omega))
    replace B_w0 := B_w0.old o3
    replace R_w0_1 := Row.below R_w0_1 o3 (Nat.le_refl _)
    replace R_w0_2 := Row.below R_w0_2 o3 (Nat.le_refl _)
    replace R_g0_1 := Row.below R_g0_1 o3 (Nat.le_refl _)
    replace R_g0_2 := Row.below R_g0_2 o3 (Nat.le_refl _)
    replace O := Old.trans O o3
    have z3 := o3.size
    clear o3
    have q_g0_0 := B_g0.cell 0 rfl
    have q_g0_1 := B_g0.cell 1 rfl
    have q_g0_2 := B_g0.cell 2 rfl
    have q_g0 := B_g0.lt
    go_wp2_with fail
    refine (markRat_any _ _ _ _ _ _ _ _ _ _ _ _ _ R_g0_1 R_g0_2 ap_g0 L_0_1 L_0_2 (by omega) (by omega)).mono ?_
    rintro e w4 ⟨rfl, S_1, S_2, wm4_0, G_1, G_2⟩
    clear q_g0_0 q_g0_1 q_g0_2 q_g0
    clear R_g0_1
    have R_g0_1 := S_1
    clear S_1
    clear R_g0_2
    have R_g0_2 := S_2
    clear S_2
    replace R_w0_1 := Row.apart R_w0_1 G_1 lim_w0_1 low_w0_1 lim_g0_1 low_g0_1 (by omega)
    replace R_w0_2 := Row.apart R_w0_2 G_1 lim_w0_2 low_w0_2 lim_g0_1 low_g0_1 (by omega)
    replace B_w0 := B_w0.apart G_1 low_g0_1 lim_g0_1 (by omega)
    replace B_g0 := B_g0.apart G_1 low_g0_1 lim_g0_1 (by omega)
    replace O := Below.grown O G_1 O.size (low_g0_1.own (by omega))
    have z4_0 := G_1.size
    clear G_1
    replace R_w0_1 := Row.apart R_w0_1 G_2 lim_w0_1 low_w0_1 lim_g0_2 low_g0_2 (by omega)
    replace R_w0_2 := Row.apart R_w0_2 G_2 lim_w0_2 low_w0_2 lim_g0_2 low_g0_2 (by omega)
    replace B_w0 := B_w0.apart G_2 low_g0_2 lim_g0_2 (by omega)
    replace B_g0 := B_g0.apart G_2 low_g0_2 lim_g0_2 (by omega)
    replace O := Below.grown O G_2 O.size (low_g0_2.own (by omega))
    have z4_1 := G_2.size
    clear G_2
    have q_g0_0 := B_g0.cell 0 rfl
    have q_g0_1 := B_g0.cell 1 rfl
    have q_g0_2 := B_g0.cell 2 rfl
    have q_g0 := B_g0.lt
    go_wp2_with fail
    refine (heldRat_yes _ _ _ _ _ _ _ _ _ _ _ _ _ R_g0_1 (fun _ _ => rfl) L_0_1 R_g0_2 (fun _ _ => rfl) L_0_2 (by omega) (by omega)).mono ?_
    rintro e w5 ⟨rfl, o5⟩
    clear q_g0_0 q_g0_1 q_g0_2 q_g0
    replace B_w0 := B_w0.old o5
    replace B_g0 := B_g0.old o5
    replace R_w0_1 := Row.below R_w0_1 o5 (Nat.le_refl _)
    replace R_w0_2 := Row.below R_w0_2 o5 (Nat.le_refl _)
    replace R_g0_1 := Row.below R_g0_1 o5 (Nat.le_refl _)
    replace R_g0_2 := Row.below R_g0_2 o5 (Nat.le_refl _)
    replace O := Old.trans O o5
    have z5 := o5.size
    clear o5
    go_wp2_with fail
    refine (impl_ParseRat s0_0 _ hn0_0 (KT.old (Below.trans (b := w5) O oldA))).mono ?_
    rintro e w6 ⟨⟨x0, x1, A_h0_1, c_h0_1, A_h0_2, c_h0_2, hv, he, R_h0_1, R_h0_2, ap_h0⟩, o6⟩
    rw [HV0.out] at hv
    obtain ⟨rfl, rfl⟩ := Prod.mk.inj hv
    subst he
    replace B_w0 := B_w0.old o6
    replace B_g0 := B_g0.old o6
    replace R_w0_1 := Row.below R_w0_1 o6 (Nat.le_refl _)
    replace R_w0_2 := Row.below R_w0_2 o6 (Nat.le_refl _)
    replace R_g0_1 := Row.below R_g0_1 o6 (Nat.le_refl _)
    replace R_g0_2 := Row.below R_g0_2 o6 (Nat.le_refl _)
    replace O := Old.trans O o6
    have z6 := o6.size
    clear o6
    have lim_h0_1 := R_h0_1.lim
    have low_h0_1 := Low.mono (lo' := w5.heap.size + 0) R_h0_1.low (by first | exact Nat.le_refl _ | (simp <;> omega))
    have lim_h0_2 := R_h0_2.lim
    have low_h0_2 := Low.mono (lo' := w5.heap.size + 0) R_h0_2.low (by first | exact Nat.le_refl _ | (simp <;> omega))
    have q_w0_0 := B_w0.cell 0 rfl
    have q_w0_1 := B_w0.cell 1 rfl
    have q_w0_2 := B_w0.cell 2 rfl
    have q_w0 := B_w0.lt
    go_wp2_with fail
    refine (eqRat_yes _ _ _ _ _ _ _ _ _ _ _ _ _ _ _ _ _ _ _ _ (Row.below (B := w6.heap.size) R_h0_1 oldA (Nat.le_refl _)) (Row.below (B := w6.heap.size) R_w0_1 oldA (Nat.le_refl _)) (fun _ _ => rfl) L_0_1 (Row.below (B := w6.heap.size) R_h0_2 oldA (Nat.le_refl _)) (Row.below (B := w6.heap.size) R_w0_2 oldA (Nat.le_refl _)) (fun _ _ => rfl) L_0_2).mono ?_
    rintro e w7 ⟨rfl, o7⟩
    clear q_w0_0 q_w0_1 q_w0_2 q_w0
    have B_h0 : Bx w7 w6.heap.size #[.bool (sgnZ Z0), .slice A_h0_1 (Num.len (magZ Z0)) c_h0_1, .slice A_h0_2 (Num.len D0) c_h0_2] := Bx.old (Bx.new _ _ _) o7
    have zb7 := B_h0.lt
    replace o7 : Old w6 w7 := Below.trans (b := _) oldA (Below.mono o7 (by simp <;> omega))
    replace B_w0 := B_w0.old o7
    replace B_g0 := B_g0.old o7
    replace R_w0_1 := Row.below R_w0_1 o7 (Nat.le_refl _)
    replace R_w0_2 := Row.below R_w0_2 o7 (Nat.le_refl _)
    replace R_g0_1 := Row.below R_g0_1 o7 (Nat.le_refl _)
    replace R_g0_2 := Row.below R_g0_2 o7 (Nat.le_refl _)
    replace R_h0_1 := Row.below R_h0_1 o7 (Nat.le_refl _)
    replace R_h0_2 := Row.below R_h0_2 o7 (Nat.le_refl _)
    replace O := Old.trans O o7
    have z7 := o7.size
    clear o7
    have q_g0_0 := B_g0.cell 0 rfl
    have q_g0_1 := B_g0.cell 1 rfl
    have q_g0_2 := B_g0.cell 2 rfl
    have q_g0 := B_g0.lt
    go_wp2_with fail
    refine (heldRat_yes _ _ _ _ _ _ _ _ _ _ _ _ _ R_g0_1 (fun _ _ => rfl) L_0_1 R_g0_2 (fun _ _ => rfl) L_0_2 (by omega) (by omega)).mono ?_
    rintro e w8 ⟨rfl, o8⟩
    clear q_g0_0 q_g0_1 q_g0_2 q_g0
    replace B_w0 := B_w0.old o8
    replace B_g0 := B_g0.old o8
    replace B_h0 := B_h0.old o8
    replace R_w0_1 := Row.below R_w0_1 o8 (Nat.le_refl _)
    replace R_w0_2 := Row.below R_w0_2 o8 (Nat.le_refl _)
    replace R_g0_1 := Row.below R_g0_1 o8 (Nat.le_refl _)
    replace R_g0_2 := Row.below R_g0_2 o8 (Nat.le_refl _)
    replace R_h0_1 := Row.below R_h0_1 o8 (Nat.le_refl _)
    replace R_h0_2 := Row.below R_h0_2 o8 (Nat.le_refl _)
    replace O := Old.trans O o8
    have z8 := o8.size
    clear o8
    go_wp2
    go_ret
    exact ⟨rfl, O⟩
  · go_enter Tryz.func3, Tryz.ntmps3
    go_wp2
    go_ret
    exact ⟨rfl, oldA⟩

set_option maxRecDepth 100000 in
theorem liftedParseRat (os : Os) (started : os.Started) (H : Type) (enc : TypeId × Value → H) :
    ReturnsInHanded {} Tryz.checked os 3 .any (fun w args => (Rows.fnExactParseRatSpec.pre enc Tryz.prog Tryz.f3 Rows.fnExactParseRatRow.domain false w args ∧ laidMetH Tryz.prog Rows.fnExactParseRatRow.laid w) ∧ sizedMet enc Tryz.prog Tryz.f3 (OpenSpec.ofChange Rows.fnExactParseRatSpec) false w args)
      (Rows.fnExactParseRatSpec.post enc Tryz.prog Tryz.f3 false true false false) := by
  refine returnsInHanded_of_change_and (C := Tryz.checked) (X := (fun w _ => laidMetH Tryz.prog Rows.fnExactParseRatRow.laid w)) (fun _ _ _ hh h => h.of_heap hh) ownKnob_none started (by kernel_rfl) Tryz.func3
    (ChangeSpec.witness_shaped (enc := enc) (C := Tryz.checked) (X := (fun w _ => laidMetH Tryz.prog Rows.fnExactParseRatRow.laid w)) false (World.laidAll Tryz.prog os Rows.fnExactParseRatRow.laid) #[.string ByteArray.empty] 8 (World.laidAll_os _ _ _) (World.shaped_of_ZipB (by kernel_rfl) (by kernel_rfl)) (by kernel_rfl) (by kernel_rfl) (by kernel_rfl)
      (by show laidMetH Tryz.prog Rows.fnExactParseRatRow.laid _; rw [MakeChecks.laidMetH_plain _ _ _ (by kernel_rfl)]; exact laidMet_laidAll _ (by kernel_rfl) (by kernel_rfl))) ?_
  intro W base args ds gs before hval0 hW hcnd _ hL _
  have hval : ∀ (j : Nat) t v, Tryz.f3.params[j]? = some t → args[j]? = some v → Value.okWide Tryz.prog W .any base t v := hval0
  have hW' := hW
  obtain ⟨p, q, hA0, hV, rfl, hfz, hnd⟩ := hW
  have hA : DataW.TrodAll enc Tryz.prog W 0 (fun _ => true) true Tryz.f3.params.toList args.toList ds p := hA0
  rw [Tryz.params3] at hA hval
  obtain ⟨v0, vs0, d0, ds0, p0, q0, hargs, rfl, rfl, h0, r0⟩ := trodAll_cons hA
  obtain ⟨rfl, rfl, rfl⟩ := trodAll_nil r0
  obtain rfl : args = #[v0] := by cases args; simp_all
  obtain ⟨rfl, rfl⟩ := trodVars_none hV
  obtain ⟨s0, rfl, rfl, rfl, g0⟩ := open_string Tryz.underlying9 (hval 0 9 v0 rfl rfl) h0
  have KT : KT W := kt_of (by have h := hL; rw [MakeChecks.laidMetH_plain _ _ _ (by kernel_rfl)] at h; exact h)
  clear hA0 hval0
  refine (walkParseRat s0 W g0 KT).mono fun e W' ⟨he, bel⟩ => ?_
  subst he
  exact ⟨_, rfl, _, _, _, [], _, [], hW', trodAll_mk1 (shut_bool Tryz.underlying4 _), (trodAll_cons_mk (shut_string Tryz.underlying9 g0) trodAll_mk0), rfl, bel.frame _, fun h => by cases h⟩

theorem inPlaceParseRat : (Rows.fnExactParseRatRow.inPlace == Tryz.prog.inPlace 3) = true := by kernel_rfl
theorem unfollowedParseRat : (Rows.fnExactParseRatRow.unfollowed == Tryz.prog.unfollowed 3) = true := by kernel_rfl
theorem recursesParseRat : (Rows.fnExactParseRatRow.recurses == Tryz.prog.recurses 3) = true := by kernel_rfl
theorem namedParseRat : (Rows.fnExactParseRatRow.named == Tryz.prog.varsNamed 3) = true := by kernel_rfl
theorem closedParseRat : joinedFacts Tryz.prog 3 Tryz.f3 Rows.fnExactParseRatSpec Rows.fnExactParseRatRow = true :=
  joined_of (by kernel_rfl) laidOut mapsRowed_yes (by kernel_rfl) (by kernel_rfl) (by kernel_rfl) stops_none (by kernel_rfl) knobs_none inPlaceParseRat unfollowedParseRat recursesParseRat namedParseRat
    (by kernel_rfl) (by kernel_rfl) (by kernel_rfl) (by kernel_rfl) (by kernel_rfl) (by kernel_rfl) (by kernel_rfl) (by kernel_rfl) (by kernel_rfl) plainKeys_yes (by kernel_rfl) (by kernel_rfl) stopsHeard_yes mayEnter_yes liftsFinal_no (by kernel_rfl) make_cut (by kernel_rfl)
    (by kernel_rfl) (by kernel_rfl) (by kernel_rfl) (by kernel_rfl) (by kernel_rfl)

/-- The statement. -/
theorem fnExactParseRat_holds : Rows.FnExactParseRatSaid :=
  OpenClaim.holds_of_wide 3 Tryz.f3 rfl rfl rfl rfl rfl rfl rfl ⟨rfl, rfl, rfl, rfl, rfl⟩ rfl rfl rfl rfl rfl (by kernel_rfl) Tryz.func3 closedParseRat
    (of_decide_eq_true (by kernel_rfl)) (by unfold Func.isWrapper; first | (rw [if_pos (by decide +kernel)]; kernel_rfl) | (rw [if_neg (by decide +kernel)]; exact ⟨rfl, rfl⟩))
    (fun os started H enc _ => liftedParseRat os started H enc)
/-- The tied card. -/
theorem fnExactParseRatCard_holds : Rows.FnExactParseRatCardSaid :=
  Claim7.holds_tied_plain_at .later [] [.data, .data, .data] true (true, "1597345d35c0d48d5a807149faa69ca8193066e4300064ab893a977f3eb54251") false
    fnExactParseRat_holds (fun _ h => by cases h) (by kernel_rfl) (fun _ h => by cases h) fnExactParseRat_row_tie rfl ⟨rfl, rfl⟩ (by kernel_rfl) rfl
    (fun f fn hf hfn => by
      obtain rfl : f = 3 := Option.some.inj ((show Tryz.prog.funcNamed "loop.example/g00811/laws.FnExactParseRat" = some 3 by kernel_rfl).symm.trans hf) |>.symm
      obtain rfl : fn = Tryz.f3 := (Option.some.inj (Tryz.func3.symm.trans hfn)).symm
      exact ⟨by kernel_rfl, fun j t ht => by
        have hm : t ∈ Tryz.f3.params.toList := by rw [Array.getElem?_eq_some_iff] at ht; obtain ⟨h1, h2⟩ := ht; rw [← h2]; simp
        rw [Tryz.params3] at hm
        have hall : ([9] : List TypeId).all (fun t => Tryz.prog.wantsStandIn t == false) = true := by kernel_rfl
        exact eq_of_beq (List.all_eq_true.1 hall t hm)⟩)
    (by kernel_rfl)
end Go.Proofs.YtgchbbjhdeobpaaGreatDoor
