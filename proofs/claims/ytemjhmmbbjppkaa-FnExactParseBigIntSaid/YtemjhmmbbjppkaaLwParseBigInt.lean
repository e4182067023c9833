/-
  The law FnExactParseBigInt: the program's function and the reference's return the same, the arguments are left as they were, and the result is memory of its own.
-/
import Derived.Test.YtemjhmmbbjppkaaArgs
import Derived.Deep.DeepCutAuto
import Derived.Deep.RegionHeld3
import Derived.Deep.DrawnRows
import Derived.Test.YtemjhmmbbjppkaaBoxes
import Derived.Test.YtemjhmmbbjppkaaBigLaw
import Derived.Test.YtemjhmmbbjppkaaParseBig
namespace Go.Proofs.Ytemjhmmbbjppkaa
set_option linter.unusedVariables false
open Go.ChangeShapes Go.WideShapes Go.ChangeAt Go.RowKit
open Go.ChangeMaps (open_string shut_string)
attribute [local go_sem ↓] Go.wp_at_zero Go.wp_at_succ
set_option maxRecDepth 100000 in
set_option maxHeartbeats 1000000 in
theorem walkParseBigInt (s0_0 : ByteArray) (w : World) (b0_0 : s0_0.size ≤ maxLen) :
    Calls Try.prog 10 #[.string s0_0] w fun e w' => e = .returned (.bool true) ∧ Old w w' := by
  by_cases hn0_0 : s0_0.size ≤ 1048576
  · skip
    have L_0_1 : Num.len (magZ (zParseBigInt s0_0)) ≤ 1048576 := by have := zParseBigInt_len s0_0; omega
    have O := Old.refl w
    go_enter Try.func10, Try.ntmps10
    go_wp2_with fail
    refine (spec_ParseBigInt s0_0 _ b0_0).mono ?_
    rintro e w1 ⟨⟨A_w0_1, c_w0_1, rfl, R_w0_1⟩, o1⟩
    replace O := Old.trans O o1
    have z1 := o1.size
    clear o1
    have lim_w0_1 := R_w0_1.lim
    have low_w0_1 := Low.mono (lo' := w.heap.size + 0) R_w0_1.low (by first | exact Nat.le_refl _ | (simp <;> omega))
    go_wp2_with fail
    refine (impl_ParseBigInt s0_0 _ b0_0).mono ?_
    rintro e w2 ⟨⟨A_g0_1, c_g0_1, rfl, R_g0_1⟩, o2⟩
    have B_w0 : Bx w2 w1.heap.size #[.bool (sgnZ (zParseBigInt s0_0)), .slice A_w0_1 (Num.len (magZ (zParseBigInt s0_0))) c_w0_1] := Bx.old (Bx.new _ _ _) o2
    have zb2 := B_w0.lt
    replace o2 : Old w1 w2 := Below.trans (b := _) oldA (Below.mono o2 (by simp <;> omega))
    replace R_w0_1 := Row.below R_w0_1 o2 (Nat.le_refl _)
    replace O := Old.trans O o2
    have z2 := o2.size
    clear o2
    have lim_g0_1 := R_g0_1.lim
    have low_g0_1 := Low.mono (lo' := w1.heap.size + 1) R_g0_1.low (by first | exact Nat.le_refl _ | (simp <;> omega))
    have q_w0_0 := B_w0.cell 0 rfl
    have q_w0_1 := B_w0.cell 1 rfl
    have q_w0 := B_w0.lt
    go_wp2_with fail
    refine (eqBigInt_yes _ _ _ _ _ _ _ _ _ _ _ (Row.below (B := w2.heap.size) R_g0_1 oldA (Nat.le_refl _)) (Row.below (B := w2.heap.size) R_w0_1 oldA (Nat.le_refl _)) (fun _ _ => rfl) L_0_1).mono ?_
    rintro e w3 ⟨rfl, o3⟩
    clear q_w0_0 q_w0_1 q_w0
    have B_g0 : Bx w3 w2.heap.size #[.bool (sgnZ (zParseBigInt s0_0)), .slice A_g0_1 (Num.len (magZ (zParseBigInt s0_0))) c_g0_1] := Bx.old (Bx.new _ _ _) o3
    have zb3 := B_g0.lt
    replace o3 : Old w2 w3 := Below.trans (b := _) oldA (Below.mono o3 (by simp <;> omega))
    replace B_w0 := B_w0.old o3
    replace R_w0_1 := Row.below R_w0_1 o3 (Nat.le_refl _)
    replace R_g0_1 := Row.below R_g0_1 o3 (Nat.le_refl _)
    replace O := Old.trans O o3
    have z3 := o3.size
    clear o3
    have q_w0_0 := B_w0.cell 0 rfl
    have q_w0_1 := B_w0.cell 1 rfl
    have q_w0 := B_w0.lt
    have q_g0_0 := B_g0.cell 0 rfl
    have q_g0_1 := B_g0.cell 1 rfl
    have q_g0 := B_g0.lt
    go_wp2_with fail
    refine (markBigInt_any _ _ _ _ _ _ _ _ R_g0_1 L_0_1 (by omega) (by omega)).mono ?_
    rintro e w4 ⟨rfl, S_1, G_1⟩
    clear q_w0_0 q_w0_1 q_w0 q_g0_0 q_g0_1 q_g0
    clear R_g0_1
    have R_g0_1 := S_1
    clear S_1
    replace R_w0_1 := Row.apart R_w0_1 G_1 lim_w0_1 low_w0_1 lim_g0_1 low_g0_1 (by omega)
    replace B_w0 := B_w0.apart G_1 low_g0_1 lim_g0_1 (by omega)
    replace B_g0 := B_g0.apart G_1 low_g0_1 lim_g0_1 (by omega)
    replace O := Below.grown O G_1 O.size (low_g0_1.own (by omega))
    have z4 := G_1.size
    clear G_1
    have q_w0_0 := B_w0.cell 0 rfl
    have q_w0_1 := B_w0.cell 1 rfl
    have q_w0 := B_w0.lt
    have q_g0_0 := B_g0.cell 0 rfl
    have q_g0_1 := B_g0.cell 1 rfl
    have q_g0 := B_g0.lt
    go_wp2_with fail
    refine (heldBigInt_yes _ _ _ _ _ _ _ _ R_g0_1 (fun _ _ => rfl) L_0_1 (by omega) (by omega)).mono ?_
    rintro e w5 ⟨rfl, o5⟩
    clear q_w0_0 q_w0_1 q_w0 q_g0_0 q_g0_1 q_g0
    replace B_w0 := B_w0.old o5
    replace B_g0 := B_g0.old o5
    replace R_w0_1 := Row.below R_w0_1 o5 (Nat.le_refl _)
    replace R_g0_1 := Row.below R_g0_1 o5 (Nat.le_refl _)
    replace O := Old.trans O o5
    have z5 := o5.size
    clear o5
    have q_w0_0 := B_w0.cell 0 rfl
    have q_w0_1 := B_w0.cell 1 rfl
    have q_w0 := B_w0.lt
    have q_g0_0 := B_g0.cell 0 rfl
    have q_g0_1 := B_g0.cell 1 rfl
    have q_g0 := B_g0.lt
    go_wp2_with fail
    refine (impl_ParseBigInt s0_0 _ b0_0).mono ?_
    rintro e w6 ⟨⟨A_h0_1, c_h0_1, rfl, R_h0_1⟩, o6⟩
    clear q_w0_0 q_w0_1 q_w0 q_g0_0 q_g0_1 q_g0
    replace B_w0 := B_w0.old o6
    replace B_g0 := B_g0.old o6
    replace R_w0_1 := Row.below R_w0_1 o6 (Nat.le_refl _)
    replace R_g0_1 := Row.below R_g0_1 o6 (Nat.le_refl _)
    replace O := Old.trans O o6
    have z6 := o6.size
    clear o6
    have lim_h0_1 := R_h0_1.lim
    have low_h0_1 := Low.mono (lo' := w5.heap.size + 0) R_h0_1.low (by first | exact Nat.le_refl _ | (simp <;> omega))
    have q_w0_0 := B_w0.cell 0 rfl
    have q_w0_1 := B_w0.cell 1 rfl
    have q_w0 := B_w0.lt
    have q_g0_0 := B_g0.cell 0 rfl
    have q_g0_1 := B_g0.cell 1 rfl
    have q_g0 := B_g0.lt
    go_wp2_with fail
    refine (eqBigInt_yes _ _ _ _ _ _ _ _ _ _ _ (Row.below (B := w6.heap.size) R_h0_1 oldA (Nat.le_refl _)) (Row.below (B := w6.heap.size) R_w0_1 oldA (Nat.le_refl _)) (fun _ _ => rfl) L_0_1).mono ?_
    rintro e w7 ⟨rfl, o7⟩
    clear q_w0_0 q_w0_1 q_w0 q_g0_0 q_g0_1 q_g0
    have B_h0 : Bx w7 w6.heap.size #[.bool (sgnZ (zParseBigInt s0_0)), .slice A_h0_1 (Num.len (magZ (zParseBigInt s0_0))) c_h0_1] := Bx.old (Bx.new _ _ _) o7
    have zb7 := B_h0.lt
    replace o7 : Old w6 w7 := Below.trans (b := _) oldA (Below.mono o7 (by simp <;> omega))
    replace B_w0 := B_w0.old o7
    replace B_g0 := B_g0.old o7
    replace R_w0_1 := Row.below R_w0_1 o7 (Nat.le_refl _)
    replace R_g0_1 := Row.below R_g0_1 o7 (Nat.le_refl _)
    replace R_h0_1 := Row.below R_h0_1 o7 (Nat.le_refl _)
    replace O := Old.trans O o7
    have z7 := o7.size
    clear o7
    have q_w0_0 := B_w0.cell 0 rfl
    have q_w0_1 := B_w0.cell 1 rfl
    have q_w0 := B_w0.lt
    have q_g0_0 := B_g0.cell 0 rfl
    have q_g0_1 := B_g0.cell 1 rfl
    have q_g0 := B_g0.lt
    have q_h0_0 := B_h0.cell 0 rfl
    have q_h0_1 := B_h0.cell 1 rfl
    have q_h0 := B_h0.lt
    go_wp2_with fail
    refine (heldBigInt_yes _ _ _ _ _ _ _ _ R_g0_1 (fun _ _ => rfl) L_0_1 (by omega) (by omega)).mono ?_
    rintro e w8 ⟨rfl, o8⟩
    clear q_w0_0 q_w0_1 q_w0 q_g0_0 q_g0_1 q_g0 q_h0_0 q_h0_1 q_h0
    replace B_w0 := B_w0.old o8
    replace B_g0 := B_g0.old o8
    replace B_h0 := B_h0.old o8
    replace R_w0_1 := Row.below R_w0_1 o8 (Nat.le_refl _)
    replace R_g0_1 := Row.below R_g0_1 o8 (Nat.le_refl _)
    replace R_h0_1 := Row.below R_h0_1 o8 (Nat.le_refl _)
    replace O := Old.trans O o8
    have z8 := o8.size
    clear o8
    go_wp2
    go_ret
    exact ⟨rfl, O⟩
  · go_enter Try.func10, Try.ntmps10
    go_wp2
    go_ret
    exact ⟨rfl, oldA⟩

set_option maxRecDepth 100000 in
theorem liftedParseBigInt (os : Os) (started : os.Started) (H : Type) (enc : TypeId × Value → H) :
    ReturnsInHanded {} Try.checked os 10 .any (Rows.fnExactParseBigIntSpec.pre6 enc Try.prog Try.f10 Rows.fnExactParseBigIntRow.domain false) (Rows.fnExactParseBigIntSpec.post enc Try.prog Try.f10 false true false false) := by
  refine returnsInHanded_of_change (C := Try.checked) ownKnob_none started (by kernel_rfl) Try.func10
    (ChangeSpec.witness6 (enc := enc) (C := Try.checked) false ⟨#[], #[.string ByteArray.empty], []⟩ 8 (by kernel_rfl) (by kernel_rfl) (by kernel_rfl) (by kernel_rfl)) ?_
  intro W base args ds gs before hval0 hW hcnd _
  have hval : ∀ (j : Nat) t v, Try.f10.params[j]? = some t → args[j]? = some v → Value.okWide Try.prog W .any base t v := hval0
  have hW' := hW
  obtain ⟨p, q, hA0, hV, rfl, hfz, hnd⟩ := hW
  have hA : DataW.TrodAll enc Try.prog W 0 (fun _ => true) true Try.f10.params.toList args.toList ds p := hA0
  rw [Try.params10] at hA hval
  obtain ⟨v0, vs0, d0, ds0, p0, q0, hargs, rfl, rfl, h0, r0⟩ := trodAll_cons hA
  obtain ⟨rfl, rfl, rfl⟩ := trodAll_nil r0
  obtain rfl : args = #[v0] := by cases args; simp_all
  obtain ⟨rfl, rfl⟩ := trodVars_none hV
  obtain ⟨s0, rfl, rfl, rfl, g0⟩ := open_string Try.underlying9 (hval 0 9 v0 rfl rfl) h0
  clear hA0 hval0
  refine (walkParseBigInt s0 W g0).mono fun e W' ⟨he, bel⟩ => ?_
  subst he
  exact ⟨_, rfl, _, _, _, [], _, [], hW', trodAll_mk1 (shut_bool Try.underlying4 _), (trodAll_cons_mk (shut_string Try.underlying9 g0) trodAll_mk0), rfl, bel.frame _, fun h => by cases h⟩

theorem inPlaceParseBigInt : (Rows.fnExactParseBigIntRow.inPlace == Try.prog.inPlace 10) = true := by kernel_rfl
theorem unfollowedParseBigInt : (Rows.fnExactParseBigIntRow.unfollowed == Try.prog.unfollowed 10) = true := by kernel_rfl
theorem recursesParseBigInt : (Rows.fnExactParseBigIntRow.recurses == Try.prog.recurses 10) = true := by kernel_rfl
theorem namedParseBigInt : (Rows.fnExactParseBigIntRow.named == Try.prog.varsNamed 10) = true := by kernel_rfl
theorem closedParseBigInt : joinedFacts Try.prog 10 Try.f10 Rows.fnExactParseBigIntSpec Rows.fnExactParseBigIntRow = true :=
  joined_of (by kernel_rfl) laidOut mapsRowed_yes (by kernel_rfl) (by kernel_rfl) (by kernel_rfl) stops_none (by kernel_rfl) knobs_none inPlaceParseBigInt unfollowedParseBigInt recursesParseBigInt namedParseBigInt
    (by kernel_rfl) (by kernel_rfl) (by kernel_rfl) (by kernel_rfl) (by kernel_rfl) (by kernel_rfl) (by kernel_rfl) (by kernel_rfl) (by kernel_rfl) plainKeys_yes (by kernel_rfl) (by kernel_rfl) stopsHeard_yes mayEnter_yes liftsFinal_no (by kernel_rfl) make_cut (by kernel_rfl)
    (by kernel_rfl) (by kernel_rfl) (by kernel_rfl) (by kernel_rfl) (by kernel_rfl)

/-- The statement. -/
theorem fnExactParseBigInt_holds : Rows.FnExactParseBigIntSaid :=
  OpenClaim.holds_of_wide 10 Try.f10 rfl rfl rfl rfl rfl rfl rfl ⟨rfl, rfl, rfl, rfl, rfl⟩ rfl rfl rfl rfl rfl (by kernel_rfl) Try.func10 closedParseBigInt
    (of_decide_eq_true (by kernel_rfl)) (by unfold Func.isWrapper; first | (rw [if_pos (by decide +kernel)]; kernel_rfl) | (rw [if_neg (by decide +kernel)]; exact ⟨rfl, rfl⟩))
    (fun os started H enc _ => liftedParseBigInt os started H enc)
end Go.Proofs.Ytemjhmmbbjppkaa
