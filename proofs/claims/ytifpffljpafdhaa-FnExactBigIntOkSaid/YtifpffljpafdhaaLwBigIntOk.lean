/-
  The law FnExactBigIntOk: the program's function and the reference's return the same, the arguments are left as they were, and the result is memory of its own.
-/
import Derived.Test.YtifpffljpafdhaaArgs
import Derived.Deep.DeepCutAuto
import Derived.Deep.RegionWith
import Derived.Test.YtifpffljpafdhaaBigLaw
import Derived.Test.YtifpffljpafdhaaBig
namespace Go.Proofs.Ytifpffljpafdhaa
set_option linter.unusedVariables false
open Go.ChangeShapes Go.WideShapes Go.ChangeAt Go.RowKit
open Go.ChangeMaps (open_string shut_string)
set_option maxRecDepth 100000 in
set_option maxHeartbeats 1000000 in
theorem walkBigIntOk (v0_0 : Bool) (A0_1 : Option Addr) (n0_1 c0_1 : Nat) (f0_1 : Nat → Int) (w : World) (h0_1 : Rd w A0_1 n0_1 c0_1 f0_1) (hm0_1 : n0_1 ≤ 9223372036854775807) :
    Calls Try.prog 10 #[.agg #[.bool v0_0, .slice A0_1 n0_1 c0_1]] w fun e w' => e = .returned (.bool true) ∧ Old w w' := by
  have O := Old.refl w
  go_enter Try.func10, Try.ntmps10
  go_wp2_with fail
  by_cases hs0 : (n0_1 : Int) ≤ 1048576
  case neg =>
    refine (szBigInt_no _ _ _ _ _ _ hm0_1 (by omega) (by omega) hs0).mono ?_
    rintro e w1 ⟨rfl, o1⟩
    go_wp2
    go_ret
    exact ⟨rfl, Old.trans O (Below.trans (b := _) (by repeat' (first | exact Below.refl _ _ | assumption | refine below_drewN ?_ _ | refine Below.drew ?_ | refine Below.alloc ?_ (by simp <;> omega) _ | refine Below.setCell ?_ (by simp <;> omega) _)) (Below.mono o1 (by simp <;> omega)))⟩
  have hn0_1 : n0_1 ≤ 1048576 := by omega
  refine (szBigInt_yes _ _ _ _ _ _ hm0_1 (by omega) (by omega) hs0).mono ?_
  rintro e w1 ⟨rfl, o1⟩
  have B_aX : Bx w1 w.heap.size #[.bool v0_0, .slice A0_1 n0_1 c0_1] := Bx.old (Bx.new _ _ _) o1
  replace o1 : Old w w1 := Below.trans (b := _) (by repeat' (first | exact Below.refl _ _ | assumption | refine below_drewN ?_ _ | refine Below.drew ?_ | refine Below.alloc ?_ (by simp <;> omega) _ | refine Below.setCell ?_ (by simp <;> omega) _)) (Below.mono o1 (by simp <;> omega))
  replace O := Old.trans O o1
  have z1 := o1.size
  clear o1
  have hl0 : ¬ 1048576 - (n0_1 : Int) < 0 := by omega
  have q_aX_0 := B_aX.cell 0 rfl
  have q_aX_1 := B_aX.cell 1 rfl
  have q_aX := B_aX.lt
  go_wp2_with fail
  refine (toBigInt_any _ _ _ _ _ _ (h0_1.below (B := w.heap.size) (Below.trans (b := w1) O (by repeat' (first | exact Below.refl _ _ | assumption | refine below_drewN ?_ _ | refine Below.drew ?_ | refine Below.alloc ?_ (by simp <;> omega) _ | refine Below.setCell ?_ (by simp <;> omega) _))) (Nat.le_refl _)) hn0_1).mono ?_
  rintro e w2 ⟨A_t1_1, rfl, R_t1_1, o2⟩
  clear q_aX_0 q_aX_1 q_aX
  replace B_aX := B_aX.old o2
  replace O := Old.trans O o2
  have z2 := o2.size
  clear o2
  have lim_t1_1 := R_t1_1.lim
  have low_t1_1 := R_t1_1.low
  have q_aX_0 := B_aX.cell 0 rfl
  have q_aX_1 := B_aX.cell 1 rfl
  have q_aX := B_aX.lt
  go_wp2_with fail
  refine (spec_BigIntOk _ _ _ _ _ _ _ R_t1_1 hn0_1).mono ?_
  rintro e w3 ⟨rfl, o3⟩
  clear q_aX_0 q_aX_1 q_aX
  clear R_t1_1 lim_t1_1 low_t1_1
  replace B_aX := B_aX.old o3
  replace O := Old.trans O o3
  have z3 := o3.size
  clear o3
  have q_aX_0 := B_aX.cell 0 rfl
  have q_aX_1 := B_aX.cell 1 rfl
  have q_aX := B_aX.lt
  go_wp2_with fail
  refine (toBigInt_any _ _ _ _ _ _ (h0_1.below (B := w.heap.size) (Below.trans (b := w3) O (by repeat' (first | exact Below.refl _ _ | assumption | refine below_drewN ?_ _ | refine Below.drew ?_ | refine Below.alloc ?_ (by simp <;> omega) _ | refine Below.setCell ?_ (by simp <;> omega) _))) (Nat.le_refl _)) hn0_1).mono ?_
  rintro e w4 ⟨A_t2_1, rfl, R_t2_1, o4⟩
  clear q_aX_0 q_aX_1 q_aX
  replace B_aX := B_aX.old o4
  replace O := Old.trans O o4
  have z4 := o4.size
  clear o4
  have lim_t2_1 := R_t2_1.lim
  have low_t2_1 := R_t2_1.low
  have q_aX_0 := B_aX.cell 0 rfl
  have q_aX_1 := B_aX.cell 1 rfl
  have q_aX := B_aX.lt
  go_wp2_with fail
  refine (impl_BigIntOk _ _ _ _ _ _ _ (Row.below (B := w4.heap.size) R_t2_1 (by repeat' (first | exact Below.refl _ _ | assumption | refine below_drewN ?_ _ | refine Below.drew ?_ | refine Below.alloc ?_ (by simp <;> omega) _ | refine Below.setCell ?_ (by simp <;> omega) _)) (Nat.le_refl _)) hn0_1).mono ?_
  rintro e w5 ⟨rfl, o5⟩
  clear q_aX_0 q_aX_1 q_aX
  have B_t2 : Bx w5 w4.heap.size #[.bool v0_0, .slice A_t2_1 n0_1 n0_1] := Bx.old (Bx.new _ _ _) o5
  replace o5 : Old w4 w5 := Below.trans (b := _) (by repeat' (first | exact Below.refl _ _ | assumption | refine below_drewN ?_ _ | refine Below.drew ?_ | refine Below.alloc ?_ (by simp <;> omega) _ | refine Below.setCell ?_ (by simp <;> omega) _)) (Below.mono o5 (by simp <;> omega))
  replace B_aX := B_aX.old o5
  replace R_t2_1 := Row.below R_t2_1 o5 (Nat.le_refl _)
  replace O := Old.trans O o5
  have z5 := o5.size
  clear o5
  have q_aX_0 := B_aX.cell 0 rfl
  have q_aX_1 := B_aX.cell 1 rfl
  have q_aX := B_aX.lt
  have q_t2_0 := B_t2.cell 0 rfl
  have q_t2_1 := B_t2.cell 1 rfl
  have q_t2 := B_t2.lt
  go_upto_region 10 with fail
  go_cut [26] (fun s26 wx => s26 = .bool false ∧ Old w5 wx)
  case first =>
    go_region_with (first
      | (go_at_call 52; go_loud (refine (toBigInt_any _ _ _ _ _ _ (h0_1.below (B := w.heap.size) (Below.trans (b := w5) O (by repeat' (first | exact Below.refl _ _ | assumption | refine below_drewN ?_ _ | refine Below.drew ?_ | refine Below.alloc ?_ (by simp <;> omega) _ | refine Below.setCell ?_ (by simp <;> omega) _))) (Nat.le_refl _)) hn0_1).mono ?_); rintro e w6 ⟨A_t3_1, rfl, R_t3_1, o6⟩; replace o6 : Old w5 w6 := Below.trans (b := _) (by repeat' (first | exact Below.refl _ _ | assumption | refine below_drewN ?_ _ | refine Below.drew ?_ | refine Below.alloc ?_ (by simp <;> omega) _ | refine Below.setCell ?_ (by simp <;> omega) _)) o6; clear q_aX_0 q_aX_1 q_aX q_t2_0 q_t2_1 q_t2; have B_6 := B_t2.old o6; have q_t2_0 := B_6.cell 0 rfl; have q_t2_1 := B_6.cell 1 rfl; have q_t2 := B_6.lt)
      | (go_at_call 54; go_loud (refine (eqBigInt_yes _ _ _ _ _ _ _ _ _ _ _ (Row.below (B := w5.heap.size) R_t2_1 (by repeat' (first | exact Below.refl _ _ | assumption | refine below_drewN ?_ _ | refine Below.drew ?_ | refine Below.alloc ?_ (by simp <;> omega) _ | refine Below.setCell ?_ (by simp <;> omega) _)) (Nat.le_refl _)) (Row.below (B := w6.heap.size) R_t3_1 (by repeat' (first | exact Below.refl _ _ | assumption | refine below_drewN ?_ _ | refine Below.drew ?_ | refine Below.alloc ?_ (by simp <;> omega) _ | refine Below.setCell ?_ (by simp <;> omega) _)) (Nat.le_refl _)) (fun _ _ => rfl) hn0_1).mono ?_); rintro e w7 ⟨rfl, o7⟩; replace o7 : Old w6 w7 := Below.trans (b := _) (by repeat' (first | exact Below.refl _ _ | assumption | refine below_drewN ?_ _ | refine Below.drew ?_ | refine Below.alloc ?_ (by simp <;> omega) _ | refine Below.setCell ?_ (by simp <;> omega) _)) o7))
    all_goals (go_wp2_with fail; go_meet; exact ⟨rfl, Old.trans o6 (Below.trans (b := _) o7 (by repeat' (first | exact Below.refl _ _ | assumption | refine below_drewN ?_ _ | refine Below.drew ?_ | refine Below.alloc ?_ (by simp <;> omega) _ | refine Below.setCell ?_ (by simp <;> omega) _)))⟩)
  case rest =>
  obtain ⟨rfl, o6⟩ := hcut
  replace O := Old.trans O o6
  go_wp2
  go_ret
  exact ⟨rfl, O⟩

set_option maxRecDepth 100000 in
theorem liftedBigIntOk (os : Os) (started : os.Started) (H : Type) (enc : TypeId × Value → H) :
    ReturnsInHanded {} Try.checked os 10 .any (Rows.fnExactBigIntOkSpec.pre6 enc Try.prog Try.f10 Rows.fnExactBigIntOkRow.domain false) (Rows.fnExactBigIntOkSpec.post enc Try.prog Try.f10 false true false false) := by
  refine returnsInHanded_of_change (C := Try.checked) ownKnob_none started (by kernel_rfl) Try.func10
    (ChangeSpec.witness6 (enc := enc) (C := Try.checked) false ⟨#[], #[.agg #[.bool false, .slice none 0 0]], []⟩ 8 (by kernel_rfl) (by kernel_rfl) (by kernel_rfl) (by kernel_rfl)) ?_
  intro W base args ds gs before hval0 hW hcnd _
  have hval : ∀ (j : Nat) t v, Try.f10.params[j]? = some t → args[j]? = some v → Value.okWide Try.prog W .any base t v := hval0
  have hW' := hW
  obtain ⟨p, q, hA0, hV, rfl, hfz, hnd⟩ := hW
  have hA : DataW.TrodAll enc Try.prog W 0 (fun _ => true) true Try.f10.params.toList args.toList ds p := hA0
  rw [Try.params10] at hA hval
  obtain ⟨v0, vs0, d0, ds0, p0, q0, hargs, rfl, rfl, h0, r0⟩ := trodAll_cons hA
  obtain ⟨rfl, rfl, rfl⟩ := trodAll_nil r0
  obtain rfl : args = #[v0] := by cases args; simp_all
  obtain ⟨rfl, rfl⟩ := trodVars_none hV
  have k0 := h0
  have lt0 : ∀ x ∈ p0, x.block < W.heap.size := by obtain ⟨m, hm⟩ := k0; exact DataW.trod_lt m _ _ _ hm
  obtain ⟨x0_0, A0_1, n0_1, c0_1, f0_1, rfl, g0_1, m0_1⟩ := open_bigint (hval 0 43 v0 rfl rfl) h0
  clear hA0 hval0
  refine (walkBigIntOk x0_0 A0_1 n0_1 c0_1 f0_1 W g0_1 m0_1).mono fun e W' ⟨he, bel⟩ => ?_
  subst he
  exact ⟨_, rfl, _, _, _, [], _, [], hW', trodAll_mk1 (shut_bool Try.underlying4 _), (trodAll_cons_mk (Below.trod laidOut (by kernel_rfl) (of_decide_eq_true (by kernel_rfl)) k0 bel lt0) trodAll_mk0), rfl, bel.frame _, fun h => by cases h⟩

theorem inPlaceBigIntOk : (Rows.fnExactBigIntOkRow.inPlace == Try.prog.inPlace 10) = true := by kernel_rfl
theorem unfollowedBigIntOk : (Rows.fnExactBigIntOkRow.unfollowed == Try.prog.unfollowed 10) = true := by kernel_rfl
theorem recursesBigIntOk : (Rows.fnExactBigIntOkRow.recurses == Try.prog.recurses 10) = true := by kernel_rfl
theorem namedBigIntOk : (Rows.fnExactBigIntOkRow.named == Try.prog.varsNamed 10) = true := by kernel_rfl
theorem closedBigIntOk : joinedFacts Try.prog 10 Try.f10 Rows.fnExactBigIntOkSpec Rows.fnExactBigIntOkRow = true :=
  joined_of (by kernel_rfl) laidOut mapsRowed_yes (by kernel_rfl) (by kernel_rfl) (by kernel_rfl) stops_none (by kernel_rfl) knobs_none inPlaceBigIntOk unfollowedBigIntOk recursesBigIntOk namedBigIntOk
    (by kernel_rfl) (by kernel_rfl) (by kernel_rfl) (by kernel_rfl) (by kernel_rfl) (by kernel_rfl) (by kernel_rfl) (by kernel_rfl) (by kernel_rfl) plainKeys_yes (by kernel_rfl) (by kernel_rfl) stopsHeard_yes mayEnter_yes liftsFinal_no (by kernel_rfl) make_cut (by kernel_rfl)
    (by kernel_rfl) (by kernel_rfl) (by kernel_rfl) (by kernel_rfl) (by kernel_rfl)

/-- The statement. -/
theorem fnExactBigIntOk_holds : Rows.FnExactBigIntOkSaid :=
  OpenClaim.holds_of_wide 10 Try.f10 rfl rfl rfl rfl rfl rfl rfl ⟨rfl, rfl, rfl, rfl, rfl⟩ rfl rfl rfl rfl rfl (by kernel_rfl) Try.func10 closedBigIntOk
    (of_decide_eq_true (by kernel_rfl)) (by unfold Func.isWrapper; first | (rw [if_pos (by decide +kernel)]; kernel_rfl) | (rw [if_neg (by decide +kernel)]; exact ⟨rfl, rfl⟩))
    (fun os started H enc _ => liftedBigIntOk os started H enc)
end Go.Proofs.Ytifpffljpafdhaa
