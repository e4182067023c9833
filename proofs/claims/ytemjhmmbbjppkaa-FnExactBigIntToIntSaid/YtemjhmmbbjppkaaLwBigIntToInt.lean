/-
  The law FnExactBigIntToInt: the program's function and the reference's return the same, the arguments are left as they were, and the result is memory of its own.
-/
import Derived.Test.YtemjhmmbbjppkaaArgs
import Derived.Deep.DeepCutAuto
import Derived.Deep.RegionHeld3
import Derived.Deep.DrawnRows
import Derived.Test.YtemjhmmbbjppkaaBoxes
import Derived.Test.YtemjhmmbbjppkaaBigLaw
import Derived.Test.YtemjhmmbbjppkaaBigInt2
namespace Go.Proofs.Ytemjhmmbbjppkaa
set_option linter.unusedVariables false
open Go.ChangeShapes Go.WideShapes Go.ChangeAt Go.RowKit
open Go.ChangeMaps (open_string shut_string)
attribute [local go_sem ↓] Go.wp_at_zero Go.wp_at_succ
set_option maxRecDepth 100000 in
set_option maxHeartbeats 1000000 in
theorem walkBigIntToInt (v0_0 : Bool) (A0_1 : Option Addr) (n0_1 c0_1 : Nat) (f0_1 : Nat → Int) (w : World) (h0_1 : Rd w A0_1 n0_1 c0_1 f0_1) (hm0_1 : n0_1 ≤ 9223372036854775807) :
    Calls Try.prog 7 #[.agg #[.bool v0_0, .slice A0_1 n0_1 c0_1]] w fun e w' => e = .returned (.bool true) ∧ Old w w' := by
  have O := Old.refl w
  go_enter Try.func7, Try.ntmps7
  go_wp2_with fail
  by_cases hs0 : (n0_1 : Int) ≤ 1048576
  case neg =>
    refine (szBigInt_no _ _ _ _ _ _ hm0_1 (by omega) (by omega) hs0).mono ?_
    rintro e w1 ⟨rfl, o1⟩
    go_wp2
    go_ret
    exact ⟨rfl, Old.trans O (Below.trans (b := _) oldA (Below.mono o1 (by simp <;> omega)))⟩
  have hn0_1 : n0_1 ≤ 1048576 := by omega
  refine (szBigInt_yes _ _ _ _ _ _ hm0_1 (by omega) (by omega) hs0).mono ?_
  rintro e w1 ⟨rfl, o1⟩
  have B_aX : Bx w1 w.heap.size #[.bool v0_0, .slice A0_1 n0_1 c0_1] := Bx.old (Bx.new _ _ _) o1
  have zb1 := B_aX.lt
  replace o1 : Old w w1 := Below.trans (b := _) oldA (Below.mono o1 (by simp <;> omega))
  replace O := Old.trans O o1
  have z1 := o1.size
  clear o1
  have hl0 : ¬ 1048576 - (n0_1 : Int) < 0 := by omega
  have q_aX_0 := B_aX.cell 0 rfl
  have q_aX_1 := B_aX.cell 1 rfl
  have q_aX := B_aX.lt
  go_wp2_with fail
  refine (toBigInt_any _ _ _ _ _ _ (h0_1.below (B := w.heap.size) (Below.trans (b := w1) O oldA) (Nat.le_refl _)) hn0_1).mono ?_
  rintro e w2 ⟨A_t1_1, rfl, R_t1_1, o2⟩
  clear q_aX_0 q_aX_1 q_aX
  replace B_aX := B_aX.old o2
  replace O := Old.trans O o2
  have z2 := o2.size
  clear o2
  have lim_t1_1 := R_t1_1.lim
  have low_t1_1 := Low.mono (lo' := w1.heap.size + 0) R_t1_1.low (by first | exact Nat.le_refl _ | (simp <;> omega))
  have q_aX_0 := B_aX.cell 0 rfl
  have q_aX_1 := B_aX.cell 1 rfl
  have q_aX := B_aX.lt
  go_wp2_with fail
  refine (spec_BigIntToInt _ _ _ _ _ _ _ R_t1_1 hn0_1).mono ?_
  rintro e w3 ⟨rfl, o3⟩
  clear q_aX_0 q_aX_1 q_aX
  clear R_t1_1 lim_t1_1 low_t1_1
  replace B_aX := B_aX.old o3
  replace O := Old.trans O o3
  have z3 := o3.size
  clear o3
  have q_aX_0 := B_aX.cell 0 rfl
  have q_aX_1 := B_aX.cell 1 rfl
  have q_aX := B_aX.lt
  go_wp2_with fail
  refine (toBigInt_any _ _ _ _ _ _ (h0_1.below (B := w.heap.size) (Below.trans (b := w3) O oldA) (Nat.le_refl _)) hn0_1).mono ?_
  rintro e w4 ⟨A_t2_1, rfl, R_t2_1, o4⟩
  clear q_aX_0 q_aX_1 q_aX
  replace B_aX := B_aX.old o4
  replace O := Old.trans O o4
  have z4 := o4.size
  clear o4
  have lim_t2_1 := R_t2_1.lim
  have low_t2_1 := Low.mono (lo' := w3.heap.size + 0) R_t2_1.low (by first | exact Nat.le_refl _ | (simp <;> omega))
  have q_aX_0 := B_aX.cell 0 rfl
  have q_aX_1 := B_aX.cell 1 rfl
  have q_aX := B_aX.lt
  go_wp2_with fail
  refine (impl_BigIntToInt _ _ _ _ _ _ _ (Row.below (B := w4.heap.size) R_t2_1 oldA (Nat.le_refl _)) hn0_1).mono ?_
  rintro e w5 ⟨rfl, o5⟩
  clear q_aX_0 q_aX_1 q_aX
  have B_t2 : Bx w5 w4.heap.size #[.bool v0_0, .slice A_t2_1 n0_1 n0_1] := Bx.old (Bx.new _ _ _) o5
  have zb5 := B_t2.lt
  replace o5 : Old w4 w5 := Below.trans (b := _) oldA (Below.mono o5 (by simp <;> omega))
  replace B_aX := B_aX.old o5
  replace R_t2_1 := Row.below R_t2_1 o5 (Nat.le_refl _)
  replace O := Old.trans O o5
  have z5 := o5.size
  clear o5
  have q_aX_0 := B_aX.cell 0 rfl
  have q_aX_1 := B_aX.cell 1 rfl
  have q_aX := B_aX.lt
  have q_t2_0 := B_t2.cell 0 rfl
  have q_t2_1 := B_t2.cell 1 rfl
  have q_t2 := B_t2.lt
  go_upto_region 10 with fail
  go_cut [39] (fun sl wx => sl = .bool false ∧ Old w5 wx)
  case first =>
    go_region_held3 (fun w' => w'.cell? ⟨w.heap.size, 0, none⟩ = some (.bool v0_0) ∧ w'.cell? ⟨w.heap.size, 1, none⟩ = some (.slice A0_1 n0_1 c0_1) ∧ w'.cell? ⟨w4.heap.size, 0, none⟩ = some (.bool v0_0) ∧ w'.cell? ⟨w4.heap.size, 1, none⟩ = some (.slice A_t2_1 n0_1 n0_1)) (go_keep)
      (first
      | (go_at_call 38; refine (toBigInt_any v0_0 A0_1 n0_1 c0_1 f0_1 _ (h0_1.below (B := w.heap.size) (Below.trans (b := w5) O oldA) (Nat.le_refl _)) hn0_1).mono ?_; rintro e wt ⟨A_t_1, rfl, R_t_1, o6⟩; replace o6 : Old w5 wt := Below.trans (b := _) oldA (Below.mono o6 leA); clear q_aX_0 q_aX_1 q_aX q_t2_0 q_t2_1 q_t2; have D_aX := B_aX.old o6; have q_aX_0 := D_aX.cell 0 rfl; have q_aX_1 := D_aX.cell 1 rfl; have q_aX := D_aX.lt; have D_t2 := B_t2.old o6; have q_t2_0 := D_t2.cell 0 rfl; have q_t2_1 := D_t2.cell 1 rfl; have q_t2 := D_t2.lt)
      | (go_at_call 33; refine (eqBigInt_yes _ _ _ _ _ _ _ _ _ _ _ (Row.below (B := w5.heap.size) R_t2_1 (Below.trans (b := wt) o6 oldA) (Nat.le_refl _)) (Row.below (B := wt.heap.size) R_t_1 oldA (Nat.le_refl _)) (fun _ _ => rfl) hn0_1).mono ?_; rintro e wu ⟨rfl, o7⟩; replace o7 : Old wt wu := Below.trans (b := _) oldA (Below.mono o7 leA); clear q_aX_0 q_aX_1 q_aX q_t2_0 q_t2_1 q_t2; have E_aX := D_aX.old o7; have q_aX_0 := E_aX.cell 0 rfl; have q_aX_1 := E_aX.cell 1 rfl; have q_aX := E_aX.lt; have E_t2 := D_t2.old o7; have q_t2_0 := E_t2.cell 0 rfl; have q_t2_1 := E_t2.cell 1 rfl; have q_t2 := E_t2.lt))
    all_goals (go_wp2_with fail; go_meet; exact ⟨rfl, Old.trans o6 (Below.trans (b := _) o7 oldA)⟩)
  case rest =>
  obtain ⟨rfl, o6⟩ := hcut
  obtain ⟨w6, hw⟩ : ∃ x, x = wc := ⟨_, rfl⟩
  subst hw
  clear q_aX_0 q_aX_1 q_aX q_t2_0 q_t2_1 q_t2
  replace B_aX := B_aX.old o6
  replace B_t2 := B_t2.old o6
  replace R_t2_1 := Row.below R_t2_1 o6 (Nat.le_refl _)
  replace O := Old.trans O o6
  have z6 := o6.size
  clear o6
  clear B_aX
  clear R_t2_1 lim_t2_1 low_t2_1
  clear B_t2
  go_wp2
  go_ret
  exact ⟨rfl, O⟩

set_option maxRecDepth 100000 in
theorem liftedBigIntToInt (os : Os) (started : os.Started) (H : Type) (enc : TypeId × Value → H) :
    ReturnsInHanded {} Try.checked os 7 .any (Rows.fnExactBigIntToIntSpec.pre6 enc Try.prog Try.f7 Rows.fnExactBigIntToIntRow.domain false) (Rows.fnExactBigIntToIntSpec.post enc Try.prog Try.f7 false true false false) := by
  refine returnsInHanded_of_change (C := Try.checked) ownKnob_none started (by kernel_rfl) Try.func7
    (ChangeSpec.witness6 (enc := enc) (C := Try.checked) false ⟨#[], #[.agg #[.bool false, .slice none 0 0]], []⟩ 8 (by kernel_rfl) (by kernel_rfl) (by kernel_rfl) (by kernel_rfl)) ?_
  intro W base args ds gs before hval0 hW hcnd _
  have hval : ∀ (j : Nat) t v, Try.f7.params[j]? = some t → args[j]? = some v → Value.okWide Try.prog W .any base t v := hval0
  have hW' := hW
  obtain ⟨p, q, hA0, hV, rfl, hfz, hnd⟩ := hW
  have hA : DataW.TrodAll enc Try.prog W 0 (fun _ => true) true Try.f7.params.toList args.toList ds p := hA0
  rw [Try.params7] at hA hval
  obtain ⟨v0, vs0, d0, ds0, p0, q0, hargs, rfl, rfl, h0, r0⟩ := trodAll_cons hA
  obtain ⟨rfl, rfl, rfl⟩ := trodAll_nil r0
  obtain rfl : args = #[v0] := by cases args; simp_all
  obtain ⟨rfl, rfl⟩ := trodVars_none hV
  have k0 := h0
  have lt0 : ∀ x ∈ p0, x.block < W.heap.size := by obtain ⟨m, hm⟩ := k0; exact DataW.trod_lt m _ _ _ hm
  obtain ⟨x0_0, A0_1, n0_1, c0_1, f0_1, rfl, g0_1, m0_1⟩ := open_bigint (hval 0 42 v0 rfl rfl) h0
  clear hA0 hval0
  refine (walkBigIntToInt x0_0 A0_1 n0_1 c0_1 f0_1 W g0_1 m0_1).mono fun e W' ⟨he, bel⟩ => ?_
  subst he
  exact ⟨_, rfl, _, _, _, [], _, [], hW', trodAll_mk1 (shut_bool Try.underlying4 _), (trodAll_cons_mk (Below.trod laidOut (by kernel_rfl) (of_decide_eq_true (by kernel_rfl)) k0 bel lt0) trodAll_mk0), rfl, bel.frame _, fun h => by cases h⟩

theorem inPlaceBigIntToInt : (Rows.fnExactBigIntToIntRow.inPlace == Try.prog.inPlace 7) = true := by kernel_rfl
theorem unfollowedBigIntToInt : (Rows.fnExactBigIntToIntRow.unfollowed == Try.prog.unfollowed 7) = true := by kernel_rfl
theorem recursesBigIntToInt : (Rows.fnExactBigIntToIntRow.recurses == Try.prog.recurses 7) = true := by kernel_rfl
theorem namedBigIntToInt : (Rows.fnExactBigIntToIntRow.named == Try.prog.varsNamed 7) = true := by kernel_rfl
theorem closedBigIntToInt : joinedFacts Try.prog 7 Try.f7 Rows.fnExactBigIntToIntSpec Rows.fnExactBigIntToIntRow = true :=
  joined_of (by kernel_rfl) laidOut mapsRowed_yes (by kernel_rfl) (by kernel_rfl) (by kernel_rfl) stops_none (by kernel_rfl) knobs_none inPlaceBigIntToInt unfollowedBigIntToInt recursesBigIntToInt namedBigIntToInt
    (by kernel_rfl) (by kernel_rfl) (by kernel_rfl) (by kernel_rfl) (by kernel_rfl) (by kernel_rfl) (by kernel_rfl) (by kernel_rfl) (by kernel_rfl) plainKeys_yes (by kernel_rfl) (by kernel_rfl) stopsHeard_yes mayEnter_yes liftsFinal_no (by kernel_rfl) make_cut (by kernel_rfl)
    (by kernel_rfl) (by kernel_rfl) (by kernel_rfl) (by kernel_rfl) (by kernel_rfl)

/-- The statement. -/
theorem fnExactBigIntToInt_holds : Rows.FnExactBigIntToIntSaid :=
  OpenClaim.holds_of_wide 7 Try.f7 rfl rfl rfl rfl rfl rfl rfl ⟨rfl, rfl, rfl, rfl, rfl⟩ rfl rfl rfl rfl rfl (by kernel_rfl) Try.func7 closedBigIntToInt
    (of_decide_eq_true (by kernel_rfl)) (by unfold Func.isWrapper; first | (rw [if_pos (by decide +kernel)]; kernel_rfl) | (rw [if_neg (by decide +kernel)]; exact ⟨rfl, rfl⟩))
    (fun os started H enc _ => liftedBigIntToInt os started H enc)
end Go.Proofs.Ytemjhmmbbjppkaa
