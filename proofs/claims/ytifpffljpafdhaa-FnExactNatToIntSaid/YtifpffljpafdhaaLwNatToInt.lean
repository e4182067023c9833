/-
  The law FnExactNatToInt: the program's function and the reference's return the same, the arguments are left as they were, and the result is memory of its own.
-/
import Derived.Test.YtifpffljpafdhaaArgs
import Derived.Test.YtifpffljpafdhaaNatInt
namespace Go.Proofs.Ytifpffljpafdhaa
set_option linter.unusedVariables false
open Go.ChangeShapes Go.WideShapes Go.ChangeAt Go.RowKit
open Go.ChangeMaps (open_string shut_string)
set_option maxRecDepth 100000 in
set_option maxHeartbeats 1000000 in
theorem walkNatToInt (A0 : Option Addr) (n0 c0 : Nat) (f0 : Nat → Int) (w : World) (h0 : Rd w A0 n0 c0 f0) :
    Calls Try.prog 11 #[.slice A0 n0 c0] w fun e w' => e = .returned (.bool true) ∧ Old w w' := by
  by_cases hn0 : n0 ≤ 1048576
  · skip
    have O := Old.refl w
    go_enter Try.func11, Try.ntmps11
    go_wp2_with fail
    refine (toIntS_any A0 n0 c0 f0 _ (h0.below O (Nat.le_refl _)) hn0).mono ?_
    rintro e w1 ⟨rfl, R_t1, o1⟩
    replace O := Old.trans O o1
    have z1 := o1.size
    clear o1
    have lim_t1 := R_t1.lim
    have low_t1 := R_t1.low
    go_wp2_with fail
    refine (spec_NatToInt _ _ _ _ _ _ R_t1 hn0).mono ?_
    rintro e w2 ⟨rfl, o2⟩
    clear R_t1 lim_t1 low_t1
    replace O := Old.trans O o2
    have z2 := o2.size
    clear o2
    go_wp2_with fail
    refine (toIntS_any A0 n0 c0 f0 _ (h0.below O (Nat.le_refl _)) hn0).mono ?_
    rintro e w3 ⟨rfl, R_t2, o3⟩
    replace O := Old.trans O o3
    have z3 := o3.size
    clear o3
    have lim_t2 := R_t2.lim
    have low_t2 := R_t2.low
    go_wp2_with fail
    refine (impl_NatToInt _ _ _ _ _ _ R_t2 hn0).mono ?_
    rintro e w4 ⟨rfl, o4⟩
    replace R_t2 := Row.below R_t2 o4 (Nat.le_refl _)
    replace O := Old.trans O o4
    have z4 := o4.size
    clear o4
    go_wp2_with fail
    refine (toIntS_any A0 n0 c0 f0 _ (h0.below O (Nat.le_refl _)) hn0).mono ?_
    rintro e w5 ⟨rfl, R_t3, o5⟩
    replace R_t2 := Row.below R_t2 o5 (Nat.le_refl _)
    replace O := Old.trans O o5
    have z5 := o5.size
    clear o5
    have lim_t3 := R_t3.lim
    have low_t3 := R_t3.low
    go_wp2_with fail
    refine (eqIntS_yes _ _ _ _ _ _ _ _ _ _ R_t2 R_t3 (fun _ _ => rfl) hn0).mono ?_
    rintro e w6 ⟨rfl, o6⟩
    clear R_t3 lim_t3 low_t3
    replace R_t2 := Row.below R_t2 o6 (Nat.le_refl _)
    replace O := Old.trans O o6
    have z6 := o6.size
    clear o6
    go_wp2
    go_ret
    exact ⟨rfl, O⟩
  · go_enter Try.func11, Try.ntmps11
    go_wp2
    go_ret
    exact ⟨rfl, Old.refl w⟩

set_option maxRecDepth 100000 in
theorem liftedNatToInt (os : Os) (started : os.Started) (H : Type) (enc : TypeId × Value → H) :
    ReturnsInHanded {} Try.checked os 11 .any (Rows.fnExactNatToIntSpec.pre6 enc Try.prog Try.f11 Rows.fnExactNatToIntRow.domain false) (Rows.fnExactNatToIntSpec.post enc Try.prog Try.f11 false true false false) := by
  refine returnsInHanded_of_change (C := Try.checked) ownKnob_none started (by kernel_rfl) Try.func11
    (ChangeSpec.witness6 (enc := enc) (C := Try.checked) false ⟨#[], #[.slice none 0 0], []⟩ 8 (by kernel_rfl) (by kernel_rfl) (by kernel_rfl) (by kernel_rfl)) ?_
  intro W base args ds gs before hval0 hW hcnd _
  have hval : ∀ (j : Nat) t v, Try.f11.params[j]? = some t → args[j]? = some v → Value.okWide Try.prog W .any base t v := hval0
  have hW' := hW
  obtain ⟨p, q, hA0, hV, rfl, hfz, hnd⟩ := hW
  have hA : DataW.TrodAll enc Try.prog W 0 (fun _ => true) true Try.f11.params.toList args.toList ds p := hA0
  rw [Try.params11] at hA hval
  obtain ⟨v0, vs0, d0, ds0, p0, q0, hargs, rfl, rfl, h0, r0⟩ := trodAll_cons hA
  obtain ⟨rfl, rfl, rfl⟩ := trodAll_nil r0
  obtain rfl : args = #[v0] := by cases args; simp_all
  obtain ⟨rfl, rfl⟩ := trodVars_none hV
  obtain ⟨A0, n0, c0, rfl⟩ := okWide_slice Try.underlying30 (hval 0 30 v0 rfl rfl)
  have k0 := h0
  have lt0 : ∀ x ∈ p0, x.block < W.heap.size := by obtain ⟨m, hm⟩ := k0; exact DataW.trod_lt m _ _ _ hm
  obtain ⟨f0, g0⟩ := open_rd h0
  clear hA0 hval0
  refine (walkNatToInt A0 n0 c0 f0 W g0).mono fun e W' ⟨he, bel⟩ => ?_
  subst he
  exact ⟨_, rfl, _, _, _, [], _, [], hW', trodAll_mk1 (shut_bool Try.underlying4 _), (trodAll_cons_mk (Below.trod laidOut (by kernel_rfl) (of_decide_eq_true (by kernel_rfl)) k0 bel lt0) trodAll_mk0), rfl, bel.frame _, fun h => by cases h⟩

theorem inPlaceNatToInt : (Rows.fnExactNatToIntRow.inPlace == Try.prog.inPlace 11) = true := by kernel_rfl
theorem unfollowedNatToInt : (Rows.fnExactNatToIntRow.unfollowed == Try.prog.unfollowed 11) = true := by kernel_rfl
theorem recursesNatToInt : (Rows.fnExactNatToIntRow.recurses == Try.prog.recurses 11) = true := by kernel_rfl
theorem namedNatToInt : (Rows.fnExactNatToIntRow.named == Try.prog.varsNamed 11) = true := by kernel_rfl
theorem closedNatToInt : joinedFacts Try.prog 11 Try.f11 Rows.fnExactNatToIntSpec Rows.fnExactNatToIntRow = true :=
  joined_of (by kernel_rfl) laidOut mapsRowed_yes (by kernel_rfl) (by kernel_rfl) (by kernel_rfl) stops_none (by kernel_rfl) knobs_none inPlaceNatToInt unfollowedNatToInt recursesNatToInt namedNatToInt
    (by kernel_rfl) (by kernel_rfl) (by kernel_rfl) (by kernel_rfl) (by kernel_rfl) (by kernel_rfl) (by kernel_rfl) (by kernel_rfl) (by kernel_rfl) plainKeys_yes (by kernel_rfl) (by kernel_rfl) stopsHeard_yes mayEnter_yes liftsFinal_no (by kernel_rfl) make_cut (by kernel_rfl)
    (by kernel_rfl) (by kernel_rfl) (by kernel_rfl) (by kernel_rfl) (by kernel_rfl)

/-- The statement. -/
theorem fnExactNatToInt_holds : Rows.FnExactNatToIntSaid :=
  OpenClaim.holds_of_wide 11 Try.f11 rfl rfl rfl rfl rfl rfl rfl ⟨rfl, rfl, rfl, rfl, rfl⟩ rfl rfl rfl rfl rfl (by kernel_rfl) Try.func11 closedNatToInt
    (of_decide_eq_true (by kernel_rfl)) (by unfold Func.isWrapper; first | (rw [if_pos (by decide +kernel)]; kernel_rfl) | (rw [if_neg (by decide +kernel)]; exact ⟨rfl, rfl⟩))
    (fun os started H enc _ => liftedNatToInt os started H enc)
end Go.Proofs.Ytifpffljpafdhaa
