import Derived.Test.YtkoebpoejafgnaaArgs
import Derived.Deep.DeepCutAuto
import Derived.Deep.RegionHeld3
import Derived.Deep.DrawnRows
import Derived.Test.YtkoebpoejafgnaaBoxes
import Derived.Test.YtkoebpoejafgnaaLawStrs
import Derived.Test.YtkoebpoejafgnaaJoin
/-
  The law FnExactJoin: the program's function and the reference's return the same, the arguments are left as they were, and the result is memory of its own.
-/
namespace Go.Proofs.Ytkoebpoejafgnaa
set_option linter.unusedVariables false
open Go.ChangeShapes Go.WideShapes Go.ChangeAt Go.RowKit
open Go.ChangeMaps (open_string shut_string)
attribute [local go_sem ↓] Go.wp_at_zero Go.wp_at_succ
set_option maxRecDepth 100000 in
set_option maxHeartbeats 1000000 in
theorem walkJoin (A0_0 : Option Addr) (n0_0 c0_0 : Nat) (f0_0 : Nat → ByteArray) (s1_0 : ByteArray) (w : World) (h0_0 : SRd w A0_0 n0_0 c0_0 f0_0) (gz0_0 : ∀ j, j < n0_0 → (f0_0 j).size ≤ maxLen) (gm0_0 : n0_0 ≤ 9223372036854775807) (b1_0 : s1_0.size ≤ maxLen) :
    Calls Try.prog 4 #[.slice A0_0 n0_0 c0_0, .string s1_0] w fun e w' => e = .returned (.bool true) ∧ Old w w' := by
  by_cases hn1_0 : s1_0.size ≤ 1048576
  · skip
    have O := Old.refl w
    go_enter Try.func4, Try.ntmps4
    by_cases hs0 : (n0_0 : Int) + (tot f0_0 n0_0 : Int) ≤ 1048576
    case neg =>
      have HZ : Hid (szS f0_0 n0_0 1048576 = -1) := Lib.hid (by unfold szS; rw [if_neg hs0])
      clear hs0
      go_wp2_with fail
      refine (szStringS_any A0_0 n0_0 c0_0 f0_0 _ _ h0_0 gz0_0 gm0_0 (by omega) (by omega)).mono ?_
      rintro e w1 ⟨he, o1⟩
      rw [HZ.out] at he
      subst he
      go_wp2
      go_ret
      exact ⟨rfl, o1⟩
    have HZ : Hid (szS f0_0 n0_0 1048576 = 1048576 - n0_0 - (tot f0_0 n0_0 : Int)) := Lib.hid (by unfold szS; rw [if_pos hs0])
    have hn0_0 : n0_0 ≤ 1048576 := by omega
    have ht0_0 : n0_0 + tot f0_0 n0_0 ≤ 1048576 := by omega
    have hl0 : ¬ 1048576 - (n0_0 : Int) - (tot f0_0 n0_0 : Int) < 0 := by omega
    clear hs0
    go_wp2_with fail
    refine (szStringS_any A0_0 n0_0 c0_0 f0_0 _ _ h0_0 gz0_0 gm0_0 (by omega) (by omega)).mono ?_
    rintro e w1 ⟨he, o1⟩
    rw [HZ.out] at he
    subst he
    clear HZ
    replace O := Old.trans O o1
    have z1 := o1.size
    clear o1
    go_wp2_with fail
    refine (toStringS_ex _ _ _ _ _ (h0_0.below (B := w.heap.size) (Below.trans (b := w1) O oldA) (Nat.le_refl _)) hn0_0).mono ?_
    rintro e w2 ⟨A_t1_0, rfl, R_t1_0, o2⟩
    replace O := Old.trans O o2
    have z2 := o2.size
    clear o2
    have lim_t1_0 := R_t1_0.lim
    have low_t1_0 := Low.mono (lo' := w1.heap.size + 0) R_t1_0.low (by first | exact Nat.le_refl _ | (simp <;> omega))
    go_wp2_with fail
    refine (spec_Join s1_0 _ _ _ _ _ _ hn1_0 R_t1_0 ht0_0).mono ?_
    rintro e w3 ⟨rfl, o3⟩
    clear R_t1_0 lim_t1_0 low_t1_0
    replace O := Old.trans O o3
    have z3 := o3.size
    clear o3
    go_wp2_with fail
    refine (toStringS_ex _ _ _ _ _ (h0_0.below (B := w.heap.size) (Below.trans (b := w3) O oldA) (Nat.le_refl _)) hn0_0).mono ?_
    rintro e w4 ⟨A_t2_0, rfl, R_t2_0, o4⟩
    replace O := Old.trans O o4
    have z4 := o4.size
    clear o4
    have lim_t2_0 := R_t2_0.lim
    have low_t2_0 := Low.mono (lo' := w3.heap.size + 0) R_t2_0.low (by first | exact Nat.le_refl _ | (simp <;> omega))
    go_wp2_with fail
    refine (impl_Join s1_0 _ _ _ _ _ _ hn1_0 R_t2_0 ht0_0).mono ?_
    rintro e w5 ⟨rfl, o5⟩
    replace R_t2_0 := SRow.below R_t2_0 o5 (Nat.le_refl _)
    replace O := Old.trans O o5
    have z5 := o5.size
    clear o5
    go_wp2_with fail
    refine (toStringS_ex _ _ _ _ _ (h0_0.below (B := w.heap.size) (Below.trans (b := w5) O oldA) (Nat.le_refl _)) hn0_0).mono ?_
    rintro e w6 ⟨A_t3_0, rfl, R_t3_0, o6⟩
    replace R_t2_0 := SRow.below R_t2_0 o6 (Nat.le_refl _)
    replace O := Old.trans O o6
    have z6 := o6.size
    clear o6
    have lim_t3_0 := R_t3_0.lim
    have low_t3_0 := Low.mono (lo' := w5.heap.size + 0) R_t3_0.low (by first | exact Nat.le_refl _ | (simp <;> omega))
    go_wp2_with fail
    refine (eqStringS_yes _ _ _ _ _ _ _ _ _ _ R_t2_0 R_t3_0 (fun _ _ => rfl) (by omega)).mono ?_
    rintro e w7 ⟨rfl, o7⟩
    clear R_t3_0 lim_t3_0 low_t3_0
    replace R_t2_0 := SRow.below R_t2_0 o7 (Nat.le_refl _)
    replace O := Old.trans O o7
    have z7 := o7.size
    clear o7
    go_wp2
    go_ret
    exact ⟨rfl, O⟩
  · go_enter Try.func4, Try.ntmps4
    go_wp2
    go_ret
    exact ⟨rfl, oldA⟩

set_option maxRecDepth 100000 in
theorem liftedJoin (os : Os) (started : os.Started) (H : Type) (enc : TypeId × Value → H) :
    ReturnsInHanded {} Try.checked os 4 .any (Rows.fnExactJoinSpec.pre6 enc Try.prog Try.f4 Rows.fnExactJoinRow.domain false) (Rows.fnExactJoinSpec.post enc Try.prog Try.f4 false true false false) := by
  refine returnsInHanded_of_change (C := Try.checked) ownKnob_none started (by kernel_rfl) Try.func4
    (ChangeSpec.witness6 (enc := enc) (C := Try.checked) false ⟨#[], #[.slice none 0 0, .string ByteArray.empty], []⟩ 8 (by kernel_rfl) (by kernel_rfl) (by kernel_rfl) (by kernel_rfl)) ?_
  intro W base args ds gs before hval0 hW hcnd _
  have hval : ∀ (j : Nat) t v, Try.f4.params[j]? = some t → args[j]? = some v → Value.okWide Try.prog W .any base t v := hval0
  have hW' := hW
  obtain ⟨p, q, hA0, hV, rfl, hfz, hnd⟩ := hW
  have hA : DataW.TrodAll enc Try.prog W 0 (fun _ => true) true Try.f4.params.toList args.toList ds p := hA0
  rw [Try.params4] at hA hval
  obtain ⟨v0, vs0, d0, ds0, p0, q0, hargs, rfl, rfl, h0, r0⟩ := trodAll_cons hA
  obtain ⟨v1, vs1, d1, ds1, p1, q1, rfl, rfl, rfl, h1, r1⟩ := trodAll_cons r0
  obtain ⟨rfl, rfl, rfl⟩ := trodAll_nil r1
  obtain rfl : args = #[v0, v1] := by cases args; simp_all
  obtain ⟨rfl, rfl⟩ := trodVars_none hV
  obtain ⟨A0, n0, c0, rfl⟩ := okWide_slice Try.underlying22 (hval 0 22 v0 rfl rfl)
  have k0 := h0
  have lt0 : ∀ x ∈ p0, x.block < W.heap.size := by obtain ⟨m, hm⟩ := k0; exact DataW.trod_lt m _ _ _ hm
  obtain ⟨f0, g0, gz0, gm0⟩ := open_srd h0
  obtain ⟨s1, rfl, rfl, rfl, g1⟩ := open_string Try.underlying9 (hval 1 9 v1 rfl rfl) h1
  clear hA0 hval0
  refine (walkJoin A0 n0 c0 f0 s1 W g0 gz0 gm0 g1).mono fun e W' ⟨he, bel⟩ => ?_
  subst he
  exact ⟨_, rfl, _, _, _, [], _, [], hW', trodAll_mk1 (shut_bool Try.underlying4 _), (trodAll_cons_mk (Below.trod laidOut (by kernel_rfl) (of_decide_eq_true (by kernel_rfl)) k0 bel lt0) (trodAll_cons_mk (shut_string Try.underlying9 g1) trodAll_mk0)), rfl, bel.frame _, fun h => by cases h⟩

theorem inPlaceJoin : (Rows.fnExactJoinRow.inPlace == Try.prog.inPlace 4) = true := by kernel_rfl
theorem unfollowedJoin : (Rows.fnExactJoinRow.unfollowed == Try.prog.unfollowed 4) = true := by kernel_rfl
theorem recursesJoin : (Rows.fnExactJoinRow.recurses == Try.prog.recurses 4) = true := by kernel_rfl
theorem namedJoin : (Rows.fnExactJoinRow.named == Try.prog.varsNamed 4) = true := by kernel_rfl
theorem closedJoin : joinedFacts Try.prog 4 Try.f4 Rows.fnExactJoinSpec Rows.fnExactJoinRow = true :=
  joined_of (by kernel_rfl) laidOut mapsRowed_yes (by kernel_rfl) (by kernel_rfl) (by kernel_rfl) stops_none (by kernel_rfl) knobs_none inPlaceJoin unfollowedJoin recursesJoin namedJoin
    (by kernel_rfl) (by kernel_rfl) (by kernel_rfl) (by kernel_rfl) (by kernel_rfl) (by kernel_rfl) (by kernel_rfl) (by kernel_rfl) (by kernel_rfl) plainKeys_yes (by kernel_rfl) (by kernel_rfl) stopsHeard_yes mayEnter_yes liftsFinal_no (by kernel_rfl) make_cut (by kernel_rfl)
    (by kernel_rfl) (by kernel_rfl) (by kernel_rfl) (by kernel_rfl) (by kernel_rfl)

/-- The statement. -/
theorem fnExactJoin_holds : Rows.FnExactJoinSaid :=
  OpenClaim.holds_of_wide 4 Try.f4 rfl rfl rfl rfl rfl rfl rfl ⟨rfl, rfl, rfl, rfl, rfl⟩ rfl rfl rfl rfl rfl (by kernel_rfl) Try.func4 closedJoin
    (of_decide_eq_true (by kernel_rfl)) (by unfold Func.isWrapper; first | (rw [if_pos (by decide +kernel)]; kernel_rfl) | (rw [if_neg (by decide +kernel)]; exact ⟨rfl, rfl⟩))
    (fun os started H enc _ => liftedJoin os started H enc)
end Go.Proofs.Ytkoebpoejafgnaa
