import Derived.Test.YtgchbbjhdeobpaaGreatDoorBig
import Derived.Deep.RegionWith
import Derived.Deep.DeepCutAuto
/-
  The negative of a big integer: both BigIntNeg's.
-/
namespace Go.Proofs.YtgchbbjhdeobpaaGreatDoor
set_option linter.unusedVariables false
open Go.RowKit Num

theorem signed_not (b : Bool) (x : Nat) : signed (!b) x = -signed b x := by cases b <;> simp [signed]
open Classical in
noncomputable def zBigIntNeg (b : Bool) (n : Nat) (f : Nat → Int) : Int := if okB b n f then -bigX b n f else 0
theorem zBigIntNeg_yes {b : Bool} {n : Nat} {f : Nat → Int} (h : okB b n f) : zBigIntNeg b n f = signed (!b) (natX n f) := by
  rw [zBigIntNeg, if_pos h, signed_not]; rfl
theorem zBigIntNeg_no {b : Bool} {n : Nat} {f : Nat → Int} (h : ¬ okB b n f) : zBigIntNeg b n f = 0 := if_neg h
theorem zBigIntNeg_len (b : Bool) (n : Nat) (f : Nat → Int) : len (magZ (zBigIntNeg b n f)) ≤ 60 := by
  by_cases h : okB b n f
  · rw [zBigIntNeg_yes h, mag_signed]; exact natX_len h.1
  · rw [zBigIntNeg_no h]
    have : len (magZ 0) = 0 := len_zero
    omega
theorem capN_self {x : Nat} (h : len x ≤ 60) : capN x = x := if_pos h
set_option maxRecDepth 100000 in
set_option maxHeartbeats 1000000 in
theorem ownBig_any (b : Bool) (A : Option Addr) (c x lo : Nat) (w : World) (h : NatS w lo A c x) (hb : b = true → 0 < x) (hx : len x ≤ 2000) :
    Calls Tryz.prog 102 #[.agg #[.bool b, .slice A (len x) c]] w fun e w' => RetB e w' w.heap.size (capZ (signed b x)) ∧ Old w w' := by
  rw [capZ_signed]
  have hs : Row w lo A (len x) c (digI x) := h
  have Hb : Hid ((b && decide (0 < x)) = b) := Lib.hid (by cases b <;> simp_all)
  clear h hb
  by_cases h60 : len x ≤ 60
  · have e : Hid (capN x = x) := Lib.hid (by rw [capN, if_pos h60])
    rw [e.out]
    have hn : len x ≤ 1048576 := by omega
    go_enter Tryz.func102, Tryz.ntmps102
    have B1 : Bx ((w.alloc (.cells #[.bool b, .slice A (len x) c] 24)).alloc (.cells #[.bool false, .slice none 0 0] 24)) w.heap.size #[.bool b, .slice A (len x) c] := Bx.alloc (Bx.new _ _ _) _
    have B2 : Bx ((w.alloc (.cells #[.bool b, .slice A (len x) c] 24)).alloc (.cells #[.bool false, .slice none 0 0] 24)) (w.heap.size + 1) #[.bool false, .slice none 0 0] := by have h := Bx.new (w.alloc (.cells #[.bool b, .slice A (len x) c] 24)) #[.bool false, .slice none 0 0] 24; simpa using h
    go_upto_region 3 with fail
    go_region_with (go_at_call 77; refine (clone_any A (len x) c lo (digI x) _ (hs.below (B := w.heap.size) oldA (Nat.le_refl _)) hn).mono ?_; rintro e w2 ⟨A2, c2, rfl, r2, o2⟩; have o2' : Old ((w.alloc (.cells #[.bool b, .slice A (len x) c] 24)).alloc (.cells #[.bool false, .slice none 0 0] 24)) w2 := Below.trans (b := _) oldA o2; have z2 := o2'.size; simp at z2; have C1 := Bx.old B1 o2'; have C2 := Bx.old B2 o2'; have q10 := C1.cell 0 rfl; have q11 := C1.cell 1 rfl; have q1 := C1.lt; have q20 := C2.cell 0 rfl; have q21 := C2.cell 1 rfl; have f20 := C2.frozen 0; have f21 := C2.frozen 1; have q2 := C2.lt)
    all_goals
      go_wp2
      have o3 : Old w w2 := Below.trans (b := _) oldA (Below.mono o2' (by simp <;> omega))
      have r2' : Row w2 (w.heap.size + 1 + 1) A2 (len x) c2 (digI x) := by simpa using r2
      refine bodyPost_ret (v := .agg #[.bool b, .slice A2 (len x) c2]) (by simp [results, Tryz.results102, go_sem, q20, q21]) rfl ⟨RetB.mk' (A := A2) (c := c2) (x := x) (b := b) (by rw [Hb.out]) ?_ rfl, ?_⟩
      · refine Row.more (lo := w.heap.size + 1 + 1) ?_ (by omega)
        repeat' (first | exact r2' | refine Row.far_set ?_ (by simp) _)
      · exact oldA
  · have e : Hid (capN x = 0) := Lib.hid (by rw [capN, if_neg h60])
    rw [e.out]
    go_enter Tryz.func102, Tryz.ntmps102
    go_wp2
    refine bodyPost_ret (v := .agg #[.bool false, .slice none 0 0]) (by simp [results, Tryz.results102, go_sem]) rfl ⟨?_, oldA⟩
    have h0 : signed b 0 = 0 := by cases b <;> rfl
    rw [h0]
    exact RetB.zero rfl
theorem signed_pos (b : Bool) {x n : Nat} (h : 0 < n ↔ 0 < x) : signed b x = signed (b && decide (0 < n)) x := by
  by_cases h0 : 0 < n
  · simp [h0]
  · have : x = 0 := by have := fun h' => h0 (h.2 h'); omega
    subst this
    cases b <;> simp [signed, h0]
set_option maxRecDepth 100000 in
set_option maxHeartbeats 1000000 in
theorem bigNeg_any (b : Bool) (A : Option Addr) (n c : Nat) (w : World) :
    Calls Tryz.prog 98 #[.agg #[.bool b, .slice A n c]] w fun e w' => e = .returned (.agg #[.bool (!b && decide (0 < n)), .slice A n c]) ∧ Old w w' := by
  go_enter Tryz.func98, Tryz.ntmps98
  go_wp2_with fail
  refine (bigMake_any (!b) A n c _).mono ?_
  rintro e w1 ⟨rfl, o1⟩
  have B2 : Bx w1 (w.heap.size + 1) #[.bool false, .slice none 0 0] := by have h := Bx.old (Bx.new _ _ _) o1; simpa using h
  have o1' : Old w w1 := Below.trans (b := _) oldA (Below.mono o1 (by simp <;> omega))
  clear o1
  have q20 := B2.cell 0 rfl
  have q21 := B2.cell 1 rfl
  have f20 := B2.frozen 0
  have f21 := B2.frozen 1
  have q2 := B2.lt
  go_wp2
  exact bodyPost_ret (v := .agg #[.bool (!b && decide (0 < n)), .slice A n c]) (by simp [results, Tryz.results98, go_sem, q20, q21]) rfl ⟨rfl, oldA⟩
end Go.Proofs.YtgchbbjhdeobpaaGreatDoor
