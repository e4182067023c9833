import Derived.Test.YtgchbbjhdeobpaaGreatDoorClone
import Derived.Test.YtgchbbjhdeobpaaGreatDoorNatA
import Derived.Test.YtgchbbjhdeobpaaGreatDoorArgs
/-
  Big integers: their values, both BigIntOk's, making one with a sign.
-/
namespace Go.Proofs.YtgchbbjhdeobpaaGreatDoor
set_option linter.unusedVariables false
open Go.RowKit Num

theorem len_pos_iff' {x : Nat} : 0 < len x ↔ 0 < x := by rw [lt_len_iff, Nat.pow_zero]; exact Iff.rfl
def signed (b : Bool) (x : Nat) : Int := if b then -(x : Int) else x
def sgnZ (z : Int) : Bool := decide (z < 0)
def magZ (z : Int) : Nat := z.natAbs
theorem mag_signed (b : Bool) (x : Nat) : magZ (signed b x) = x := by unfold magZ signed; split <;> omega
theorem sgn_signed (b : Bool) (x : Nat) : sgnZ (signed b x) = (b && decide (0 < x)) := by
  unfold sgnZ signed
  cases b <;> simp <;> omega
def capZ (z : Int) : Int := if len (magZ z) ≤ 60 then z else 0
theorem capZ_len (z : Int) : len (magZ (capZ z)) ≤ 60 := by
  unfold capZ; split
  · assumption
  · have : len (magZ 0) = 0 := len_zero
    omega
theorem capZ_signed (b : Bool) (x : Nat) : capZ (signed b x) = signed b (capN x) := by
  unfold capZ capN
  rw [mag_signed]
  split
  · rfl
  · cases b <;> rfl
def okB (b : Bool) (n : Nat) (f : Nat → Int) : Prop := okP n f ∧ (b = true → 0 < n)
/-- The number that a valid big integer stands for. -/
noncomputable def bigX (b : Bool) (n : Nat) (f : Nat → Int) : Int := signed b (natX n f)
theorem bigX_len {b : Bool} {n : Nat} {f : Nat → Int} (h : okB b n f) : len (magZ (bigX b n f)) ≤ 60 := by
  rw [bigX, mag_signed]; exact natX_len h.1
open Classical in
noncomputable def rBigIntOk (b : Bool) (n : Nat) (f : Nat → Int) : Bool := decide (okB b n f)
theorem rBigIntOk_yes {b : Bool} {n : Nat} {f : Nat → Int} (h : okB b n f) : rBigIntOk b n f = true := by simp [rBigIntOk, h]
theorem rBigIntOk_no {b : Bool} {n : Nat} {f : Nat → Int} (h : ¬ okB b n f) : rBigIntOk b n f = false := by simp [rBigIntOk, h]
/-- The call returned the number z, as memory that is not older than lo. -/
def RetB (e : Ending) (w : World) (lo : Nat) (z : Int) : Prop := ∃ A c, e = .returned (.agg #[.bool (sgnZ z), .slice A (len (magZ z)) c]) ∧ NatS w lo A c (magZ z)
theorem RetB.mk' {e : Ending} {w : World} {lo : Nat} {z : Int} {b : Bool} {x : Nat} {A : Option Addr} {c : Nat} (h : e = .returned (.agg #[.bool (b && decide (0 < x)), .slice A (len x) c])) (r : NatS w lo A c x) (hz : z = signed b x) : RetB e w lo z := by
  subst hz
  refine ⟨A, c, ?_, ?_⟩
  · rw [sgn_signed, mag_signed]; exact h
  · rw [mag_signed]; exact r
theorem RetB.zero {e : Ending} {w : World} {lo c : Nat} (h : e = .returned (.agg #[.bool false, .slice none 0 c])) : RetB e w lo 0 :=
  RetB.mk' (b := false) (x := 0) (A := none) (c := c) (by rw [h, len_zero]; rfl) (NatS.zero _ _ _ _) rfl

set_option maxRecDepth 100000 in
set_option maxHeartbeats 1000000 in
theorem spec_BigIntOk (b : Bool) (A : Option Addr) (n c lo : Nat) (f : Nat → Int) (w : World) (h : Row w lo A n c f) (hn : n ≤ 1048576) :
    Calls Tryz.prog 79 #[.agg #[.bool b, .slice A n c]] w fun e w' => e = .returned (.bool (rBigIntOk b n f)) ∧ Old w w' := by
  by_cases k : okP n f
  · by_cases hp : 0 < n
    · have Hr := Lib.hid (rBigIntOk_yes (b := b) ⟨k, fun _ => hp⟩)
      cases b <;>
      · go_enter Tryz.func79, Tryz.ntmps79
        go_wp2_with fail
        refine (specNatOk_yes A n c f _ _ (h.below (B := w.heap.size) oldA (Nat.le_refl _)) k).mono ?_
        rintro e w' ⟨rfl, rfl⟩
        go_wp2
        go_ret
        exact ⟨by rw [Hr.out]; try rfl, oldA⟩
    · obtain rfl : n = 0 := by omega
      cases b with
      | false =>
        have Hr := Lib.hid (rBigIntOk_yes (b := false) (f := f) ⟨k, fun h => by cases h⟩)
        go_enter Tryz.func79, Tryz.ntmps79
        go_wp2_with fail
        refine (specNatOk_yes A 0 c f _ _ (h.below (B := w.heap.size) oldA (Nat.le_refl _)) k).mono ?_
        rintro e w' ⟨rfl, rfl⟩
        go_wp2
        go_ret
        exact ⟨by rw [Hr.out]; try rfl, oldA⟩
      | true =>
        have Hr := Lib.hid (rBigIntOk_no (b := true) (n := 0) (f := f) fun h => by have := h.2 rfl; omega)
        go_enter Tryz.func79, Tryz.ntmps79
        go_wp2_with fail
        refine (specNatOk_yes A 0 c f _ _ (h.below (B := w.heap.size) oldA (Nat.le_refl _)) k).mono ?_
        rintro e w' ⟨rfl, rfl⟩
        go_wp2
        go_ret
        exact ⟨by rw [Hr.out]; try rfl, oldA⟩
  · have Hr := Lib.hid (rBigIntOk_no (b := b) fun h => k h.1)
    go_enter Tryz.func79, Tryz.ntmps79
    go_wp2_with fail
    refine (specNatOk_no A n c f _ _ (h.below (B := w.heap.size) oldA (Nat.le_refl _)) k hn).mono ?_
    rintro e w' ⟨rfl, rfl⟩
    go_wp2
    go_ret
    exact ⟨by rw [Hr.out]; try rfl, oldA⟩
set_option maxRecDepth 100000 in
set_option maxHeartbeats 1000000 in
theorem impl_BigIntOk (b : Bool) (A : Option Addr) (n c lo : Nat) (f : Nat → Int) (w : World) (h : Row w lo A n c f) (hn : n ≤ 1048576) :
    Calls Tryz.prog 57 #[.agg #[.bool b, .slice A n c]] w fun e w' => e = .returned (.bool (rBigIntOk b n f)) ∧ Old w w' := by
  by_cases k : okP n f
  · by_cases hp : 0 < n
    · have Hr := Lib.hid (rBigIntOk_yes (b := b) ⟨k, fun _ => hp⟩)
      have hq : ((n : Int) == 0) = false := by simp; omega
      cases b <;>
      · go_enter Tryz.func57, Tryz.ntmps57
        go_wp2_with fail
        refine (natOk_yes A n c f _ _ (h.below (B := w.heap.size) oldA (Nat.le_refl _)) k).mono ?_
        rintro e w' ⟨rfl, rfl⟩
        go_wp2
        go_ret
        exact ⟨by rw [Hr.out]; try rfl, oldA⟩
    · obtain rfl : n = 0 := by omega
      cases b with
      | false =>
        have Hr := Lib.hid (rBigIntOk_yes (b := false) (f := f) ⟨k, fun h => by cases h⟩)
        go_enter Tryz.func57, Tryz.ntmps57
        go_wp2_with fail
        refine (natOk_yes A 0 c f _ _ (h.below (B := w.heap.size) oldA (Nat.le_refl _)) k).mono ?_
        rintro e w' ⟨rfl, rfl⟩
        go_wp2
        go_ret
        exact ⟨by rw [Hr.out]; try rfl, oldA⟩
      | true =>
        have Hr := Lib.hid (rBigIntOk_no (b := true) (n := 0) (f := f) fun h => by have := h.2 rfl; omega)
        go_enter Tryz.func57, Tryz.ntmps57
        go_wp2_with fail
        refine (natOk_yes A 0 c f _ _ (h.below (B := w.heap.size) oldA (Nat.le_refl _)) k).mono ?_
        rintro e w' ⟨rfl, rfl⟩
        go_wp2
        go_ret
        exact ⟨by rw [Hr.out]; try rfl, oldA⟩
  · have Hr := Lib.hid (rBigIntOk_no (b := b) fun h => k h.1)
    go_enter Tryz.func57, Tryz.ntmps57
    go_wp2_with fail
    refine (natOk_no A n c f _ _ (h.below (B := w.heap.size) oldA (Nat.le_refl _)) k hn).mono ?_
    rintro e w' ⟨rfl, rfl⟩
    go_wp2
    go_ret
    exact ⟨by rw [Hr.out]; try rfl, oldA⟩
set_option maxRecDepth 100000 in
set_option maxHeartbeats 1000000 in
theorem bigMake_any (b : Bool) (A : Option Addr) (n c : Nat) (w : World) :
    Calls Tryz.prog 78 #[.bool b, .slice A n c] w fun e w' => e = .returned (.agg #[.bool (b && decide (0 < n)), .slice A n c]) ∧ Old w w' := by
  by_cases hp : 0 < n
  · have Hr := Lib.hid (show decide (0 < n) = true from decide_eq_true hp)
    rw [Hr.out]
    cases b <;>
    · go_enter Tryz.func78, Tryz.ntmps78
      go_wp2
      exact bodyPost_ret (v := .agg #[.bool _, .slice A n c]) (by simp [results, Tryz.results78, go_sem]; try rfl) rfl ⟨rfl, oldA⟩
  · obtain rfl : n = 0 := by omega
    cases b <;>
    · go_enter Tryz.func78, Tryz.ntmps78
      go_wp2
      exact bodyPost_ret (v := .agg #[.bool _, .slice A 0 c]) (by simp [results, Tryz.results78, go_sem]; try rfl) rfl ⟨rfl, oldA⟩
set_option maxRecDepth 100000 in
set_option maxHeartbeats 1000000 in
theorem l03Make_any (b : Bool) (A : Option Addr) (n c r lo : Nat) (w : World) (h : Row w lo A n c (digI r)) (hr : len r ≤ n) (hn : n ≤ 1000) :
    Calls Tryz.prog 120 #[.bool b, .slice A n c] w fun e w' => RetB e w' w.heap.size (signed b (capN r)) ∧ Old w w' := by
  go_enter Tryz.func120, Tryz.ntmps120
  go_wp2_with fail
  refine (l02Cap_any A n c r lo _ (h.below (B := w.heap.size) oldA (Nat.le_refl _)) hr hn).mono ?_
  rintro e w1 ⟨A1, c1, rfl, r1, o1⟩
  have H1 := Lib.hid (capN_len r)
  have b1 : Bx w1 w.heap.size #[.bool false, .slice none 0 0] := Bx.old (Bx.new _ _ _) o1
  have q1 := b1.lt
  have hz := o1.size
  simp at hz
  by_cases hp : 0 < len (capN r)
  · have Hx : Hid (decide (0 < capN r) = true) := Lib.hid (decide_eq_true (len_pos_iff'.1 hp))
    cases b with
    | true =>
      go_wp2_with (at_builtin; refine wpList_clone rfl (.tmp 14) (.tmp 15) rfl (base := w1.heap.size) (f := digI (capN r)) (lo := lo) rfl (fresh_own (Nat.le_refl _)) rfl (Row.below (B := w1.heap.size) r1 oldA (Nat.le_refl _)) (Nat.le_trans H1.out (by omega)) (by simp) ?_; intro A2 c2 w2 r2 o2; have o2' : Old w1 w2 := Below.trans (b := _) oldA o2; have b2 := Bx.old b1 o2'; have c20 := b2.cell 0 rfl; have c21 := b2.cell 1 rfl; have f20 := b2.frozen 0; have f21 := b2.frozen 1; have q2 := b2.lt)
      have hz2 := o2'.size
      have o3 : Old w w2 := Below.trans (b := _) (Below.trans (b := _) oldA (Below.mono o1 (by simp <;> omega))) (Below.mono o2' (by omega))
      refine bodyPost_ret (v := .agg #[.bool true, .slice A2 (len (capN r)) c2]) (by simp [results, Tryz.results120, go_sem, c20, c21]) rfl ⟨RetB.mk' (A := A2) (c := c2) (x := capN r) (b := true) (by rw [Hx.out]; rfl) (Row.more (lo := w1.heap.size) ?_ (by omega)) rfl, oldA⟩
      repeat' (first | exact r2 | refine Row.far_set ?_ (by simp; omega) _)
    | false =>
      go_wp2_with (at_builtin; refine wpList_clone rfl (.tmp 14) (.tmp 15) rfl (base := w1.heap.size) (f := digI (capN r)) (lo := lo) rfl (fresh_own (Nat.le_refl _)) rfl (Row.below (B := w1.heap.size) r1 oldA (Nat.le_refl _)) (Nat.le_trans H1.out (by omega)) (by simp) ?_; intro A2 c2 w2 r2 o2; have o2' : Old w1 w2 := Below.trans (b := _) oldA o2; have b2 := Bx.old b1 o2'; have c20 := b2.cell 0 rfl; have c21 := b2.cell 1 rfl; have f20 := b2.frozen 0; have f21 := b2.frozen 1; have q2 := b2.lt)
      have hz2 := o2'.size
      have o3 : Old w w2 := Below.trans (b := _) (Below.trans (b := _) oldA (Below.mono o1 (by simp <;> omega))) (Below.mono o2' (by omega))
      refine bodyPost_ret (v := .agg #[.bool false, .slice A2 (len (capN r)) c2]) (by simp [results, Tryz.results120, go_sem, c20, c21]) rfl ⟨RetB.mk' (A := A2) (c := c2) (x := capN r) (b := false) (by rw [Hx.out]; rfl) (Row.more (lo := w1.heap.size) ?_ (by omega)) rfl, oldA⟩
      repeat' (first | exact r2 | refine Row.far_set ?_ (by simp; omega) _)
  · have Hx : Hid (decide (0 < capN r) = false) := Lib.hid (decide_eq_false fun h => hp (len_pos_iff'.2 h))
    cases b with
    | true =>
      go_wp2_with (at_builtin; refine wpList_clone rfl (.tmp 14) (.tmp 15) rfl (base := w1.heap.size) (f := digI (capN r)) (lo := lo) rfl (fresh_own (Nat.le_refl _)) rfl (Row.below (B := w1.heap.size) r1 oldA (Nat.le_refl _)) (Nat.le_trans H1.out (by omega)) (by simp) ?_; intro A2 c2 w2 r2 o2; have o2' : Old w1 w2 := Below.trans (b := _) oldA o2; have b2 := Bx.old b1 o2'; have c20 := b2.cell 0 rfl; have c21 := b2.cell 1 rfl; have f20 := b2.frozen 0; have f21 := b2.frozen 1; have q2 := b2.lt)
      have hz2 := o2'.size
      have o3 : Old w w2 := Below.trans (b := _) (Below.trans (b := _) oldA (Below.mono o1 (by simp <;> omega))) (Below.mono o2' (by omega))
      refine bodyPost_ret (v := .agg #[.bool false, .slice A2 (len (capN r)) c2]) (by simp [results, Tryz.results120, go_sem, c20, c21]) rfl ⟨RetB.mk' (A := A2) (c := c2) (x := capN r) (b := true) (by rw [Hx.out]; rfl) (Row.more (lo := w1.heap.size) ?_ (by omega)) rfl, oldA⟩
      repeat' (first | exact r2 | refine Row.far_set ?_ (by simp; omega) _)
    | false =>
      go_wp2_with (at_builtin; refine wpList_clone rfl (.tmp 14) (.tmp 15) rfl (base := w1.heap.size) (f := digI (capN r)) (lo := lo) rfl (fresh_own (Nat.le_refl _)) rfl (Row.below (B := w1.heap.size) r1 oldA (Nat.le_refl _)) (Nat.le_trans H1.out (by omega)) (by simp) ?_; intro A2 c2 w2 r2 o2; have o2' : Old w1 w2 := Below.trans (b := _) oldA o2; have b2 := Bx.old b1 o2'; have c20 := b2.cell 0 rfl; have c21 := b2.cell 1 rfl; have f20 := b2.frozen 0; have f21 := b2.frozen 1; have q2 := b2.lt)
      have hz2 := o2'.size
      have o3 : Old w w2 := Below.trans (b := _) (Below.trans (b := _) oldA (Below.mono o1 (by simp <;> omega))) (Below.mono o2' (by omega))
      refine bodyPost_ret (v := .agg #[.bool false, .slice A2 (len (capN r)) c2]) (by simp [results, Tryz.results120, go_sem, c20, c21]) rfl ⟨RetB.mk' (A := A2) (c := c2) (x := capN r) (b := false) (by rw [Hx.out]; rfl) (Row.more (lo := w1.heap.size) ?_ (by omega)) rfl, oldA⟩
      repeat' (first | exact r2 | refine Row.far_set ?_ (by simp; omega) _)
end Go.Proofs.YtgchbbjhdeobpaaGreatDoor
