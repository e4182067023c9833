import Derived.Test.YtgchbbjhdeobpaaArgs
/-
  The helpers of the laws on big integers: their size, copying, comparing, marking, looking at the marks.
-/
namespace Go.Proofs.Ytgchbbjhdeobpaa
set_option linter.unusedVariables false
open Go.RowKit Num

theorem szIntS_any (A : Option Addr) (n c : Nat) (left : Int) (w : World) (hn : n ≤ 9223372036854775807) (h0 : 0 ≤ left) (h1 : left ≤ 1048576) :
    Calls Try.prog 27 #[.slice A n c, .int .i64 left] w fun e w' => e = .returned (.int .i64 (if (n : Int) ≤ left then left - n else -1)) ∧ w = w' := by
  by_cases h : (n : Int) ≤ left
  · have Hr : Hid ((if (n : Int) ≤ left then left - (n : Int) else -1) = left - n) := Lib.hid (if_pos h)
    have h2 : ¬ left - (n : Int) < 0 := by omega
    rw [Hr.out]
    go_enter Try.func27, Try.ntmps27
    go_wp2
    go_ret
    exact ⟨rfl, rfl⟩
  · have Hr : Hid ((if (n : Int) ≤ left then left - (n : Int) else -1) = -1) := Lib.hid (if_neg h)
    have h2 : left - (n : Int) < 0 := by omega
    rw [Hr.out]
    go_enter Try.func27, Try.ntmps27
    go_wp2
    go_ret
    exact ⟨rfl, rfl⟩
set_option maxRecDepth 100000 in
set_option maxHeartbeats 1000000 in
theorem toBigInt_any (b : Bool) (A : Option Addr) (n c : Nat) (f : Nat → Int) (w : World) (h : Rd w A n c f) (hn : n ≤ 1048576) :
    Calls Try.prog 32 #[.agg #[.bool b, .slice A n c]] w fun e w' => ∃ A', e = .returned (.agg #[.bool b, .slice A' n n]) ∧ Row w' w.heap.size A' n n f ∧ Old w w' := by
  go_enter Try.func32, Try.ntmps32
  go_wp2_with fail
  refine (toIntS_any A n c f _ (h.below (B := w.heap.size) oldA (Nat.le_refl _)) hn).mono ?_
  rintro e w1 ⟨rfl, r1, o1⟩
  obtain ⟨hc, hf⟩ := bcell o1
  have hz := o1.size
  simp at hz
  go_wp2
  have r1' : Row w1 (w.heap.size + 1 + 1 + 1) (some ⟨w.heap.size + 1 + 1 + 1, 0, none⟩) n n f := by simpa using r1
  have o1' : Old w w1 := Below.trans (b := _) oldA (Below.mono o1 (by simp <;> omega))
  refine bodyPost_ret (v := .agg #[.bool b, .slice (some ⟨w.heap.size + 1 + 1 + 1, 0, none⟩) n n]) (by simp [results, Try.results32, go_sem, hc]) rfl ⟨_, rfl, ?_, ?_⟩
  · refine Row.more (lo := w.heap.size + 1 + 1 + 1) ?_ (by omega)
    repeat' (first | exact r1' | refine Row.far_set ?_ (by simp) _)
  · exact oldA
set_option maxRecDepth 100000 in
set_option maxHeartbeats 1000000 in
theorem eqBigInt_yes (b : Bool) (A1 A2 : Option Addr) (n c1 c2 : Nat) (f g : Nat → Int) (lo1 lo2 : Nat) (w : World) (h1 : Row w lo1 A1 n c1 f) (h2 : Row w lo2 A2 n c2 g) (he : ∀ j, j < n → f j = g j) (hn : n ≤ 1048576) :
    Calls Try.prog 20 #[.agg #[.bool b, .slice A1 n c1], .agg #[.bool b, .slice A2 n c2]] w fun e w' => e = .returned (.bool true) ∧ Old w w' := by
  have He := Lib.hid he
  clear he
  go_enter Try.func20, Try.ntmps20
  go_wp2_with fail
  refine (eqIntS_yes A1 A2 n c1 c2 f g lo1 lo2 _ (h1.below (B := w.heap.size) oldA (Nat.le_refl _)) (h2.below (B := w.heap.size) oldA (Nat.le_refl _)) He.out hn).mono ?_
  rintro e w1 ⟨rfl, o1⟩
  go_wp2
  go_ret
  exact ⟨rfl, Below.trans (b := _) oldA (Below.mono o1 (by simp <;> omega))⟩
set_option maxRecDepth 100000 in
set_option maxHeartbeats 1000000 in
theorem markBigInt_any (b : Bool) (A : Option Addr) (n c : Nat) (f : Nat → Int) (lo : Nat) (m : Int) (w : World) (h : Row w lo A n c f) (hn : n ≤ 1048576) (hk0 : 0 ≤ m) (hk1 : m ≤ 1000000000) :
    Calls Try.prog 22 #[.agg #[.bool b, .slice A n c], .int .i64 m] w fun e w' => e = .returned (.int .i64 (m + n)) ∧ Row w' lo A n c (fun j => m + j) ∧ w.grownBy w' (rowOf A n) := by
  go_enter Try.func22, Try.ntmps22
  go_wp2_with fail
  refine (markIntS_any A n c f lo m _ (h.below (B := w.heap.size) oldA (Nat.le_refl _)) hn hk0 hk1).mono ?_
  rintro e w1 ⟨rfl, r1, g1⟩
  go_wp2
  go_ret
  exact ⟨rfl, r1, World.grownBy.trans (World.grownBy_alloc _ _ _) g1⟩
set_option maxRecDepth 100000 in
set_option maxHeartbeats 1000000 in
theorem heldBigInt_yes (b : Bool) (A : Option Addr) (n c : Nat) (f : Nat → Int) (lo : Nat) (k : Int) (w : World) (h : Row w lo A n c f) (he : ∀ j, j < n → f j = k + j) (hn : n ≤ 1048576) (hk0 : 0 ≤ k) (hk1 : k ≤ 1000000000) :
    Calls Try.prog 24 #[.agg #[.bool b, .slice A n c], .int .i64 k] w fun e w' => e = .returned (.int .i64 (k + n)) ∧ Old w w' := by
  have He := Lib.hid he
  clear he
  go_enter Try.func24, Try.ntmps24
  go_wp2_with fail
  refine (heldIntS_yes A n c f lo k _ (h.below (B := w.heap.size) oldA (Nat.le_refl _)) He.out hn hk0 hk1).mono ?_
  rintro e w' ⟨rfl, rfl⟩
  go_wp2
  go_ret
  exact ⟨rfl, oldA⟩
theorem szBigInt_any (b : Bool) (A : Option Addr) (n c : Nat) (left : Int) (w : World) (hn : n ≤ 9223372036854775807) (h0 : 0 ≤ left) (h1 : left ≤ 1048576) :
    Calls Try.prog 26 #[.agg #[.bool b, .slice A n c], .int .i64 left] w fun e w' => e = .returned (.int .i64 (if (n : Int) ≤ left then left - n else -1)) ∧ Old w w' := by
  have Hn := Lib.hid hn
  clear hn
  by_cases h : (n : Int) ≤ left
  · have Hr : Hid ((if (n : Int) ≤ left then left - (n : Int) else -1) = left - n) := Lib.hid (if_pos h)
    rw [Hr.out]
    go_enter Try.func26, Try.ntmps26
    go_wp2_with fail
    refine (szIntS_any A n c left _ Hn.out h0 h1).mono ?_
    rintro e w' ⟨he, rfl⟩
    rw [Hr.out] at he
    subst he
    go_wp2
    go_ret
    exact ⟨rfl, oldA⟩
  · have Hr : Hid ((if (n : Int) ≤ left then left - (n : Int) else -1) = -1) := Lib.hid (if_neg h)
    rw [Hr.out]
    go_enter Try.func26, Try.ntmps26
    go_wp2_with fail
    refine (szIntS_any A n c left _ Hn.out h0 h1).mono ?_
    rintro e w' ⟨he, rfl⟩
    rw [Hr.out] at he
    subst he
    go_wp2
    go_ret
    exact ⟨rfl, oldA⟩
theorem szBigInt_yes (b : Bool) (A : Option Addr) (n c : Nat) (left : Int) (w : World) (hn : n ≤ 9223372036854775807) (h0 : 0 ≤ left) (h1 : left ≤ 1048576) (h : (n : Int) ≤ left) :
    Calls Try.prog 26 #[.agg #[.bool b, .slice A n c], .int .i64 left] w fun e w' => e = .returned (.int .i64 (left - n)) ∧ Old w w' :=
  (szBigInt_any b A n c left w hn h0 h1).mono fun e w' he => ⟨by rw [he.1, if_pos h], he.2⟩
theorem szBigInt_no (b : Bool) (A : Option Addr) (n c : Nat) (left : Int) (w : World) (hn : n ≤ 9223372036854775807) (h0 : 0 ≤ left) (h1 : left ≤ 1048576) (h : ¬ (n : Int) ≤ left) :
    Calls Try.prog 26 #[.agg #[.bool b, .slice A n c], .int .i64 left] w fun e w' => e = .returned (.int .i64 (-1)) ∧ Old w w' :=
  (szBigInt_any b A n c left w hn h0 h1).mono fun e w' he => ⟨by rw [he.1, if_neg h], he.2⟩
end Go.Proofs.Ytgchbbjhdeobpaa
