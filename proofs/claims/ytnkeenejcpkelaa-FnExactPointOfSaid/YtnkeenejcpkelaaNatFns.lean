/-
  The exported functions on natural numbers, the program's and the reference's: each returns the same number.
-/
import Derived.Test.YtnkeenejcpkelaaNatMul
namespace Go.Proofs.Ytnkeenejcpkelaa
set_option linter.unusedVariables false
open Go.RowKit Num
open Classical in
/-- The number that a list of limbs is. -/
noncomputable def natX (n : Nat) (f : Nat → Int) : Nat := if h : okP n f then (okP_nat h).choose else 0
theorem natX_spec {n : Nat} {f : Nat → Int} (h : okP n f) : n = len (natX n f) ∧ n ≤ 60 ∧ ∀ j, j < n → f j = digI (natX n f) j := by
  unfold natX; rw [dif_pos h]; exact (okP_nat h).choose_spec
theorem row_nat {w : World} {lo n c : Nat} {A : Option Addr} {f : Nat → Int} (h : Row w lo A n c f) (hok : okP n f) : ∃ x, n = len x ∧ len x ≤ 60 ∧ natX n f = x ∧ NatS w lo A c x := by
  obtain ⟨h1, h2, h3⟩ := natX_spec hok
  have key : ∀ x, n = len x → (∀ j, j < n → f j = digI x j) → NatS w lo A c x := by
    intro x e h3
    subst e
    exact h.congr h3
  exact ⟨natX n f, h1, by omega, rfl, key _ h1 h3⟩
/-- A call that returns a natural number in new memory. -/
def RetN (e : Ending) (w : World) (lo r : Nat) : Prop := ∃ A c, e = .returned (.slice A (len r) c) ∧ NatS w lo A c r
open Classical in
noncomputable def both (n : Nat) (f : Nat → Int) (m : Nat) (g : Nat → Int) {α : Type} (a b : α) : α := if okP n f ∧ okP m g then a else b
theorem both_yes {n m : Nat} {f g : Nat → Int} {α : Type} {a b : α} (h1 : okP n f) (h2 : okP m g) : both n f m g a b = a := if_pos ⟨h1, h2⟩
theorem both_no1 {n m : Nat} {f g : Nat → Int} {α : Type} {a b : α} (h1 : ¬ okP n f) : both n f m g a b = b := if_neg fun h => h1 h.1
theorem both_no2 {n m : Nat} {f g : Nat → Int} {α : Type} {a b : α} (h2 : ¬ okP m g) : both n f m g a b = b := if_neg fun h => h2 h.2
noncomputable def rNatCmp (n : Nat) (f : Nat → Int) (m : Nat) (g : Nat → Int) : Int := both n f m g (cmpN (natX n f) (natX m g)) 0
noncomputable def rNatAdd (n : Nat) (f : Nat → Int) (m : Nat) (g : Nat → Int) : Nat := both n f m g (capN (natX n f + natX m g)) 0
noncomputable def rNatSub (n : Nat) (f : Nat → Int) (m : Nat) (g : Nat → Int) : Nat := both n f m g (natX n f - natX m g) 0
noncomputable def rNatMul (n : Nat) (f : Nat → Int) (m : Nat) (g : Nat → Int) : Nat := both n f m g (capN (natX n f * natX m g)) 0
theorem both_len {n m : Nat} {f g : Nat → Int} {r : Nat} (h : okP n f → okP m g → len r ≤ 60) : len (both n f m g r 0) ≤ 60 := by
  by_cases h1 : okP n f
  · by_cases h2 : okP m g
    · rw [both_yes h1 h2]; exact h h1 h2
    · rw [both_no2 h2, len_zero]; omega
  · rw [both_no1 h1, len_zero]; omega
theorem natX_len {n : Nat} {f : Nat → Int} (h : okP n f) : len (natX n f) ≤ 60 := by have := natX_spec h; omega
theorem rNatAdd_len (n : Nat) (f : Nat → Int) (m : Nat) (g : Nat → Int) : len (rNatAdd n f m g) ≤ 60 := both_len fun _ _ => capN_len _
theorem rNatSub_len (n : Nat) (f : Nat → Int) (m : Nat) (g : Nat → Int) : len (rNatSub n f m g) ≤ 60 := both_len fun h _ => Nat.le_trans sub_len (natX_len h)
theorem rNatMul_len (n : Nat) (f : Nat → Int) (m : Nat) (g : Nat → Int) : len (rNatMul n f m g) ≤ 60 := both_len fun _ _ => capN_len _
open Classical in
noncomputable def rNatOk (n : Nat) (f : Nat → Int) : Bool := decide (okP n f)
theorem rNatOk_yes {n : Nat} {f : Nat → Int} (h : okP n f) : rNatOk n f = true := by simp [rNatOk, h]
theorem rNatOk_no {n : Nat} {f : Nat → Int} (h : ¬ okP n f) : rNatOk n f = false := by simp [rNatOk, h]
theorem spec_NatOk (A : Option Addr) (n c lo : Nat) (f : Nat → Int) (w : World) (h : Row w lo A n c f) (hn : n ≤ 1048576) :
    Calls Try.prog 92 #[.slice A n c] w fun e w' => e = .returned (.bool (rNatOk n f)) ∧ Old w w' := by
  by_cases k : okP n f
  · rw [rNatOk_yes k]; exact (specNatOk_yes A n c f lo w h k).mono fun _ _ h => ⟨h.1, h.2 ▸ Old.refl _⟩
  · rw [rNatOk_no k]; exact (specNatOk_no A n c f lo w h k hn).mono fun _ _ h => ⟨h.1, h.2 ▸ Old.refl _⟩
theorem impl_NatOk (A : Option Addr) (n c lo : Nat) (f : Nat → Int) (w : World) (h : Row w lo A n c f) (hn : n ≤ 1048576) :
    Calls Try.prog 96 #[.slice A n c] w fun e w' => e = .returned (.bool (rNatOk n f)) ∧ Old w w' := by
  by_cases k : okP n f
  · rw [rNatOk_yes k]; exact (natOk_yes A n c f lo w h k).mono fun _ _ h => ⟨h.1, h.2 ▸ Old.refl _⟩
  · rw [rNatOk_no k]; exact (natOk_no A n c f lo w h k hn).mono fun _ _ h => ⟨h.1, h.2 ▸ Old.refl _⟩
end Go.Proofs.Ytnkeenejcpkelaa
