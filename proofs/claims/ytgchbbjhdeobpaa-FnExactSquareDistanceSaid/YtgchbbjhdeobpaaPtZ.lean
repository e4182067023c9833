import Derived.Test.YtgchbbjhdeobpaaPtOk
/-
  Points that are computed: the fractions as letters, validity.
-/
namespace Go.Proofs.Ytgchbbjhdeobpaa
set_option linter.unusedVariables false
open Go.RowKit Num
attribute [local go_sem ↓] Go.wp_at_zero Go.wp_at_succ
/-- The call returned the fraction (z, d), as memory that is not older than lo. -/
def RetZ (e : Ending) (w : World) (lo : Nat) (z : Int) (d : Nat) : Prop := ∃ A1 c1 A2 c2, e = .returned (.agg #[.bool (sgnZ z), .slice A1 (len (magZ z)) c1, .slice A2 (len d) c2]) ∧ NatS w lo A1 c1 (magZ z) ∧ NatS w lo A2 c2 d ∧ Apart A1 (len (magZ z)) A2 (len d)
theorem retZ_to {P : Program} {f : FuncId} {args : Array Value} {w : World} {v : Fr} {z : Int} {d : Nat} (hv : v = (z, d)) (h : Calls P f args w fun e w' => RetR e w' w.heap.size v ∧ Old w w') : Calls P f args w fun e w' => RetZ e w' w.heap.size z d ∧ Old w w' := by
  refine h.mono ?_
  rintro e w' ⟨⟨z', d', A1, c1, A2, c2, hv', he, r1, r2, ap⟩, o⟩
  rw [hv] at hv'
  injection hv' with h1 h2
  subst h1
  subst h2
  exact ⟨⟨A1, c1, A2, c2, he, r1, r2, ap⟩, o⟩
theorem rRatOk_val {z : Int} {d : Nat} (h : normF (z, d)) (p : 0 < d) : rRatOk (sgnZ z) (len (magZ z)) (digI (magZ z)) (len d) (digI d) = true := rRatOk_yes ((okR_val h).2 p)
theorem rRatOk_val_no {z : Int} {d : Nat} (h : normF (z, d)) (p : ¬ 0 < d) : rRatOk (sgnZ z) (len (magZ z)) (digI (magZ z)) (len d) (digI d) = false := rRatOk_no fun k => p ((okR_val h).1 k)
theorem rRatOk_iff {b : Bool} {n m : Nat} {f g : Nat → Int} : rRatOk b n f m g = true ↔ okR b n f m g := by
  by_cases k : okR b n f m g
  · exact ⟨fun _ => k, fun _ => rRatOk_yes k⟩
  · exact ⟨fun h => (by rw [rRatOk_no k] at h; cases h), fun h => absurd h k⟩
/-- The call returned the point ((z1, d1), (z2, d2)) .. -/
theorem valid_yes {zx zy : Int} {dx dy : Nat} (nx : normF (zx, dx)) (ny : normF (zy, dy)) (px : 0 < dx) (py : 0 < dy) : rIsValidPoint (sgnZ zx) (len (magZ zx)) (digI (magZ zx)) (len dx) (digI dx) (sgnZ zy) (len (magZ zy)) (digI (magZ zy)) (len dy) (digI dy) = true := by unfold rIsValidPoint; rw [rRatOk_val nx px, rRatOk_val ny py]; rfl
theorem valid_no {zx zy : Int} {dx dy : Nat} (nx : normF (zx, dx)) (ny : normF (zy, dy)) (h : ¬ (0 < dx ∧ 0 < dy)) : rIsValidPoint (sgnZ zx) (len (magZ zx)) (digI (magZ zx)) (len dx) (digI dx) (sgnZ zy) (len (magZ zy)) (digI (magZ zy)) (len dy) (digI dy) = false := by
  unfold rIsValidPoint
  by_cases px : 0 < dx
  · rw [rRatOk_val nx px, rRatOk_val_no ny fun py => h ⟨px, py⟩]; rfl
  · rw [rRatOk_val_no nx px]; rfl
theorem pointF_yes {a b : Fr} (h1 : 0 < a.2) (h2 : 0 < b.2) : pointF a b = (a, b) := if_neg (by omega)
theorem pointF_no {a b : Fr} (h : ¬ (0 < a.2 ∧ 0 < b.2)) : pointF a b = ((0, 0), (0, 0)) := if_pos (by omega)
end Go.Proofs.Ytgchbbjhdeobpaa
