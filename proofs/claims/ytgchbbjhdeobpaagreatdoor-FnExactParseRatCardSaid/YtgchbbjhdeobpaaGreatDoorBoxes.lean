import Derived.Test.YtgchbbjhdeobpaaGreatDoorArgs
/-
  A struct that is written over, cell by cell.
-/
namespace Go.Proofs.YtgchbbjhdeobpaaGreatDoor
set_option linter.unusedVariables false
open Go.RowKit
theorem Bx.drew {w : World} {g : Nat} {cs : Array Value} (h : Bx w g cs) : Bx w.drew g cs := h
theorem Bx.set {w : World} {g : Nat} {cs : Array Value} (h : Bx w g cs) (i : Nat) (v : Value) : Bx (w.setCell ⟨g, i, none⟩ v) g (cs.setIfInBounds i v) := by
  obtain ⟨t, e⟩ := h
  exact ⟨t, heap_setCell_same w g i cs t v e⟩
theorem Bx.put2 {w : World} {g : Nat} {a0 a1 : Value} (h : Bx w g #[a0, a1]) (v0 v1 : Value) : Bx ((w.setCell ⟨g, 0, none⟩ v0).setCell ⟨g, 1, none⟩ v1) g #[v0, v1] := (h.set 0 v0).set 1 v1
theorem Bx.put3 {w : World} {g : Nat} {a0 a1 a2 : Value} (h : Bx w g #[a0, a1, a2]) (v0 v1 v2 : Value) : Bx (((w.setCell ⟨g, 0, none⟩ v0).setCell ⟨g, 1, none⟩ v1).setCell ⟨g, 2, none⟩ v2) g #[v0, v1, v2] := ((h.set 0 v0).set 1 v1).set 2 v2
theorem Bx.put6 {w : World} {g : Nat} {a0 a1 a2 a3 a4 a5 : Value} (h : Bx w g #[a0, a1, a2, a3, a4, a5]) (v0 v1 v2 v3 v4 v5 : Value) : Bx ((((((w.setCell ⟨g, 0, none⟩ v0).setCell ⟨g, 1, none⟩ v1).setCell ⟨g, 2, none⟩ v2).setCell ⟨g, 3, none⟩ v3).setCell ⟨g, 4, none⟩ v4).setCell ⟨g, 5, none⟩ v5) g #[v0, v1, v2, v3, v4, v5] := (((((h.set 0 v0).set 1 v1).set 2 v2).set 3 v3).set 4 v4).set 5 v5
end Go.Proofs.YtgchbbjhdeobpaaGreatDoor
