import Derived.Test.YtgchbbjhdeobpaaGreatDoorWk
/-
  'Nothing old has turned', shown step by step without laying anything open: for worlds behind many stores.
-/
namespace Go.Proofs.YtgchbbjhdeobpaaGreatDoor
set_option linter.unusedVariables false
open Go.RowKit Num
theorem oldB {B : Nat} {a w : World} (h : Below B a w := by repeat' (first | (with_reducible exact Below.refl _ _) | (with_reducible assumption) | (with_reducible refine below_drewN ?_ _) | (with_reducible refine Below.drew ?_) | (with_reducible refine Below.alloc ?_ (by first | omega | (simp <;> omega)) _) | (with_reducible refine Below.setCell ?_ (by first | (simp <;> omega) | (simp <;> done) | omega) _))) : Below B a w := h
theorem ret_boolQ {e : Ending} {b b' : Bool} {P : Prop} (h : b = b') (k : e = .returned (.bool b') ∧ P) : e = .returned (.bool b) ∧ P := h ▸ k
theorem Bx.apart_off {w w' : World} {g : Nat} {cs : Array Value} {A : Option Addr} {m : Nat} (h : Bx w g cs) (hg : w.grownBy w' (rowOf A m)) (ho : Off g A m) : Bx w' g cs :=
  h.kept hg fun e => by
    obtain ⟨hm, a, ea, hk⟩ := rowOf_some e.symm
    exact ho hm a ea (by omega)
theorem no_int6 (b b' : Bool) (A1 A2 A3 A4 : Option Addr) (n1 n2 n3 n4 c1 c2 c3 c4 : Nat) : ∀ (i : Nat) (x : Int), (#[Value.bool b, .slice A1 n1 c1, .slice A2 n2 c2, .bool b', .slice A3 n3 c3, .slice A4 n4 c4] : Array Value)[i]? ≠ some (.int .i64 x) := by
  intro i x; rcases i with _ | _ | _ | _ | _ | _ | i <;> simp
end Go.Proofs.YtgchbbjhdeobpaaGreatDoor
