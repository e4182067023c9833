import Derived.Test.YtgchbbjhdeobpaaDoorMem
import Derived.Deep.QuietTactic
import Derived.BigQuiet
/-
  The helpers of the laws on slices of ints: comparing, marking, looking at the marks, copying.
-/
namespace Go.Proofs.YtgchbbjhdeobpaaDoor
set_option linter.unusedVariables false
open Go.RowKit Num

/-- The block that a slice's elements lie in; none where there is no element. -/
def rowOf (A : Option Addr) (n : Nat) : Option Nat := if n = 0 then none else A.map (·.block)

theorem below_drewN {B : Nat} {a w : World} (h : Below B a w) (n : Nat) : Below B a (w.drewN n) := ⟨h.os, h.tape, h.output, h.size, h.block⟩

/-- Nothing old has turned: shown step by step. -/
theorem oldA {B : Nat} {a w : World} (h : Below B a w := by repeat' (first | exact Below.refl _ _ | assumption | refine below_drewN ?_ _ | refine Below.drew ?_ | refine Below.alloc ?_ (by first | omega | (simp <;> omega)) _ | refine Below.setCell ?_ (by first | (simp <;> omega) | (simp <;> done) | omega) _)) : Below B a w := h
theorem leA {a b : Nat} (h : a ≤ b := by first | exact Nat.le_refl _ | omega | (simp <;> omega)) : a ≤ b := h
theorem drewN_drewN (w : World) (a b : Nat) : (w.drewN a).drewN b = w.drewN (a + b) := World.drewN_drewN w a b

/-- A call that leaves the world alone, in a quiet region of a world that has drawn before. -/
theorem quiet_again {P : Program} {f : FuncId} {args : Array Value} {w : World} {a n : Nat} {v : Value} (h : Calls P f args (w.drewN (a + n)) fun e w' => e = .returned v ∧ w' = w.drewN (a + n)) :
    Calls P f args (w.drewN (a + n)) fun e w' => e = .returned v ∧ ∃ m, w' = w.drewN (a + m) := h.mono fun _ _ h => ⟨h.1, n, h.2⟩
theorem mark_step (j k : Nat) (a b c : Int) (h : j = k → a = b) : (if j = k then b else if j < k then a else c) = if j < k + 1 then a else c := by
  by_cases e : j = k
  · rw [if_pos e, if_pos (by omega), h e]
  · by_cases l : j < k
    · rw [if_neg e, if_pos l, if_pos (by omega)]
    · rw [if_neg e, if_neg l, if_neg (by omega)]
theorem Row.set {w : World} {lo n c b off i : Nat} {f : Nat → Int} (h : Row w lo (some ⟨b, off, none⟩) n c f) (hi : i < n) (u : Int) :
    Row (w.setCell ⟨b, off + i, none⟩ (.int .i64 u)) lo (some ⟨b, off, none⟩) n c (fun j => if j = i then u else f j) := by
  refine ⟨h.1, fun hn => ?_⟩
  obtain ⟨b', off', e, hl, hs, hf, hc⟩ := h.2 hn
  injection e with e
  injection e with e1 e2
  subst e1 e2
  refine ⟨b, off, rfl, hl, by simpa [World.setCell] using hs, fun j => (World.frozen?_setCell _ _ _ _).trans (hf j), fun j hj => ?_⟩
  show World.cell? _ _ = some (.int .i64 (if j = i then u else f j))
  by_cases e : j = i
  · subst e
    rw [if_pos rfl]
    exact World.cell?_setCell_same _ _ _ (hc j hj)
  · rw [if_neg e, World.cell?_setCell_other _ _ _ _ (by simp <;> omega)]
    exact hc j hj
theorem only_setCell {a w : World} {g : Nat} (h : a.grownBy w (some g)) {p : Addr} (hp : p.block = g) (u : Value) : a.grownBy (w.setCell p u) (some g) :=
  ⟨h.os, h.tape, h.output, by simpa [World.setCell] using h.size, fun i hi hne => (Below.heap_setCell w p u i (by
    rintro rfl
    exact hne (by rw [hp]))).trans (h.block i hi hne)⟩

end Go.Proofs.YtgchbbjhdeobpaaDoor
