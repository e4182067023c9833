import Derived.Test.YtgchbbjhdeobpaaGreatDoorMem
import Derived.Deep.QuietTactic
import Derived.BigQuiet
/-
  The helpers of the laws on slices of ints: comparing, marking, looking at the marks, copying.
-/
namespace Go.Proofs.YtgchbbjhdeobpaaGreatDoor
set_option linter.unusedVariables false
open Go.RowKit Num

/-- The block that a slice's elements lie in; none where there is no element. -/
def rowOf (A : Option Addr) (n : Nat) : Option Nat := if n = 0 then none else A.map (·.block)

theorem below_drewN {B : Nat} {a w : World} (h : Below B a w) (n : Nat) : Below B a (w.drewN n) := ⟨h.os, h.tape, h.output, h.size, h.block⟩

/-- Nothing old has turned: shown step by step. -/
theorem oldA {B : Nat} {a w : World} (h : Below B a w := by repeat' (first | exact Below.refl _ _ | assumption | refine below_drewN ?_ _ | refine Below.drew ?_ | refine Below.alloc ?_ (by first | omega | (simp <;> omega)) _ | refine Below.setCell ?_ (by first | (simp <;> omega) | (simp <;> done) | omega) _)) : Below B a w := h
theorem leA {a b : Nat} (h : a ≤ b := by first | exact Nat.le_refl _ | omega | (simp <;> omega)) : a ≤ b := h
theorem drewN_drewN (w : World) (a b : Nat) : (w.drewN a).drewN b = w.drewN (a + b) := World.drewN_drewN w a b

/-- A call that leaves the world alone, in a quiet region of a world that has drawn before. -/
theorem quiet_again {P : Program} {f : FuncId} {args : Array Value} {w : World} {a n : Nat} {v : Value} (h : Calls P f args (w.drewN (a + n)) fun e w' => e = .returned v ∧ w' = w.drewN (a + n)) :
    Calls P f args (w.drewN (a + n)) fun e w' => e = .returned v ∧ ∃ m, w' = w.drewN (a + m) := h.mono fun _ _ h => ⟨h.1, n, h.2⟩
theorem mark_step (j k : Nat) (a b c : Int) (h : j = k → a = b) : (if j = k then b else if j < k then a else c) = if j < k + 1 then a else c := by
  by_cases e : j = k
  · rw [if_pos e, if_pos (by omega), h e]
  · by_cases l : j < k
    · rw [if_neg e, if_pos l, if_pos (by omega)]
    · rw [if_neg e, if_neg l, if_neg (by omega)]
theorem Row.set {w : World} {lo n c b off i : Nat} {f : Nat → Int} (h : Row w lo (some ⟨b, off, none⟩) n c f) (hi : i < n) (u : Int) :
    Row (w.setCell ⟨b, off + i, none⟩ (.int .i64 u)) lo (some ⟨b, off, none⟩) n c (fun j => if j = i then u else f j) := by
  refine ⟨h.1, fun hn => ?_⟩
  obtain ⟨b', off', e, hl, hs, hf, hc⟩ := h.2 hn
  injection e with e
  injection e with e1 e2
  subst e1 e2
  refine ⟨b, off, rfl, hl, by simpa [World.setCell] using hs, fun j => (World.frozen?_setCell _ _ _ _).trans (hf j), fun j hj => ?_⟩
  show World.cell? _ _ = some (.int .i64 (if j = i then u else f j))
  by_cases e : j = i
  · subst e
    rw [if_pos rfl]
    exact World.cell?_setCell_same _ _ _ (hc j hj)
  · rw [if_neg e, World.cell?_setCell_other _ _ _ _ (by simp <;> omega)]
    exact hc j hj
theorem only_setCell {a w : World} {g : Nat} (h : a.grownBy w (some g)) {p : Addr} (hp : p.block = g) (u : Value) : a.grownBy (w.setCell p u) (some g) :=
  ⟨h.os, h.tape, h.output, by simpa [World.setCell] using h.size, fun i hi hne => (Below.heap_setCell w p u i (by
    rintro rfl
    exact hne (by rw [hp]))).trans (h.block i hi hne)⟩

set_option maxRecDepth 100000 in
set_option maxHeartbeats 400000 in
theorem eqIntS_yes (A1 A2 : Option Addr) (n c1 c2 : Nat) (f g : Nat → Int) (lo1 lo2 : Nat) (w : World) (h1 : Row w lo1 A1 n c1 f) (h2 : Row w lo2 A2 n c2 g) (he : ∀ j, j < n → f j = g j) (hn : n ≤ 1048576) :
    Calls Tryz.prog 31 #[.slice A1 n c1, .slice A2 n c2] w fun e w' => e = .returned (.bool true) ∧ Old w w' := by
  have He := Lib.hid he
  clear he
  go_enter Tryz.func31, Tryz.ntmps31
  go_wp2
  go_loopw [5] (fun i wr => ∃ (k m : Nat), k ≤ n ∧ i = .int .i64 (k : Int) ∧ wr = w.drewN m) (fun i _ => n - (intOf i).toNat)
  case atStart => exact ⟨0, 0, Nat.zero_le _, rfl, rfl⟩
  case round =>
    obtain ⟨k, m, hk, rfl, rfl⟩ := hrel
    by_cases hlt : k < n
    · obtain ⟨b1, o1, rfl, _, _, _, hc1⟩ := h1.2 (by omega)
      obtain ⟨b2, o2, rfl, _, _, _, hc2⟩ := h2.2 (by omega)
      have hx1 := hc1 k hlt
      have hx2 := hc2 k hlt
      rw [← He.out k hlt] at hx2
      clear hc1 hc2
      go_wp2
      go_quiet (fail)
      go_wp2
      go_roundw
      case rel => exact ⟨k + 1, _, by omega, by go_num, rfl⟩
      case measure => simp [intOf]; omega
    · have : k = n := by omega
      subst this
      go_wp2
      go_ret
      exact ⟨rfl, below_drewN (Old.refl w) m⟩
set_option maxRecDepth 100000 in
set_option maxHeartbeats 400000 in
theorem heldIntS_yes (A : Option Addr) (n c : Nat) (f : Nat → Int) (lo : Nat) (k : Int) (w : World) (h : Row w lo A n c f) (he : ∀ j, j < n → f j = k + j) (hn : n ≤ 1048576) (hk0 : 0 ≤ k) (hk1 : k ≤ 1000000000) :
    Calls Tryz.prog 35 #[.slice A n c, .int .i64 k] w fun e w' => e = .returned (.int .i64 (k + n)) ∧ w = w' := by
  have He := Lib.hid he
  clear he
  go_enter Tryz.func35, Tryz.ntmps35
  go_wp2
  go_loop [1, 5] (fun v i => ∃ j : Nat, j ≤ n ∧ i = .int .i64 j ∧ v = .int .i64 (k + j)) (fun _ i => n - (intOf i).toNat)
  case atStart => exact ⟨0, Nat.zero_le _, rfl, by simp⟩
  case round =>
    obtain ⟨j, hj, rfl, rfl⟩ := hrel
    by_cases hlt : j < n
    · obtain ⟨b, o, rfl, _, _, _, hc⟩ := h.2 (by omega)
      have hx := hc j hlt
      rw [He.out j hlt] at hx
      clear hc
      go_wp2
      go_round
      case rel => exact ⟨j + 1, by omega, by go_num, by go_num⟩
      case measure => simp [intOf]; omega
    · have e : j = n := by omega
      subst e
      go_wp2
      go_ret
      exact ⟨rfl, rfl⟩
set_option maxRecDepth 100000 in
set_option maxHeartbeats 400000 in
theorem markIntS_any (A : Option Addr) (n c : Nat) (f : Nat → Int) (lo : Nat) (m : Int) (w : World) (h : Row w lo A n c f) (hn : n ≤ 1048576) (hk0 : 0 ≤ m) (hk1 : m ≤ 1000000000) :
    Calls Tryz.prog 33 #[.slice A n c, .int .i64 m] w fun e w' => e = .returned (.int .i64 (m + n)) ∧ Row w' lo A n c (fun j => m + j) ∧ w.grownBy w' (rowOf A n) := by
  go_enter Tryz.func33, Tryz.ntmps33
  go_wp2
  go_loopw [1, 5] (fun v i wr => ∃ k : Nat, k ≤ n ∧ i = .int .i64 (k : Int) ∧ v = .int .i64 (m + k) ∧ Row wr lo A n c (fun j => if j < k then m + j else f j) ∧ w.grownBy wr (rowOf A n)) (fun _ i _ => n - (intOf i).toNat)
  case atStart => exact ⟨0, Nat.zero_le _, rfl, by simp, h.congr fun j _ => by simp, World.grownBy.refl _ _⟩
  case round =>
    obtain ⟨k, hk, rfl, rfl, hR, hg⟩ := hrel
    by_cases hlt : k < n
    · obtain ⟨b, o, rfl, hl, hs, hf, hc⟩ := hR.2 (by omega)
      have hx := hc k hlt
      have hy := hf (o + k)
      clear hc hf
      have hg' : w.grownBy wr (some b) := by have := hg; rw [rowOf, if_neg (by omega)] at this; exact this
      clear hg
      go_wp2
      go_roundw
      case rel => exact ⟨k + 1, by omega, by go_num, by go_num, (hR.set hlt (m + k)).congr (fun j _ => mark_step j k (m + j) (m + k) (f j) (fun e => by rw [e])), by rw [rowOf, if_neg (by omega)]; exact only_setCell hg' rfl _⟩
      case measure => simp [intOf]; omega
    · have e : k = n := by omega
      subst e
      go_wp2
      go_ret
      exact ⟨rfl, hR.congr fun j hj => by simp [hj], hg⟩
end Go.Proofs.YtgchbbjhdeobpaaGreatDoor
