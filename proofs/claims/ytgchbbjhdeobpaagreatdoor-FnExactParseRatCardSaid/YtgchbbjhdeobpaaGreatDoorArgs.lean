import Derived.Test.YtgchbbjhdeobpaaGreatDoorLawInts
import Derived.Test.YtgchbbjhdeobpaaGreatDoorFacts
import Derived.ProofKit
import Derived.OpenShut
import Derived.ShutString
import Derived.ChangeOld
import Derived.Lib.SmallJoins
/-
  What a law is told of its arguments: how an argument that came in reads.
-/
namespace Go.Proofs.YtgchbbjhdeobpaaGreatDoor
set_option linter.unusedVariables false
open Go.ChangeShapes Go.WideShapes Go.ChangeAt Go.RowKit


/-- A slice of ints that came in reads as some row, nil or not. -/
theorem open_rd {H : Type} {enc : TypeId × Value → H} {w : World} {base : Nat} {spare : Nat → Bool} {held : Bool} {a : Option Addr} {n c : Nat} {d : DataW H} {p : List MemPlace}
    (h : DataW.Trod enc Tryz.prog w base spare held 22 (.slice a n c) d p) : ∃ f, Rd w a n c f := by
  obtain ⟨fuel, hf⟩ := h
  rcases open_ints Tryz.underlying22 Tryz.underlying3 (by kernel_rfl) hf with ⟨hcs, _⟩ | ⟨x, l, cc, zs, hcs, _, hl, hm, hz, _, hcell, _⟩
  · simp [Value.cells] at hcs
    obtain ⟨rfl, rfl, rfl⟩ := hcs
    exact ⟨fun _ => 0, Nat.le_refl _, fun h => by omega⟩
  · simp [Value.cells] at hcs
    obtain ⟨rfl, rfl, rfl⟩ := hcs
    refine ⟨fun j => zs.getD j 0, hl, fun hn => ?_⟩
    have hzl : n ≤ zs.length := by rw [hz]; split <;> omega
    obtain ⟨b, off, spot⟩ := x
    have h0 := hcell 0 (by omega)
    obtain rfl : spot = none := by simpa [Addr.add] using World.cell?_spot h0
    refine ⟨b, off, rfl, ?_, fun j hj => ?_⟩
    · have := World.block_lt_of_cell? w _ h0
      simpa [Addr.add] using this
    · have := hcell j (by omega)
      rw [← this]
      congr 1
      unfold Addr.add
      split <;> simp_all

theorem rd_len {H : Type} {enc : TypeId × Value → H} {w : World} {base : Nat} {spare : Nat → Bool} {held : Bool} {a : Option Addr} {n c : Nat} {d : DataW H} {p : List MemPlace}
    (h : DataW.Trod enc Tryz.prog w base spare held 22 (.slice a n c) d p) : n ≤ 9223372036854775807 := by
  obtain ⟨fuel, hf⟩ := h
  rcases open_ints Tryz.underlying22 Tryz.underlying3 (by kernel_rfl) hf with ⟨hcs, _⟩ | ⟨x, l, cc, zs, hcs, _, hl, hm, _⟩
  · simp [Value.cells] at hcs
    omega
  · simp [Value.cells] at hcs
    obtain ⟨rfl, rfl, rfl⟩ := hcs
    simp only [maxLen] at hm
    omega

/-! rows that do not share a block -/
def Lim (hi : Nat) (A : Option Addr) (n : Nat) : Prop := 0 < n → ∀ a, A = some a → a.block < hi
def Low (lo : Nat) (A : Option Addr) (n : Nat) : Prop := 0 < n → ∀ a, A = some a → lo ≤ a.block
section
variable {w w1 w2 : World} {lo hi n m c c' : Nat} {A A' : Option Addr} {f g : Nat → Int}
theorem Row.lim (h : Row w lo A n c f) : Lim w.heap.size A n := fun hn a e => by
  obtain ⟨b, off, e', _, hs, _⟩ := h.2 hn
  rw [e'] at e; injection e with e; subst e; exact hs
theorem Row.low (h : Row w lo A n c f) : Low lo A n := fun hn a e => by
  obtain ⟨b, off, e', hl, _⟩ := h.2 hn
  rw [e'] at e; injection e with e; subst e; exact hl
theorem Low.mono {lo' : Nat} (h : Low lo A n) (hl : lo' ≤ lo) : Low lo' A n := fun hn a e => Nat.le_trans hl (h hn a e)
theorem rowOf_some {A : Option Addr} {n k : Nat} (h : rowOf A n = some k) : 0 < n ∧ ∃ a, A = some a ∧ a.block = k := by
  unfold rowOf at h
  split at h
  · cases h
  · obtain ⟨a, e, hk⟩ := Option.map_eq_some_iff.1 h
    exact ⟨by omega, a, e, hk⟩
theorem Low.own {B : Nat} (h : Low lo A n) (hB : B ≤ lo) : ∀ k, rowOf A n = some k → B ≤ k := fun k hk => by
  obtain ⟨hn, a, e, rfl⟩ := rowOf_some hk
  exact Nat.le_trans hB (h hn a e)
theorem Row.kept (h : Row w1 lo A n c f) (hg : w1.grownBy w2 (rowOf A' m)) (hne : ∀ a a', 0 < n → 0 < m → A = some a → A' = some a' → a.block ≠ a'.block) : Row w2 lo A n c f := by
  refine ⟨h.1, fun hn => ?_⟩
  obtain ⟨b, off, e, hl, hs, hf, hc⟩ := h.2 hn
  have hb : some b ≠ rowOf A' m := fun hk => by
    obtain ⟨hm, a', e', hk'⟩ := rowOf_some hk.symm
    exact hne _ _ hn hm e e' hk'.symm
  have hblk := hg.block b hs hb
  exact ⟨b, off, e, hl, Nat.lt_of_lt_of_le hs hg.size, fun j => (World.frozen?_of_block (w := w1) hblk).trans (hf j), fun j hj => (World.cell?_of_block (w := w1) hblk).trans (hc j hj)⟩
/-- A row that is older than what is written. -/
theorem Row.older (h : Row w1 lo A n c f) (hg : w1.grownBy w2 (rowOf A' m)) {lo' : Nat} (h1 : Lim hi A n) (h2 : Low lo' A' m) (hl : hi ≤ lo') : Row w2 lo A n c f :=
  h.kept hg fun a a' hn hm e e' => by have := h1 hn a e; have := h2 hm a' e'; omega
/-- A row that is younger than what is written. -/
theorem Row.younger (h : Row w1 lo A n c f) (hg : w1.grownBy w2 (rowOf A' m)) {lo' : Nat} (h1 : Low lo' A n) (h2 : Lim hi A' m) (hl : hi ≤ lo') : Row w2 lo A n c f :=
  h.kept hg fun a a' hn hm e e' => by have := h1 hn a e; have := h2 hm a' e'; omega
theorem Row.apart {hi' lo' lo0 : Nat} (h : Row w1 lo A n c f) (hg : w1.grownBy w2 (rowOf A' m)) (h1 : Lim hi A n) (h1' : Low lo0 A n) (h2 : Lim hi' A' m) (h2' : Low lo' A' m) (hl : hi ≤ lo' ∨ hi' ≤ lo0) : Row w2 lo A n c f :=
  h.kept hg fun a a' hn hm e e' => by have := h1 hn a e; have := h1' hn a e; have := h2 hm a' e'; have := h2' hm a' e'; omega
end
/-- Block g holds just these cells, none frozen. -/
def Bx (w : World) (g : Nat) (cs : Array Value) : Prop := ∃ t, w.heap[g]? = some (.cells cs t (0, 0))
section
variable {w w' : World} {g : Nat} {cs : Array Value}
theorem Bx.lt (h : Bx w g cs) : g < w.heap.size := by
  obtain ⟨t, e⟩ := h
  exact (Array.getElem?_eq_some_iff.1 e).1
theorem Bx.cell (h : Bx w g cs) (j : Nat) {v : Value} (e : cs[j]? = some v) : w.cell? ⟨g, j, none⟩ = some v := by
  obtain ⟨t, h⟩ := h
  rw [cell_of_row w g j cs t (0, 0) h, e]
theorem Bx.frozen (h : Bx w g cs) (j : Nat) : w.frozen? ⟨g, j, none⟩ = false := by
  obtain ⟨t, e⟩ := h
  simp [World.frozen?, e]
theorem Bx.below {B : Nat} (h : Bx w g cs) (hb : Below B w w') (hg : g < B) : Bx w' g cs := by
  obtain ⟨t, e⟩ := h
  exact ⟨t, (hb.block g hg).trans e⟩
theorem Bx.old (h : Bx w g cs) (hb : Old w w') : Bx w' g cs := h.below hb h.lt
theorem Bx.new (w : World) (cs : Array Value) (t : TypeId) : Bx (w.alloc (.cells cs t)) w.heap.size cs := ⟨t, heap_alloc_new w _⟩
theorem Bx.kept {row : Option Nat} (h : Bx w g cs) (hg : w.grownBy w' row) (hne : some g ≠ row) : Bx w' g cs := by
  have hl := h.lt
  obtain ⟨t, e⟩ := h
  exact ⟨t, (hg.block g hl hne).trans e⟩
theorem Bx.alloc (h : Bx w g cs) (o : Obj) : Bx (w.alloc o) g cs := by
  have hl := h.lt
  obtain ⟨t, e⟩ := h
  exact ⟨t, (Below.heap_alloc w o g hl).trans e⟩
theorem Bx.apart {A : Option Addr} {m lo hi : Nat} (h : Bx w g cs) (hg : w.grownBy w' (rowOf A m)) (h1 : Low lo A m) (h2 : Lim hi A m) (hl : g < lo ∨ hi ≤ g) : Bx w' g cs :=
  h.kept hg fun e => by
    obtain ⟨hm, a, ea, hk⟩ := rowOf_some e.symm
    have := h1 hm a ea
    have := h2 hm a ea
    omega
end


theorem Row.far_set {w : World} {lo n c : Nat} {A : Option Addr} {f : Nat → Int} (h : Row w lo A n c f) {p : Addr} (hp : p.block < lo) (u : Value) : Row (w.setCell p u) lo A n c f := by
  refine ⟨h.1, fun hn => ?_⟩
  obtain ⟨b, off, e, hl, hs, hf, hc⟩ := h.2 hn
  have hne : b ≠ p.block := by omega
  have hblk := Below.heap_setCell w p u b hne
  exact ⟨b, off, e, hl, by simpa [World.setCell] using hs, fun j => (World.frozen?_of_block (w := w) hblk).trans (hf j), fun j hj => (World.cell?_of_block (w := w) hblk).trans (hc j hj)⟩

end Go.Proofs.YtgchbbjhdeobpaaGreatDoor
