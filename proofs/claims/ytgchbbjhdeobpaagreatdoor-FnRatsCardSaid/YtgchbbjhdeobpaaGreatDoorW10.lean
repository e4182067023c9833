import Derived.BigQuiet
import Derived.ChangeOld
import Derived.Deep.OwnRows
import Derived.Deep.QuietTactic
import Derived.JoinedOf
import Derived.KernelRfl
import Derived.Laws.IdiomStrings
import Derived.Lib.Hide
import Derived.Lib.ItoaNum
import Derived.Lib.SmallJoins
import Derived.OpenShut
import Derived.ProofKit
import Derived.ShutString
import Derived.Test.YtgchbbjhdeobpaaGreatDoorRows
import Derived.WalkKit
import Derived.WalkLawsBesides
import Derived.WalkSpells
import Ieee.Arith
import Derived.Test.YtgchbbjhdeobpaaGreatDoorW1
import Derived.Test.YtgchbbjhdeobpaaGreatDoorW2
import Derived.Test.YtgchbbjhdeobpaaGreatDoorW3
import Derived.Test.YtgchbbjhdeobpaaGreatDoorW4
import Derived.Test.YtgchbbjhdeobpaaGreatDoorW9
/- What the claim's proof reaches of: Str. -/
namespace Go.Proofs.YtgchbbjhdeobpaaGreatDoor
set_option linter.unusedVariables false
open Go.RowKit

/-- The slice value (A, n, c) holds the ints f 0 .. f (n - 1) in w, in a block from lo on of which nothing is frozen. -/
def SRow (w : World) (lo : Nat) (A : Option Addr) (n c : Nat) (f : Nat → ByteArray) : Prop :=
  n ≤ c ∧ (0 < n → ∃ b off, A = some ⟨b, off, none⟩ ∧ lo ≤ b ∧ b < w.heap.size ∧ (∀ j, w.frozen? ⟨b, j, none⟩ = false) ∧ ∀ j, j < n → w.cell? ⟨b, off + j, none⟩ = some (.string (f j)))
/-- The same, where nothing is said of what is frozen: enough to read. -/
def SRd (w : World) (A : Option Addr) (n c : Nat) (f : Nat → ByteArray) : Prop :=
  n ≤ c ∧ (0 < n → ∃ b off, A = some ⟨b, off, none⟩ ∧ b < w.heap.size ∧ ∀ j, j < n → w.cell? ⟨b, off + j, none⟩ = some (.string (f j)))

section
variable {w w' : World} {lo lo' n c : Nat} {A : Option Addr} {f g : Nat → ByteArray}
theorem SRow.rd (h : SRow w lo A n c f) : SRd w A n c f :=
  ⟨h.1, fun hn => let ⟨b, off, e, _, hs, _, hc⟩ := h.2 hn; ⟨b, off, e, hs, hc⟩⟩
theorem SRow.zero (w : World) (lo : Nat) (A : Option Addr) (c : Nat) (f : Nat → ByteArray) : SRow w lo A 0 c f := ⟨Nat.zero_le _, fun h => by omega⟩
theorem SRow.more (h : SRow w lo A n c f) (hl : lo' ≤ lo) : SRow w lo' A n c f :=
  ⟨h.1, fun hn => let ⟨b, off, e, hb, hs, hf, hc⟩ := h.2 hn; ⟨b, off, e, by omega, hs, hf, hc⟩⟩
theorem SRow.congr (h : SRow w lo A n c f) (he : ∀ j, j < n → f j = g j) : SRow w lo A n c g :=
  ⟨h.1, fun hn => let ⟨b, off, e, hb, hs, hf, hc⟩ := h.2 hn; ⟨b, off, e, hb, hs, hf, fun j hj => by rw [hc j hj, he j hj]⟩⟩
theorem SRow.below {B : Nat} (h : SRow w lo A n c f) (hb : Below B w w') (hB : w.heap.size ≤ B) : SRow w' lo A n c f :=
  ⟨h.1, fun hn => let ⟨b, off, e, hl, hs, hf, hc⟩ := h.2 hn
    ⟨b, off, e, hl, by have := hb.size; omega, fun j => by rw [hb.frozen (by show b < B; omega)]; exact hf j, fun j hj => by rw [hb.cell (by show b < B; omega)]; exact hc j hj⟩⟩
theorem SRd.below {B : Nat} (h : SRd w A n c f) (hb : Below B w w') (hB : w.heap.size ≤ B) : SRd w' A n c f :=
  ⟨h.1, fun hn => let ⟨b, off, e, hs, hc⟩ := h.2 hn
    ⟨b, off, e, by have := hb.size; omega, fun j hj => by rw [hb.cell (by show b < B; omega)]; exact hc j hj⟩⟩
theorem SRow.take (h : SRow w lo A n c f) {m : Nat} (hm : m ≤ n) : SRow w lo A m c f :=
  ⟨Nat.le_trans hm h.1, fun hn => let ⟨b, off, e, hb, hs, hf, hc⟩ := h.2 (by omega); ⟨b, off, e, hb, hs, hf, fun j hj => hc j (by omega)⟩⟩
end


/-! a block of ints that is known whole: the library's 'rowIs' -/
/-- Block g is a row of n ints, none frozen, of which number j is h j. -/
abbrev SBlk (w : World) (g n : Nat) (h : Nat → ByteArray) : Prop := w.rowIs g 9 n (fun j => .string (h j))
section
variable {w w' : World} {g n : Nat} {h h' : Nat → ByteArray}
theorem SBlk.below {B : Nat} (H : SBlk w g n h) (hb : Below B w w') (hg : g < B) : SBlk w' g n h := World.rowIs.of_block H (hb.block g hg)
theorem SBlk.drewN (H : SBlk w g n h) (k : Nat) : SBlk (w.drewN k) g n h := H
theorem SBlk.grown {row : Option Nat} (H : SBlk w g n h) (hb : w.grownBy w' row) (hg : some g ≠ row) : SBlk w' g n h := World.rowIs.of_block H (hb.block g H.lt hg)
theorem SBlk.set_ (H : SBlk w g n h) (i : Nat) (u : ByteArray) : SBlk (w.setCell ⟨g, i, none⟩ (.string u)) g n (fun j => if j = i then u else h j) :=
  (World.rowIs.set H i (.string u)).congr fun j _ => by show (if j = i then Value.string u else .string (h j)) = .string (if j = i then u else h j); split <;> rfl
theorem SBlk.to (H : SBlk w g n h) (he : ∀ j, j < n → h j = h' j) : SBlk w g n h' := World.rowIs.congr H fun j hj => by rw [he j hj]
theorem SBlk.row {lo : Nat} (H : SBlk w g n h) (hg : lo ≤ g) : SRow w lo (some ⟨g, 0, none⟩) n n h :=
  ⟨Nat.le_refl _, fun _ => ⟨g, 0, rfl, hg, H.lt, H.frozen, fun j hj => by rw [Nat.zero_add]; exact World.rowIs.cell H hj⟩⟩
theorem SBlk.cell (H : SBlk w g n h) (j : Nat) (hj : j < n) : w.cell? ⟨g, j, none⟩ = some (.string (h j)) := World.rowIs.cell H hj
end

theorem SRow.set {w : World} {lo n c b off i : Nat} {f : Nat → ByteArray} (h : SRow w lo (some ⟨b, off, none⟩) n c f) (hi : i < n) (u : ByteArray) :
    SRow (w.setCell ⟨b, off + i, none⟩ (.string u)) lo (some ⟨b, off, none⟩) n c (fun j => if j = i then u else f j) := by
  refine ⟨h.1, fun hn => ?_⟩
  obtain ⟨b', off', e, hl, hs, hf, hc⟩ := h.2 hn
  injection e with e
  injection e with e1 e2
  subst e1 e2
  refine ⟨b, off, rfl, hl, by simpa [World.setCell] using hs, fun j => (World.frozen?_setCell _ _ _ _).trans (hf j), fun j hj => ?_⟩
  show World.cell? _ _ = some (.string (if j = i then u else f j))
  by_cases e : j = i
  · subst e
    rw [if_pos rfl]
    exact World.cell?_setCell_same _ _ _ (hc j hj)
  · rw [if_neg e, World.cell?_setCell_other _ _ _ _ (by simp <;> omega)]
    exact hc j hj

section
variable {w w1 w2 : World} {lo hi n m c c' : Nat} {A A' : Option Addr} {f g : Nat → ByteArray}
theorem SRow.lim (h : SRow w lo A n c f) : Lim w.heap.size A n := fun hn a e => by
  obtain ⟨b, off, e', _, hs, _⟩ := h.2 hn
  rw [e'] at e; injection e with e; subst e; exact hs
theorem SRow.low (h : SRow w lo A n c f) : Low lo A n := fun hn a e => by
  obtain ⟨b, off, e', hl, _⟩ := h.2 hn
  rw [e'] at e; injection e with e; subst e; exact hl
theorem SRow.kept (h : SRow w1 lo A n c f) (hg : w1.grownBy w2 (rowOf A' m)) (hne : ∀ a a', 0 < n → 0 < m → A = some a → A' = some a' → a.block ≠ a'.block) : SRow w2 lo A n c f := by
  refine ⟨h.1, fun hn => ?_⟩
  obtain ⟨b, off, e, hl, hs, hf, hc⟩ := h.2 hn
  have hb : some b ≠ rowOf A' m := fun hk => by
    obtain ⟨hm, a', e', hk'⟩ := rowOf_some hk.symm
    exact hne _ _ hn hm e e' hk'.symm
  have hblk := hg.block b hs hb
  exact ⟨b, off, e, hl, Nat.lt_of_lt_of_le hs hg.size, fun j => (World.frozen?_of_block (w := w1) hblk).trans (hf j), fun j hj => (World.cell?_of_block (w := w1) hblk).trans (hc j hj)⟩
end


/-! the marks' texts -/
def txt (l : List UInt8) : ByteArray := ⟨l.toArray⟩
theorem txt_size (l : List UInt8) : (txt l).size = l.length := by simp [txt, ByteArray.size]
end Go.Proofs.YtgchbbjhdeobpaaGreatDoor
