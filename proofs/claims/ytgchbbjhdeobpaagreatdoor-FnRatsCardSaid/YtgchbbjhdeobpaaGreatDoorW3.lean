import Derived.Deep.OwnRows
import Derived.Lib.Hide
import Derived.Test.YtgchbbjhdeobpaaGreatDoorRows
import Derived.WalkKit
import Derived.WalkLawsBesides
import Derived.WalkSpells
import Ieee.Arith
import Derived.Test.YtgchbbjhdeobpaaGreatDoorW1
/- What the claim's proof reaches of: Mem. -/
namespace Go.Proofs.YtgchbbjhdeobpaaGreatDoor
set_option linter.unusedVariables false
open Go.RowKit

/-- The slice value (A, n, c) holds the ints f 0 .. f (n - 1) in w, in a block from lo on of which nothing is frozen. -/
def Row (w : World) (lo : Nat) (A : Option Addr) (n c : Nat) (f : Nat → Int) : Prop :=
  n ≤ c ∧ (0 < n → ∃ b off, A = some ⟨b, off, none⟩ ∧ lo ≤ b ∧ b < w.heap.size ∧ (∀ j, w.frozen? ⟨b, j, none⟩ = false) ∧ ∀ j, j < n → w.cell? ⟨b, off + j, none⟩ = some (.int .i64 (f j)))
/-- The same, where nothing is said of what is frozen: enough to read. -/
def Rd (w : World) (A : Option Addr) (n c : Nat) (f : Nat → Int) : Prop :=
  n ≤ c ∧ (0 < n → ∃ b off, A = some ⟨b, off, none⟩ ∧ b < w.heap.size ∧ ∀ j, j < n → w.cell? ⟨b, off + j, none⟩ = some (.int .i64 (f j)))

section
variable {w w' : World} {lo lo' n c : Nat} {A : Option Addr} {f g : Nat → Int}
theorem Row.rd (h : Row w lo A n c f) : Rd w A n c f :=
  ⟨h.1, fun hn => let ⟨b, off, e, _, hs, _, hc⟩ := h.2 hn; ⟨b, off, e, hs, hc⟩⟩
theorem Row.zero (w : World) (lo : Nat) (A : Option Addr) (c : Nat) (f : Nat → Int) : Row w lo A 0 c f := ⟨Nat.zero_le _, fun h => by omega⟩
theorem Row.more (h : Row w lo A n c f) (hl : lo' ≤ lo) : Row w lo' A n c f :=
  ⟨h.1, fun hn => let ⟨b, off, e, hb, hs, hf, hc⟩ := h.2 hn; ⟨b, off, e, by omega, hs, hf, hc⟩⟩
theorem Row.congr (h : Row w lo A n c f) (he : ∀ j, j < n → f j = g j) : Row w lo A n c g :=
  ⟨h.1, fun hn => let ⟨b, off, e, hb, hs, hf, hc⟩ := h.2 hn; ⟨b, off, e, hb, hs, hf, fun j hj => by rw [hc j hj, he j hj]⟩⟩
theorem Row.below {B : Nat} (h : Row w lo A n c f) (hb : Below B w w') (hB : w.heap.size ≤ B) : Row w' lo A n c f :=
  ⟨h.1, fun hn => let ⟨b, off, e, hl, hs, hf, hc⟩ := h.2 hn
    ⟨b, off, e, hl, by have := hb.size; omega, fun j => by rw [hb.frozen (by show b < B; omega)]; exact hf j, fun j hj => by rw [hb.cell (by show b < B; omega)]; exact hc j hj⟩⟩
theorem Rd.below {B : Nat} (h : Rd w A n c f) (hb : Below B w w') (hB : w.heap.size ≤ B) : Rd w' A n c f :=
  ⟨h.1, fun hn => let ⟨b, off, e, hs, hc⟩ := h.2 hn
    ⟨b, off, e, by have := hb.size; omega, fun j hj => by rw [hb.cell (by show b < B; omega)]; exact hc j hj⟩⟩
theorem Row.take (h : Row w lo A n c f) {m : Nat} (hm : m ≤ n) : Row w lo A m c f :=
  ⟨Nat.le_trans hm h.1, fun hn => let ⟨b, off, e, hb, hs, hf, hc⟩ := h.2 (by omega); ⟨b, off, e, hb, hs, hf, fun j hj => hc j (by omega)⟩⟩
end

/-- What becomes of the world in a call that makes memory: nothing that was there has turned. -/
abbrev Old (w w' : World) : Prop := Below w.heap.size w w'
theorem Old.trans {a b c : World} (h : Old a b) (k : Old b c) : Old a c := Below.trans h (Below.mono k h.size)
theorem Old.refl (w : World) : Old w w := Below.refl _ _

/-! the digits of a number as a row -/
def digI (x : Nat) : Nat → Int := fun j => (Num.dig x j : Int)
/-- The slice (A, len x, c) is the natural number x. -/
abbrev NatS (w : World) (lo : Nat) (A : Option Addr) (c x : Nat) : Prop := Row w lo A (Num.len x) c (digI x)

/-! the row that a call appends to -/
/-- Numbers as cells. -/
def NV (l : List Nat) : List Value := l.map fun (d : Nat) => Value.int .i64 (d : Int)
theorem NV_length (l : List Nat) : (NV l).length = l.length := by simp [NV]
theorem NV_snoc (l : List Nat) (d : Nat) : NV (l ++ [d]) = NV l ++ [.int .i64 (d : Int)] := by simp [NV]
theorem NV_get (l : List Nat) (j : Nat) (h : j < l.length) : (NV l)[j]? = some (.int .i64 ((l.getD j 0 : Nat) : Int)) := by
  simp [NV, List.getD_eq_getElem?_getD, List.getElem?_eq_getElem h]
theorem own_row {w : World} {base n : Nat} {v : Value} {l : List Nat} (h : w.ownsRow base 3 1 v n (NV l)) :
    ∃ A c, v = .slice A n c ∧ Row w base A n c (fun j => ((l.getD j 0 : Nat) : Int)) := by
  obtain ⟨h1, h2⟩ := h
  rw [NV_length, Nat.mul_one] at h1
  rcases h2 with ⟨rfl, rfl⟩ | ⟨g, cap, cur, rfl, hb, hg, hn, hm, hs, ht⟩
  · exact ⟨none, 0, rfl, Row.zero _ _ _ _ _⟩
  · refine ⟨_, cap, rfl, hn, fun _ => ⟨g, 0, rfl, hb, (Array.getElem?_eq_some_iff.1 hg).1, fun j => ?_, fun j hj => ?_⟩⟩
    · simp [World.frozen?, hg]
    · rw [cell_of_row w g _ cur _ (0, 0) hg, Nat.zero_add]
      have := NV_get l j (by omega)
      rw [← ht, List.getElem?_take, if_pos (by omega)] at this
      simpa using this

theorem int_info : (Tryz.prog.info? 3).map (fun i => (i.zero, i.size, i.bytes)) = some (some (.int .i64 0), 1, 8) := by kernel_rfl

theorem cell_new1 (w : World) (v : Value) (t : TypeId) : (w.alloc (.cells #[v] t)).cell? ⟨w.heap.size, 0, none⟩ = some v := by
  rw [World.cell?_alloc_at _ _ _ _ rfl]; rfl
/-- 'out = append(out, q)' on a row of the call's own. -/
theorem wpList_app1 {w : World} {ops : Array Oper} {rest : List Oper} {o : Oper} {a : Act} {Q : Exit → Act → World → Prop} (hgd : o.guard = none) (s x : Operand)
    (ho : o.op = .call { callee := .builtin .append, args := #[s, x], argTypes := #[22, 22] })
    {base n : Nat} {v : Value} {l : List Nat} (hs : a.eval s = v) (hown : w.ownsRow base 3 1 v n (NV l)) {g d : Nat} {q : Int}
    (hx : a.eval x = .slice (some ⟨g, 0, none⟩) 1 1) (hc : w.cell? ⟨g, 0, none⟩ = some (.int .i64 q)) (hq : q = (d : Int)) (hn : n ≤ 1048576) (hbase : base ≤ w.heap.size)
    (h : ∀ v' w', w'.ownsRow base 3 1 v' (n + 1) (NV (l ++ [d])) → Below base w w' → wpList Tryz.prog ops Q rest (a.put o.dst v') w') : wpList Tryz.prog ops Q (o :: rest) a w := by
  obtain ⟨i0, hi, hz0, hz1, hz2⟩ := info_parts int_info
  refine wpList_append_own w hgd s x 22 ho base 3 i0 (.int .i64 0) 1 8 Tryz.underlying22 hi hz0 hz1 hz2 rfl (by decide) v n (NV l) hs hown ⟨g, 0, none⟩ 1 1 [.int .i64 q] hx rfl ?_ ?_ (by simp only [maxLen]; omega) (by omega) hbase ?_
  · intro j u hu
    cases j with
    | zero => simp at hu; subst hu; exact hc
    | succ j => simp at hu
  · intro u hu
    simp at hu
    subst hu
    rfl
  · intro v' w' h1 h2 _
    refine h v' w' (by rw [NV_snoc, ← hq]; exact h1) ((Below.refl base w).grown h2 hbase fun k hk => (hown.lt k hk).1)
/-! a block of ints that is known whole: the library's 'rowIs' -/
/-- Block g is a row of n ints, none frozen, of which number j is h j. -/
abbrev Blk (w : World) (g n : Nat) (h : Nat → Int) : Prop := w.rowIs g 3 n (fun j => .int .i64 (h j))
section
variable {w w' : World} {g n : Nat} {h h' : Nat → Int}
theorem Blk.below {B : Nat} (H : Blk w g n h) (hb : Below B w w') (hg : g < B) : Blk w' g n h := World.rowIs.of_block H (hb.block g hg)
theorem Blk.drewN (H : Blk w g n h) (k : Nat) : Blk (w.drewN k) g n h := H
theorem Blk.grown {row : Option Nat} (H : Blk w g n h) (hb : w.grownBy w' row) (hg : some g ≠ row) : Blk w' g n h := World.rowIs.of_block H (hb.block g H.lt hg)
theorem Blk.set_ (H : Blk w g n h) (i : Nat) (u : Int) : Blk (w.setCell ⟨g, i, none⟩ (.int .i64 u)) g n (fun j => if j = i then u else h j) :=
  (World.rowIs.set H i (.int .i64 u)).congr fun j _ => by show (if j = i then Value.int .i64 u else .int .i64 (h j)) = .int .i64 (if j = i then u else h j); split <;> rfl
theorem Blk.to (H : Blk w g n h) (he : ∀ j, j < n → h j = h' j) : Blk w g n h' := World.rowIs.congr H fun j hj => by rw [he j hj]
theorem Blk.row {lo : Nat} (H : Blk w g n h) (hg : lo ≤ g) : Row w lo (some ⟨g, 0, none⟩) n n h :=
  ⟨Nat.le_refl _, fun _ => ⟨g, 0, rfl, hg, H.lt, H.frozen, fun j hj => by rw [Nat.zero_add]; exact World.rowIs.cell H hj⟩⟩
theorem Blk.cell (H : Blk w g n h) (j : Nat) (hj : j < n) : w.cell? ⟨g, j, none⟩ = some (.int .i64 (h j)) := World.rowIs.cell H hj
end
end Go.Proofs.YtgchbbjhdeobpaaGreatDoor
