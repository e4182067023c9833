import Derived.Test.YtgchbbjhdeobpaaGreatDoorArgs
import Derived.Laws.IdiomStrings
import Derived.Lib.ItoaNum
/-
  Words for memory: a slice of strings that reads as a row of texts; the row of strings that a call appends to; one byte as a text.
-/
namespace Go.Proofs.YtgchbbjhdeobpaaGreatDoor
set_option linter.unusedVariables false
open Go.RowKit

/-- The slice value (A, n, c) holds the ints f 0 .. f (n - 1) in w, in a block from lo on of which nothing is frozen. -/
def SRow (w : World) (lo : Nat) (A : Option Addr) (n c : Nat) (f : Nat → ByteArray) : Prop :=
  n ≤ c ∧ (0 < n → ∃ b off, A = some ⟨b, off, none⟩ ∧ lo ≤ b ∧ b < w.heap.size ∧ (∀ j, w.frozen? ⟨b, j, none⟩ = false) ∧ ∀ j, j < n → w.cell? ⟨b, off + j, none⟩ = some (.string (f j)))
/-- The same, where nothing is said of what is frozen: enough to read. -/
def SRd (w : World) (A : Option Addr) (n c : Nat) (f : Nat → ByteArray) : Prop :=
  n ≤ c ∧ (0 < n → ∃ b off, A = some ⟨b, off, none⟩ ∧ b < w.heap.size ∧ ∀ j, j < n → w.cell? ⟨b, off + j, none⟩ = some (.string (f j)))

section
variable {w w' : World} {lo lo' n c : Nat} {A : Option Addr} {f g : Nat → ByteArray}
theorem SRow.rd (h : SRow w lo A n c f) : SRd w A n c f :=
  ⟨h.1, fun hn => let ⟨b, off, e, _, hs, _, hc⟩ := h.2 hn; ⟨b, off, e, hs, hc⟩⟩
theorem SRow.zero (w : World) (lo : Nat) (A : Option Addr) (c : Nat) (f : Nat → ByteArray) : SRow w lo A 0 c f := ⟨Nat.zero_le _, fun h => by omega⟩
theorem SRow.more (h : SRow w lo A n c f) (hl : lo' ≤ lo) : SRow w lo' A n c f :=
  ⟨h.1, fun hn => let ⟨b, off, e, hb, hs, hf, hc⟩ := h.2 hn; ⟨b, off, e, by omega, hs, hf, hc⟩⟩
theorem SRow.congr (h : SRow w lo A n c f) (he : ∀ j, j < n → f j = g j) : SRow w lo A n c g :=
  ⟨h.1, fun hn => let ⟨b, off, e, hb, hs, hf, hc⟩ := h.2 hn; ⟨b, off, e, hb, hs, hf, fun j hj => by rw [hc j hj, he j hj]⟩⟩
theorem SRow.below {B : Nat} (h : SRow w lo A n c f) (hb : Below B w w') (hB : w.heap.size ≤ B) : SRow w' lo A n c f :=
  ⟨h.1, fun hn => let ⟨b, off, e, hl, hs, hf, hc⟩ := h.2 hn
    ⟨b, off, e, hl, by have := hb.size; omega, fun j => by rw [hb.frozen (by show b < B; omega)]; exact hf j, fun j hj => by rw [hb.cell (by show b < B; omega)]; exact hc j hj⟩⟩
theorem SRd.below {B : Nat} (h : SRd w A n c f) (hb : Below B w w') (hB : w.heap.size ≤ B) : SRd w' A n c f :=
  ⟨h.1, fun hn => let ⟨b, off, e, hs, hc⟩ := h.2 hn
    ⟨b, off, e, by have := hb.size; omega, fun j hj => by rw [hb.cell (by show b < B; omega)]; exact hc j hj⟩⟩
theorem SRow.take (h : SRow w lo A n c f) {m : Nat} (hm : m ≤ n) : SRow w lo A m c f :=
  ⟨Nat.le_trans hm h.1, fun hn => let ⟨b, off, e, hb, hs, hf, hc⟩ := h.2 (by omega); ⟨b, off, e, hb, hs, hf, fun j hj => hc j (by omega)⟩⟩
end


/-- Numbers as cells. -/
def SV (l : List ByteArray) : List Value := l.map fun (d : ByteArray) => Value.string d
theorem SV_length (l : List ByteArray) : (SV l).length = l.length := by simp [SV]
theorem SV_snoc (l : List ByteArray) (d : ByteArray) : SV (l ++ [d]) = SV l ++ [.string d] := by simp [SV]
theorem SV_get (l : List ByteArray) (j : Nat) (h : j < l.length) : (SV l)[j]? = some (.string (l.getD j ByteArray.empty)) := by
  simp [SV, List.getD_eq_getElem?_getD, List.getElem?_eq_getElem h]
theorem own_srow {w : World} {base n : Nat} {v : Value} {l : List ByteArray} (h : w.ownsRow base 9 1 v n (SV l)) :
    ∃ A c, v = .slice A n c ∧ SRow w base A n c (fun j => l.getD j ByteArray.empty) := by
  obtain ⟨h1, h2⟩ := h
  rw [SV_length, Nat.mul_one] at h1
  rcases h2 with ⟨rfl, rfl⟩ | ⟨g, cap, cur, rfl, hb, hg, hn, hm, hs, ht⟩
  · exact ⟨none, 0, rfl, SRow.zero _ _ _ _ _⟩
  · refine ⟨_, cap, rfl, hn, fun _ => ⟨g, 0, rfl, hb, (Array.getElem?_eq_some_iff.1 hg).1, fun j => ?_, fun j hj => ?_⟩⟩
    · simp [World.frozen?, hg]
    · rw [cell_of_row w g _ cur _ (0, 0) hg, Nat.zero_add]
      have := SV_get l j (by omega)
      rw [← ht, List.getElem?_take, if_pos (by omega)] at this
      simpa using this

theorem string_info : (Tryz.prog.info? 9).map (fun i => (i.zero, i.size, i.bytes)) = some (some (.string ByteArray.empty), 1, 16) := by kernel_rfl

/-- 'out = append(out, q)' on a row of the call's own. -/
theorem wpList_sapp1 {w : World} {ops : Array Oper} {rest : List Oper} {o : Oper} {a : Act} {Q : Exit → Act → World → Prop} (hgd : o.guard = none) (s x : Operand)
    (ho : o.op = .call { callee := .builtin .append, args := #[s, x], argTypes := #[39, 39] })
    {base n : Nat} {v : Value} {l : List ByteArray} (hs : a.eval s = v) (hown : w.ownsRow base 9 1 v n (SV l)) {g : Nat} {d : ByteArray}
    (hx : a.eval x = .slice (some ⟨g, 0, none⟩) 1 1) (hc : w.cell? ⟨g, 0, none⟩ = some (.string d)) (hn : n ≤ 1048576) (hbase : base ≤ w.heap.size)
    (h : ∀ v' w', w'.ownsRow base 9 1 v' (n + 1) (SV (l ++ [d])) → Below base w w' → wpList Tryz.prog ops Q rest (a.put o.dst v') w') : wpList Tryz.prog ops Q (o :: rest) a w := by
  obtain ⟨i0, hi, hz0, hz1, hz2⟩ := info_parts string_info
  refine wpList_append_own w hgd s x 39 ho base 9 i0 (.string ByteArray.empty) 1 16 Tryz.underlying39 hi hz0 hz1 hz2 rfl (by decide) v n (SV l) hs hown ⟨g, 0, none⟩ 1 1 [.string d] hx rfl ?_ ?_ (by simp only [maxLen]; omega) (by omega) hbase ?_
  · intro j u hu
    cases j with
    | zero => simp at hu; subst hu; exact hc
    | succ j => simp at hu
  · intro u hu
    simp at hu
    subst hu
    rfl
  · intro v' w' h1 h2 _
    refine h v' w' (by rw [SV_snoc]; exact h1) ((Below.refl base w).grown h2 hbase fun k hk => (hown.lt k hk).1)

/-! a block of ints that is known whole: the library's 'rowIs' -/
/-- Block g is a row of n ints, none frozen, of which number j is h j. -/
abbrev SBlk (w : World) (g n : Nat) (h : Nat → ByteArray) : Prop := w.rowIs g 9 n (fun j => .string (h j))
section
variable {w w' : World} {g n : Nat} {h h' : Nat → ByteArray}
theorem SBlk.below {B : Nat} (H : SBlk w g n h) (hb : Below B w w') (hg : g < B) : SBlk w' g n h := World.rowIs.of_block H (hb.block g hg)
theorem SBlk.drewN (H : SBlk w g n h) (k : Nat) : SBlk (w.drewN k) g n h := H
theorem SBlk.grown {row : Option Nat} (H : SBlk w g n h) (hb : w.grownBy w' row) (hg : some g ≠ row) : SBlk w' g n h := World.rowIs.of_block H (hb.block g H.lt hg)
theorem SBlk.set_ (H : SBlk w g n h) (i : Nat) (u : ByteArray) : SBlk (w.setCell ⟨g, i, none⟩ (.string u)) g n (fun j => if j = i then u else h j) :=
  (World.rowIs.set H i (.string u)).congr fun j _ => by show (if j = i then Value.string u else .string (h j)) = .string (if j = i then u else h j); split <;> rfl
theorem SBlk.to (H : SBlk w g n h) (he : ∀ j, j < n → h j = h' j) : SBlk w g n h' := World.rowIs.congr H fun j hj => by rw [he j hj]
theorem SBlk.row {lo : Nat} (H : SBlk w g n h) (hg : lo ≤ g) : SRow w lo (some ⟨g, 0, none⟩) n n h :=
  ⟨Nat.le_refl _, fun _ => ⟨g, 0, rfl, hg, H.lt, H.frozen, fun j hj => by rw [Nat.zero_add]; exact World.rowIs.cell H hj⟩⟩
theorem SBlk.cell (H : SBlk w g n h) (j : Nat) (hj : j < n) : w.cell? ⟨g, j, none⟩ = some (.string (h j)) := World.rowIs.cell H hj
end

theorem SRow.set {w : World} {lo n c b off i : Nat} {f : Nat → ByteArray} (h : SRow w lo (some ⟨b, off, none⟩) n c f) (hi : i < n) (u : ByteArray) :
    SRow (w.setCell ⟨b, off + i, none⟩ (.string u)) lo (some ⟨b, off, none⟩) n c (fun j => if j = i then u else f j) := by
  refine ⟨h.1, fun hn => ?_⟩
  obtain ⟨b', off', e, hl, hs, hf, hc⟩ := h.2 hn
  injection e with e
  injection e with e1 e2
  subst e1 e2
  refine ⟨b, off, rfl, hl, by simpa [World.setCell] using hs, fun j => (World.frozen?_setCell _ _ _ _).trans (hf j), fun j hj => ?_⟩
  show World.cell? _ _ = some (.string (if j = i then u else f j))
  by_cases e : j = i
  · subst e
    rw [if_pos rfl]
    exact World.cell?_setCell_same _ _ _ (hc j hj)
  · rw [if_neg e, World.cell?_setCell_other _ _ _ _ (by simp <;> omega)]
    exact hc j hj

section
variable {w w1 w2 : World} {lo hi n m c c' : Nat} {A A' : Option Addr} {f g : Nat → ByteArray}
theorem SRow.lim (h : SRow w lo A n c f) : Lim w.heap.size A n := fun hn a e => by
  obtain ⟨b, off, e', _, hs, _⟩ := h.2 hn
  rw [e'] at e; injection e with e; subst e; exact hs
theorem SRow.low (h : SRow w lo A n c f) : Low lo A n := fun hn a e => by
  obtain ⟨b, off, e', hl, _⟩ := h.2 hn
  rw [e'] at e; injection e with e; subst e; exact hl
theorem SRow.kept (h : SRow w1 lo A n c f) (hg : w1.grownBy w2 (rowOf A' m)) (hne : ∀ a a', 0 < n → 0 < m → A = some a → A' = some a' → a.block ≠ a'.block) : SRow w2 lo A n c f := by
  refine ⟨h.1, fun hn => ?_⟩
  obtain ⟨b, off, e, hl, hs, hf, hc⟩ := h.2 hn
  have hb : some b ≠ rowOf A' m := fun hk => by
    obtain ⟨hm, a', e', hk'⟩ := rowOf_some hk.symm
    exact hne _ _ hn hm e e' hk'.symm
  have hblk := hg.block b hs hb
  exact ⟨b, off, e, hl, Nat.lt_of_lt_of_le hs hg.size, fun j => (World.frozen?_of_block (w := w1) hblk).trans (hf j), fun j hj => (World.cell?_of_block (w := w1) hblk).trans (hc j hj)⟩
/-- A row that is older than what is written. -/
theorem SRow.older (h : SRow w1 lo A n c f) (hg : w1.grownBy w2 (rowOf A' m)) {lo' : Nat} (h1 : Lim hi A n) (h2 : Low lo' A' m) (hl : hi ≤ lo') : SRow w2 lo A n c f :=
  h.kept hg fun a a' hn hm e e' => by have := h1 hn a e; have := h2 hm a' e'; omega
/-- A row that is younger than what is written. -/
theorem SRow.younger (h : SRow w1 lo A n c f) (hg : w1.grownBy w2 (rowOf A' m)) {lo' : Nat} (h1 : Low lo' A n) (h2 : Lim hi A' m) (hl : hi ≤ lo') : SRow w2 lo A n c f :=
  h.kept hg fun a a' hn hm e e' => by have := h1 hn a e; have := h2 hm a' e'; omega
theorem SRow.apart {hi' lo' lo0 : Nat} (h : SRow w1 lo A n c f) (hg : w1.grownBy w2 (rowOf A' m)) (h1 : Lim hi A n) (h1' : Low lo0 A n) (h2 : Lim hi' A' m) (h2' : Low lo' A' m) (hl : hi ≤ lo' ∨ hi' ≤ lo0) : SRow w2 lo A n c f :=
  h.kept hg fun a a' hn hm e e' => by have := h1 hn a e; have := h1' hn a e; have := h2 hm a' e'; have := h2' hm a' e'; omega
end


/-! the marks' texts -/
def decX (u : Nat) : List UInt8 := if u = 0 then [] else Lib.decDigits u
theorem decX_step {u : Nat} (h : 0 < u) : decX u = decX (u / 10) ++ [UInt8.ofNat (48 + u % 10)] := by
  unfold decX
  rw [if_neg (by omega), Lib.decDigits]
  split
  · rw [if_pos (by omega), Nat.mod_eq_of_lt (by omega)]
    rfl
  · rw [if_neg (by omega)]
def oneB (z : Int) : ByteArray := ⟨#[UInt8.ofNat z.toNat]⟩
theorem oneB_size (z : Int) : (oneB z).size = 1 := rfl
def txt (l : List UInt8) : ByteArray := ⟨l.toArray⟩
theorem txt_size (l : List UInt8) : (txt l).size = l.length := by simp [txt, ByteArray.size]
theorem oneB_app (k : Nat) (l : List UInt8) (hk : k < 256) : oneB (k : Int) ++ txt l = txt (UInt8.ofNat k :: l) := by
  apply ByteArray.ext
  rw [ByteArray.data_append]
  simp [oneB, txt]
theorem txt_app (l m : List UInt8) : txt l ++ txt m = txt (l ++ m) := by
  apply ByteArray.ext
  rw [ByteArray.data_append]
  simp [txt]
theorem conv_one (w : World) (g : Nat) (z : Int) (h0 : 0 ≤ z) (h1 : z < 256) (h : w.cell? ⟨g, 0, none⟩ = some (.int .u8 z)) :
    (convert 32 9 (.slice (some ⟨g, 0, none⟩) 1 1)).run Tryz.prog w = .ok (.string (oneB z)) w := by
  have hh := run_convert_bytes_back (P := Tryz.prog) w 32 9 5 ⟨g, 0, none⟩ 1 [UInt8.ofNat z.toNat] Tryz.underlying32 Tryz.underlying5 Tryz.underlying9 (fun j hj => by
    have e : j = 0 := by simp at hj; omega
    subst e
    show w.cell? ⟨g, 0, none⟩ = _
    rw [h]
    congr 2
    simp
    omega)
  exact hh
theorem conv_new (w : World) (z : Int) (h0 : 0 ≤ z) (h1 : z < 256) :
    (convert 32 9 (.slice (some ⟨w.heap.size, 0, none⟩) 1 1)).run Tryz.prog (w.alloc (.cells #[.int .u8 z] 5)) = .ok (.string (oneB z)) (w.alloc (.cells #[.int .u8 z] 5)) :=
  conv_one _ _ z h0 h1 (cell_new1 _ _ _)

end Go.Proofs.YtgchbbjhdeobpaaGreatDoor
