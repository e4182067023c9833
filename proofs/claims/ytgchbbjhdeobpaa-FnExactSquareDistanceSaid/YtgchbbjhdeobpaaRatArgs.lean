import Derived.Test.YtgchbbjhdeobpaaArgs
/-
  Fractions and points that come in as a law's arguments, opened.
-/
namespace Go.Proofs.Ytgchbbjhdeobpaa
set_option linter.unusedVariables false
open Go.ChangeShapes Go.WideShapes Go.ChangeAt Go.RowKit
theorem array6 {α : Type} {cs : Array α} (h : cs.size = 6) : ∃ c0 c1 c2 c3 c4 c5, cs = #[c0, c1, c2, c3, c4, c5] := by
  obtain ⟨l⟩ := cs
  match l, h with
  | [c0, c1, c2, c3, c4, c5], _ => exact ⟨c0, c1, c2, c3, c4, c5, rfl⟩
set_option maxRecDepth 100000 in
theorem list_bigint {H : Type} {enc : TypeId × Value → H} {w : World} {base fuel : Nat} {spare : Nat → Bool} {held : Bool} {c0 c1 : Value} {y : DataW H × List MemPlace}
    (h : DataW.trod enc Try.prog w base spare held fuel 24 [c0, c1] = some y) :
    ∃ (b : Bool) (A : Option Addr) (n c : Nat) (f : Nat → Int), c0 = .bool b ∧ c1 = .slice A n c ∧ Rd w A n c f ∧ n ≤ 9223372036854775807 := by
  obtain ⟨y0, y1, m, rfl, hl, h0, h1⟩ := trod_struct2 Try.underlying24 h
  have k0 : Try.prog.cellsOf 4 = 1 := by kernel_rfl
  have k1 : Try.prog.cellsOf 22 = 1 := by kernel_rfl
  simp [k0] at h0
  simp [k1] at h1
  obtain ⟨x, e0, _⟩ := DataW.trod_bool Try.underlying4 h0
  obtain ⟨A, n, c, e1⟩ := Joins.slice_form Try.underlying22 h1
  simp at e0 e1
  subst e0 e1
  have hs : DataW.Trod enc Try.prog w base spare held 22 (.slice A n c) y1.1 y1.2 := ⟨m, h1⟩
  obtain ⟨f, hr⟩ := open_rd hs
  exact ⟨x, A, n, c, f, rfl, rfl, hr, rd_len hs⟩
set_option maxRecDepth 100000 in
theorem list_rat {H : Type} {enc : TypeId × Value → H} {w : World} {base fuel : Nat} {spare : Nat → Bool} {held : Bool} {c0 c1 c2 : Value} {y : DataW H × List MemPlace}
    (h : DataW.trod enc Try.prog w base spare held fuel 26 [c0, c1, c2] = some y) :
    ∃ (b : Bool) (A : Option Addr) (n c : Nat) (f : Nat → Int) (D : Option Addr) (m e : Nat) (g : Nat → Int), c0 = .bool b ∧ c1 = .slice A n c ∧ c2 = .slice D m e ∧ Rd w A n c f ∧ n ≤ 9223372036854775807 ∧ Rd w D m e g ∧ m ≤ 9223372036854775807 := by
  obtain ⟨y0, y1, m, rfl, hl, h0, h1⟩ := trod_struct2 Try.underlying26 h
  have k0 : Try.prog.cellsOf 24 = 2 := by kernel_rfl
  have k1 : Try.prog.cellsOf 22 = 1 := by kernel_rfl
  simp [k0] at h0
  simp [k1] at h1
  obtain ⟨x, A, n, c, f, rfl, rfl, hr, hn⟩ := list_bigint h0
  obtain ⟨D, m', e, e1⟩ := Joins.slice_form Try.underlying22 h1
  simp at e1
  subst e1
  have hs : DataW.Trod enc Try.prog w base spare held 22 (.slice D m' e) y1.1 y1.2 := ⟨m, h1⟩
  obtain ⟨g, hg⟩ := open_rd hs
  exact ⟨x, A, n, c, f, D, m', e, g, rfl, rfl, rfl, hr, hn, hg, rd_len hs⟩
set_option maxRecDepth 100000 in
/-- A fraction that came in. -/
theorem open_rat {H : Type} {enc : TypeId × Value → H} {w : World} {base b0 : Nat} {r : Reach} {spare : Nat → Bool} {held : Bool} {v : Value} {d : DataW H} {p : List MemPlace}
    (hv : Value.okWide Try.prog w r b0 26 v) (h : DataW.Trod enc Try.prog w base spare held 26 v d p) :
    ∃ (b : Bool) (A : Option Addr) (n c : Nat) (f : Nat → Int) (D : Option Addr) (m e : Nat) (g : Nat → Int), v = .agg #[.bool b, .slice A n c, .slice D m e] ∧ Rd w A n c f ∧ n ≤ 9223372036854775807 ∧ Rd w D m e g ∧ m ≤ 9223372036854775807 := by
  obtain ⟨cs, rfl, hsz⟩ := okWide_struct Try.underlying26 hv
  have k : Try.prog.cellsOf 26 = 3 := by kernel_rfl
  obtain ⟨c0, c1, c2, rfl⟩ := Joins.array3 (hsz.trans k)
  obtain ⟨fuel, hf⟩ := h
  obtain ⟨b, A, n, c, f, D, m, e, g, rfl, rfl, rfl, h1, h2, h3, h4⟩ := list_rat (by simpa [Value.cells] using hf)
  exact ⟨b, A, n, c, f, D, m, e, g, rfl, h1, h2, h3, h4⟩
set_option maxRecDepth 100000 in
/-- A point that came in. -/
theorem open_point {H : Type} {enc : TypeId × Value → H} {w : World} {base b0 : Nat} {r : Reach} {spare : Nat → Bool} {held : Bool} {v : Value} {d : DataW H} {p : List MemPlace}
    (hv : Value.okWide Try.prog w r b0 28 v) (h : DataW.Trod enc Try.prog w base spare held 28 v d p) :
    ∃ (b : Bool) (A : Option Addr) (n c : Nat) (f : Nat → Int) (D : Option Addr) (m e : Nat) (g : Nat → Int) (b' : Bool) (A' : Option Addr) (n' c' : Nat) (f' : Nat → Int) (D' : Option Addr) (m' e' : Nat) (g' : Nat → Int), v = .agg #[.bool b, .slice A n c, .slice D m e, .bool b', .slice A' n' c', .slice D' m' e'] ∧ Rd w A n c f ∧ n ≤ 9223372036854775807 ∧ Rd w D m e g ∧ m ≤ 9223372036854775807 ∧ Rd w A' n' c' f' ∧ n' ≤ 9223372036854775807 ∧ Rd w D' m' e' g' ∧ m' ≤ 9223372036854775807 := by
  obtain ⟨cs, rfl, hsz⟩ := okWide_struct Try.underlying28 hv
  have k : Try.prog.cellsOf 28 = 6 := by kernel_rfl
  have k3 : Try.prog.cellsOf 26 = 3 := by kernel_rfl
  obtain ⟨c0, c1, c2, c3, c4, c5, rfl⟩ := array6 (hsz.trans k)
  obtain ⟨fuel, hf⟩ := h
  obtain ⟨y0, y1, m, _, _, h0, h1⟩ := trod_struct2 Try.underlying28 hf
  simp [Value.cells, k3] at h0 h1
  obtain ⟨b, A, n, c, f, D, m, e, g, rfl, rfl, rfl, j1, j2, j3, j4⟩ := list_rat h0
  obtain ⟨b', A', n', c', f', D', m', e', g', rfl, rfl, rfl, i1, i2, i3, i4⟩ := list_rat h1
  exact ⟨b, A, n, c, f, D, m, e, g, b', A', n', c', f', D', m', e', g', rfl, j1, j2, j3, j4, i1, i2, i3, i4⟩
end Go.Proofs.Ytgchbbjhdeobpaa
