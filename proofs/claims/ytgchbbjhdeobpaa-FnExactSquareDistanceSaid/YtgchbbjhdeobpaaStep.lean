import Derived.Test.YtgchbbjhdeobpaaWk
import Derived.Maps.AppendAt
/-
  'append([]int{}, m...)' at a step of a region that draws its order.
-/
namespace Go.Proofs.Ytgchbbjhdeobpaa
set_option linter.unusedVariables false
open Go.RowKit Num
/-- Block g is an empty row of ints. -/
def Own0 (w : World) (g : Nat) : Prop := w.heap[g]? = some (.cells #[] 3 (0, 0))
section
variable {w w' : World} {g : Nat}
theorem Own0.lt (h : Own0 w g) : g < w.heap.size := (Array.getElem?_eq_some_iff.1 h).1
theorem Own0.below {B : Nat} (h : Own0 w g) (hb : Below B w w') (hg : g < B) : Own0 w' g := (hb.block g hg).trans h
theorem Own0.old (h : Own0 w g) (hb : Old w w') : Own0 w' g := h.below hb h.lt
theorem Own0.new (w : World) : Own0 (w.alloc (.cells #[] 3)) w.heap.size := heap_alloc_new w _
theorem Own0.alloc (h : Own0 w g) (o : Obj) : Own0 (w.alloc o) g := (Below.heap_alloc w o g h.lt).trans h
theorem Own0.far (h : Own0 w g) {p : Addr} (hp : ¬ p.block = g) (u : Value) : Own0 (w.setCell p u) g := (Below.heap_setCell w p u g (fun e => hp e.symm)).trans h
theorem Own0.drewN (h : Own0 w g) (k : Nat) : Own0 (w.drewN k) g := h
theorem Own0.drew (h : Own0 w g) : Own0 w.drew g := h
theorem Own0.kept {row : Option Nat} (h : Own0 w g) (hg : w.grownBy w' row) (hne : some g ≠ row) : Own0 w' g := (hg.block g h.lt hne).trans h
theorem Own0.bx (h : Own0 w g) : Bx w g #[] := ⟨_, h⟩
theorem Own0.owns (h : Own0 w g) : w.ownsRow g 3 1 (.slice (some ⟨g, 0, none⟩) 0 0) 0 [] := ⟨rfl, Or.inr ⟨g, 0, #[], rfl, Nat.le_refl _, h, Nat.le_refl _, Nat.zero_le _, rfl, rfl⟩⟩
end
theorem Own0.new' {w : World} {g : Nat} (hg : g = w.heap.size) : Own0 (w.alloc (.cells #[] 3)) g := hg ▸ Own0.new w
theorem Row.keptG {w w' : World} {g lo n c : Nat} {A : Option Addr} {f : Nat → Int} (h : Row w lo A n c f) (hg : w.grownBy w' (some g)) (ho : Off g A n) : Row w' lo A n c f :=
  ⟨h.1, fun hn => let ⟨b, off, e, hl, hs, hf, hc⟩ := h.2 hn
    have hb := hg.block b hs fun e' => ho hn _ e (by injection e')
    ⟨b, off, e, hl, Nat.lt_of_lt_of_le hs hg.size, fun j => (World.frozen?_of_block (w := w) hb).trans (hf j), fun j hj => (World.cell?_of_block (w := w) hb).trans (hc j hj)⟩⟩
theorem Bx.keptG {w w' : World} {g b : Nat} {cs : Array Value} (h : Bx w b cs) (hg : w.grownBy w' (some g)) (hne : ¬ b = g) : Bx w' b cs := h.kept hg fun e => hne (by injection e)
theorem Below.growG {B g : Nat} {a w w' : World} (h : Below B a w) (hg : w.grownBy w' (some g)) (hB : B ≤ w.heap.size) (hr : B ≤ g) : Below B a w' := h.grown hg hB fun k hk => by injection hk with hk; omega
set_option maxRecDepth 100000 in
theorem run_clone (w : World) {ty : TypeId} {g n lo c : Nat} {A : Option Addr} {f : Nat → Int} (h0 : Own0 w g) (hr : Row w lo A n c f) (hn : n ≤ 1048576) :
    ∃ A' c' w', (Builtin.append_ #[22, 22] ty #[.slice (some ⟨g, 0, none⟩) 0 0, .slice A n c]).run Try.prog w = .ok (.slice A' n c') w' ∧ Row w' g A' n c' f ∧ w.grownBy w' (some g) ∧ (∀ a, A' = some a → a.block = g ∨ a.block = w.heap.size) := by
  obtain ⟨i0, hi, hz0, hz1, hz2⟩ := info_parts int_info
  cases A with
  | none =>
    obtain rfl : n = 0 := by
      rcases Nat.eq_zero_or_pos n with h0 | h0
      · exact h0
      · obtain ⟨b, off, e, _⟩ := hr.2 h0
        cases e
    have hrun := run_append_nothing (P := Try.prog) w 22 22 ty 3 i0 Try.underlying22 hi (some ⟨g, 0, none⟩) 0 0 (Nat.zero_le _) (.slice none 0 c)
      ⟨.inl ⟨_, Try.underlying22⟩, fun _ => rfl, rfl, rfl, by simp, fun u hu => by cases hu⟩
    exact ⟨_, _, _, hrun, Row.zero _ _ _ _ _, World.grownBy.refl w _, fun a e => by injection e with e; subst e; exact Or.inl rfl⟩
  | some ad =>
    obtain ⟨v', w', hrun, h1, h2, _, h5⟩ := run_append_own_at (P := Try.prog) w g 22 ty 3 i0 (.int .i64 0) 1 8 Try.underlying22 hi hz0 hz1 hz2 rfl (by decide) (.slice (some ⟨g, 0, none⟩) 0 0) 0 [] h0.owns ad n c (IV n f) (by simp [IV_length])
      (by
        intro j u hu
        have hj : j < n := by
          have := (List.getElem?_eq_some_iff.1 hu).1
          rwa [IV_length] at this
        rw [IV_get n f j hj] at hu
        injection hu with hu
        subst hu
        obtain ⟨b, off, e, hl, hsz, hfz, hc⟩ := hr.2 (by omega)
        injection e with e
        subst e
        rw [Addr.add_lit]
        exact hc j hj)
      (by
        intro u hu
        obtain ⟨j, _, rfl⟩ := List.mem_map.1 hu
        rfl)
      (by simp only [maxLen]; omega) (by omega) (Nat.le_of_lt h0.lt)
    rw [Nat.zero_add, List.nil_append] at h1
    obtain ⟨A', c', rfl, r⟩ := own_rowI h1
    refine ⟨A', c', w', hrun, r, h2, fun a e => ?_⟩
    subst e
    rcases h5 with h5 | h5
    · injection h5 with h5; exact Or.inl h5
    · injection h5 with h5; exact Or.inr h5
set_option maxRecDepth 100000 in
theorem step_clone {w : World} {ops : Array Oper} {o : Oper} {a : Act} {K : Act → World → Prop} {Q : Exit → Act → World → Prop} {E : Prop} (hgd : o.guard = none) (s x : Operand)
    (ho : o.op = .call { callee := .builtin .append, args := #[s, x], argTypes := #[22, 22] })
    {g n lo c : Nat} {A : Option Addr} {f : Nat → Int} (hs : a.eval s = .slice (some ⟨g, 0, none⟩) 0 0) (h0 : Own0 w g) (hx : a.eval x = .slice A n c) (hr : Row w lo A n c f) (hn : n ≤ 1048576)
    (h : ∀ A' c' w', Row w' g A' n c' f → w.grownBy w' (some g) → (∀ a, A' = some a → a.block = g ∨ a.block = w.heap.size) → K (a.put o.dst (.slice A' n c')) w') :
    if Region.wanted o (yielded ops a.tmps) = true then Oper.wp Try.prog o a w K Q else E := by
  have hw : Region.wanted o (yielded ops a.tmps) = true := by simp [Region.wanted, hgd]
  rw [if_pos hw]
  obtain ⟨A', c', w', hrun, h1, h2, h3⟩ := run_clone w (ty := o.type) h0 hr hn
  unfold Oper.wp execOp
  simp only [ho, resolve, invoke, builtin, Sem.run_bind, Sem.run_pure, Result.andThen_ok, List.map_toArray, List.map_cons, List.map_nil, hs, hx, hrun]
  exact h A' c' w' h1 h2 h3
theorem stepNamed {w : World} {o : Oper} {ops : Array Oper} {a : Act} {K : Act → World → Prop} {Q : Exit → Act → World → Prop} {E : Prop} {P : Program}
    (h : ∀ x, x = w → if Region.wanted o (yielded ops a.tmps) = true then Oper.wp P o a x K Q else E) : if Region.wanted o (yielded ops a.tmps) = true then Oper.wp P o a w K Q else E := h w rfl
end Go.Proofs.Ytgchbbjhdeobpaa
