import Derived.Test.YtgchbbjhdeobpaaGreatDoorLawInts
import Derived.Deep.Upon
/-
  'append([]int{}, m...)' and slices.Clone: a row of the call's own that reads as the old one.
-/
namespace Go.Proofs.YtgchbbjhdeobpaaGreatDoor
set_option linter.unusedVariables false
open Go.RowKit

/-- The first n numbers of f, as cells. -/
def IV (n : Nat) (f : Nat → Int) : List Value := (List.range n).map fun j => Value.int .i64 (f j)
theorem IV_get (n : Nat) (f : Nat → Int) (j : Nat) (h : j < n) : (IV n f)[j]? = some (.int .i64 (f j)) := by simp [IV, h]
theorem IV_length (n : Nat) (f : Nat → Int) : (IV n f).length = n := by simp [IV]
theorem own_rowI {w : World} {base n : Nat} {v : Value} {f : Nat → Int} (h : w.ownsRow base 3 1 v n (IV n f)) :
    ∃ A c, v = .slice A n c ∧ Row w base A n c f := by
  obtain ⟨h1, h2⟩ := h
  rcases h2 with ⟨rfl, rfl⟩ | ⟨g, cap, cur, rfl, hb, hg, hn, hm, hs, ht⟩
  · exact ⟨none, 0, rfl, Row.zero _ _ _ _ _⟩
  · refine ⟨_, cap, rfl, hn, fun _ => ⟨g, 0, rfl, hb, (Array.getElem?_eq_some_iff.1 hg).1, fun j => ?_, fun j hj => ?_⟩⟩
    · simp [World.frozen?, hg]
    · rw [cell_of_row w g _ cur _ (0, 0) hg, Nat.zero_add]
      have := IV_get n f j hj
      rw [← ht, List.getElem?_take, if_pos (by omega)] at this
      simpa using this

set_option maxRecDepth 100000 in
/-- 'append(own, m...)' where own is an empty row of the call's own. -/
theorem wpList_clone {w : World} {ops : Array Oper} {rest : List Oper} {o : Oper} {a : Act} {Q : Exit → Act → World → Prop} (hgd : o.guard = none) (s x : Operand)
    (ho : o.op = .call { callee := .builtin .append, args := #[s, x], argTypes := #[22, 22] })
    {base n lo c : Nat} {A : Option Addr} {f : Nat → Int} {v : Value} (hs : a.eval s = v) (hown : w.ownsRow base 3 1 v 0 [])
    (hx : a.eval x = .slice A n c) (hr : Row w lo A n c f) (hn : n ≤ 1048576) (hbase : base ≤ w.heap.size)
    (h : ∀ A' c' w', Row w' base A' n c' f → Below base w w' → wpList Tryz.prog ops Q rest (a.put o.dst (.slice A' n c')) w') : wpList Tryz.prog ops Q (o :: rest) a w := by
  obtain ⟨i0, hi, hz0, hz1, hz2⟩ := info_parts int_info
  cases A with
  | none =>
    obtain rfl : n = 0 := by
      rcases Nat.eq_zero_or_pos n with h0 | h0
      · exact h0
      · obtain ⟨b, off, e, _⟩ := hr.2 h0
        cases e
    obtain ⟨A0, c0, rfl, hr0⟩ := own_rowI (f := f) (n := 0) hown
    refine wpList_plain hgd fun K hK => ?_
    have hrun := run_append_nothing (P := Tryz.prog) w 22 22 o.type 3 i0 Tryz.underlying22 hi A0 0 c0 (Nat.zero_le _) (.slice none 0 c)
      ⟨.inl ⟨_, Tryz.underlying22⟩, fun _ => rfl, rfl, rfl, by simp, fun u hu => by cases hu⟩
    unfold Oper.wp execOp
    simp only [ho, resolve, invoke, builtin, Sem.run_bind, Sem.run_pure, Result.andThen_ok, List.map_toArray, List.map_cons, List.map_nil, hs, hx, hrun]
    exact hK _ _ (h _ _ _ ⟨Nat.zero_le _, fun h => by omega⟩ (Below.refl _ _))
  | some ad =>
    refine wpList_append_own w hgd s x 22 ho base 3 i0 (.int .i64 0) 1 8 Tryz.underlying22 hi hz0 hz1 hz2 rfl (by decide) v 0 [] hs hown ad n c (IV n f) hx (by simp [IV_length]) ?_ ?_ (by simp only [maxLen]; omega) (by omega) hbase ?_
    · intro j u hu
      have hj : j < n := by
        have := (List.getElem?_eq_some_iff.1 hu).1
        rwa [IV_length] at this
      rw [IV_get n f j hj] at hu
      injection hu with hu
      subst hu
      obtain ⟨b, off, e, hl, hsz, hfz, hc⟩ := hr.2 (by omega)
      injection e with e
      subst e
      rw [Addr.add_lit]
      exact hc j hj
    · intro u hu
      obtain ⟨j, _, rfl⟩ := List.mem_map.1 hu
      rfl
    · intro v' w' h1 h2 _
      rw [Nat.zero_add, List.nil_append] at h1
      obtain ⟨A', c', rfl, r⟩ := own_rowI h1
      exact h A' c' w' r ((Below.refl base w).grown h2 hbase fun k hk => (hown.lt k hk).1)
theorem fresh_own {w : World} {base : Nat} (hb : base ≤ w.heap.size) : (w.alloc (.cells #[] 3)).ownsRow base 3 1 (.slice (some ⟨w.heap.size, 0, none⟩) 0 0) 0 [] :=
  World.ownsRow_made w #[] 0 hb (Nat.zero_le _) rfl

set_option maxRecDepth 100000 in
set_option maxHeartbeats 1000000 in
theorem clone_any (A : Option Addr) (n c lo : Nat) (f : Nat → Int) (w : World) (h : Row w lo A n c f) (hn : n ≤ 1048576) :
    Calls Tryz.prog 77 #[.slice A n c] w fun e w' => ∃ A' c', e = .returned (.slice A' n c') ∧ Row w' w.heap.size A' n c' f ∧ Old w w' := by
  have q := fun (w : World) (a : Option Addr) (n c n' c' : Nat) => Lib.run_eql_slice_nil (P := Tryz.prog) w 22 3 a n c n' c' Tryz.underlying22
  cases A with
  | none =>
    obtain rfl : n = 0 := by
      rcases Nat.eq_zero_or_pos n with h0 | h0
      · exact h0
      · obtain ⟨b, off, e, _⟩ := h.2 h0
        cases e
    go_enter Tryz.func77, Tryz.ntmps77
    go_wp2
    go_ret
    exact ⟨none, 0, rfl, Row.zero _ _ _ _ _, Old.refl _⟩
  | some a =>
    go_enter Tryz.func77, Tryz.ntmps77
    go_wp2_with (at_builtin; refine wpList_clone rfl _ _ rfl (base := w.heap.size) (f := f) (lo := lo) rfl (fresh_own (Nat.le_refl _)) rfl (h.below (B := w.heap.size) oldA (Nat.le_refl _)) hn (by simp) ?_; intro A' c' w1 r1 o1)
    go_ret
    exact ⟨A', c', rfl, r1, Below.trans oldA o1⟩
end Go.Proofs.YtgchbbjhdeobpaaGreatDoor
