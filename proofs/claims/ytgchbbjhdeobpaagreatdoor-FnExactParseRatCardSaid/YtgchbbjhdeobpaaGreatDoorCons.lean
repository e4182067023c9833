import Derived.Test.YtgchbbjhdeobpaaGreatDoorClone
import Derived.Test.YtgchbbjhdeobpaaGreatDoorNatA
/-
  'append([]int{d}, m...)': one digit set below a number.
-/
namespace Go.Proofs.YtgchbbjhdeobpaaGreatDoor
set_option linter.unusedVariables false
open Go.RowKit Num

/-- d ahead of f. -/
def consI (d : Int) (f : Nat → Int) : Nat → Int := fun j => if j = 0 then d else f (j - 1)
theorem IV_cons (n : Nat) (d : Int) (f : Nat → Int) : Value.int .i64 d :: IV n f = IV (n + 1) (consI d f) := by
  unfold IV
  rw [List.range_succ_eq_map, List.map_cons, List.map_map]
  rfl
set_option maxRecDepth 100000 in
/-- 'append(own, m...)' where own is a row of the call's own that holds the one number d. -/
theorem wpList_cons {w : World} {ops : Array Oper} {rest : List Oper} {o : Oper} {a : Act} {Q : Exit → Act → World → Prop} (hgd : o.guard = none) (s x : Operand)
    (ho : o.op = .call { callee := .builtin .append, args := #[s, x], argTypes := #[22, 22] })
    {base n lo c : Nat} {A : Option Addr} {f : Nat → Int} {d : Int} {v : Value} (hs : a.eval s = v) (hown : w.ownsRow base 3 1 v 1 [.int .i64 d])
    (hx : a.eval x = .slice A n c) (hr : Row w lo A n c f) (hn : n ≤ 1048576) (hbase : base ≤ w.heap.size)
    (h : ∀ A' c' w', Row w' base A' (n + 1) c' (consI d f) → Below base w w' → wpList Tryz.prog ops Q rest (a.put o.dst (.slice A' (n + 1) c')) w') : wpList Tryz.prog ops Q (o :: rest) a w := by
  obtain ⟨i0, hi, hz0, hz1, hz2⟩ := info_parts int_info
  have e0 : [Value.int .i64 d] = IV 1 (consI d f) := rfl
  cases A with
  | none =>
    obtain rfl : n = 0 := by
      rcases Nat.eq_zero_or_pos n with h0 | h0
      · exact h0
      · obtain ⟨b, off, e, _⟩ := hr.2 h0
        cases e
    rw [e0] at hown
    obtain ⟨A0, c0, rfl, hr0⟩ := own_rowI hown
    refine wpList_plain hgd fun K hK => ?_
    have hrun := run_append_nothing (P := Tryz.prog) w 22 22 o.type 3 i0 Tryz.underlying22 hi A0 1 c0 hr0.1 (.slice none 0 c)
      ⟨.inl ⟨_, Tryz.underlying22⟩, fun _ => rfl, rfl, rfl, by simp, fun u hu => by cases hu⟩
    unfold Oper.wp execOp
    simp only [ho, resolve, invoke, builtin, Sem.run_bind, Sem.run_pure, Result.andThen_ok, List.map_toArray, List.map_cons, List.map_nil, hs, hx, hrun]
    exact hK _ _ (h _ _ _ hr0 (Below.refl _ _))
  | some ad =>
    refine wpList_append_own w hgd s x 22 ho base 3 i0 (.int .i64 0) 1 8 Tryz.underlying22 hi hz0 hz1 hz2 rfl (by decide) v 1 [.int .i64 d] hs hown ad n c (IV n f) hx (by simp [IV_length]) ?_ ?_ (by simp only [maxLen]; omega) (by omega) hbase ?_
    · intro j u hu
      have hj : j < n := by
        have := (List.getElem?_eq_some_iff.1 hu).1
        rwa [IV_length] at this
      rw [IV_get n f j hj] at hu
      injection hu with hu
      subst hu
      obtain ⟨b, off, e, hl, hsz, hfz, hc⟩ := hr.2 (by omega)
      injection e with e
      subst e
      rw [Addr.add_lit]
      exact hc j hj
    · intro u hu
      obtain ⟨j, _, rfl⟩ := List.mem_map.1 hu
      rfl
    · intro v' w' h1 h2 _
      rw [List.singleton_append, IV_cons, Nat.add_comm 1 n] at h1
      obtain ⟨A', c', rfl, r⟩ := own_rowI h1
      exact h A' c' w' r ((Below.refl base w).grown h2 hbase fun k hk => (hown.lt k hk).1)
theorem fresh_one {w : World} {base : Nat} (d : Int) (hb : base ≤ w.heap.size) : (w.alloc (.cells #[.int .i64 d] 3)).ownsRow base 3 1 (.slice (some ⟨w.heap.size, 0, none⟩) 1 1) 1 [.int .i64 d] :=
  ⟨by simp, .inr ⟨w.heap.size, 1, #[.int .i64 d], rfl, hb, heap_alloc_new w _, Nat.le_refl _, by simp [maxLen], by simp, by simp⟩⟩
/-- The number whose lowest digit is d and whose others are r's. -/
theorem cons_row {w : World} {lo c d r : Nat} {A : Option Addr} (hd : d ≤ 999999999) (h : Row w lo A (len r + 1) c (consI (d : Int) (digI r))) : Row w lo A (len r + 1) c (digI (B * r + d)) := by
  have hd' : d < B := by rw [B_eq]; omega
  refine h.congr fun j hj => ?_
  unfold consI digI
  rw [Nat.add_comm (B * r)]
  by_cases h0 : j = 0
  · subst h0; rw [if_pos rfl, dig_cons_zero hd']
  · rw [if_neg h0]
    have e := dig_cons_succ (d := d) (v := r) (j - 1) hd'
    rw [show j - 1 + 1 = j by omega] at e
    rw [e]
theorem cons_len_le {d r : Nat} (hd : d ≤ 999999999) : len (B * r + d) ≤ len r + 1 := len_le_iff.2 (cons_lt d r (by rw [B_eq]; omega))
end Go.Proofs.YtgchbbjhdeobpaaGreatDoor
