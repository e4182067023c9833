import Derived.Test.YtgchbbjhdeobpaaDoorCur
import Derived.Test.YtgchbbjhdeobpaaDoorNatA
/-
  The reference's made natural number: some number of at most 3 digits in base B.
-/
namespace Go.Proofs.YtgchbbjhdeobpaaDoor
set_option linter.unusedVariables false
open Go.RowKit Num
set_option maxRecDepth 100000 in
set_option maxHeartbeats 1000000 in
theorem l01Pick_any (g q m : Nat) (A : Option Addr) (n c : Nat) (cs : Array Value) (P : Int → Prop) (w : World) (hm : 0 < m) (hm2 : m ≤ 256) (hb : BRd w g A n c) (hc : Cur w g A n c) (hq : Bx w q cs) (hne : ¬ q = g) (hP : ∀ j, j < m → ∃ x, cs[j]? = some (.int .i64 x) ∧ P x) :
    Calls Tryd.prog 45 #[.pointer (some ⟨g, 0, none⟩), .slice (some ⟨q, 0, none⟩) m m] w fun e w' => ∃ x : Int, e = .returned (.int .i64 x) ∧ P x ∧ Cur w' g A n c ∧ w.grownBy w' (some g) := by
  go_enter Tryd.func45, Tryd.ntmps45
  go_wp2_with fail
  refine (l01Below_small g m A n c _ hm hm2 hb hc).mono ?_
  rintro e w1 ⟨x, rfl, hx, C1, G1⟩
  have Q := hq.kept G1 (by simp; exact hne)
  obtain ⟨y, hy, hPy⟩ := hP x hx
  have hcell : w1.cell? ⟨q, x, none⟩ = some (.int .i64 y) := Q.cell x hy
  have HP := Lib.hid hPy
  clear hPy hy hP
  go_wp2
  go_ret
  exact ⟨_, rfl, HP.out, C1, G1⟩
theorem own_grow {w w' : World} {base n g : Nat} {v : Value} {l : List Nat} (h : w.ownsRow base 3 1 v n (NV l)) (hg : w.grownBy w' (some g)) (hb : g < base) : w'.ownsRow base 3 1 v n (NV l) := by
  obtain ⟨h1, h2⟩ := h
  refine ⟨h1, ?_⟩
  rcases h2 with ⟨e1, e2⟩ | ⟨x, cap, cur, e, hx, hh, r⟩
  · exact .inl ⟨e1, e2⟩
  · exact .inr ⟨x, cap, cur, e, hx, (hg.block x (Array.getElem?_eq_some_iff.1 hh).1 (by simp; omega)).trans hh, r⟩
theorem own_less {w : World} {base base' n : Nat} {v : Value} {l : List Nat} (h : w.ownsRow base 3 1 v n (NV l)) (hb : base' ≤ base) : w.ownsRow base' 3 1 v n (NV l) := by
  obtain ⟨h1, h2⟩ := h
  refine ⟨h1, ?_⟩
  rcases h2 with ⟨e1, e2⟩ | ⟨x, cap, cur, e, hx, r⟩
  · exact .inl ⟨e1, e2⟩
  · exact .inr ⟨x, cap, cur, e, Nat.le_trans hb hx, r⟩
theorem own_old {w w' : World} {base n : Nat} {v : Value} {l : List Nat} (h : w.ownsRow base 3 1 v n (NV l)) (o : Old w w') : w'.ownsRow base 3 1 v n (NV l) := by
  obtain ⟨h1, h2⟩ := h
  refine ⟨h1, ?_⟩
  rcases h2 with ⟨e1, e2⟩ | ⟨x, cap, cur, e, hx, hh, r⟩
  · exact .inl ⟨e1, e2⟩
  · exact .inr ⟨x, cap, cur, e, hx, (o.block x (Array.getElem?_eq_some_iff.1 hh).1).trans hh, r⟩
theorem grow_below {a w w' : World} {g B : Nat} (h : a.grownBy w (some g)) (o : Below B w w') (hB : a.heap.size ≤ B) : a.grownBy w' (some g) :=
  ⟨o.os.trans h.os, o.tape.trans h.tape, o.output.trans h.output, Nat.le_trans h.size o.size, fun k hk hne => (o.block k (by omega)).trans (h.block k hk hne)⟩
theorem BRd.grow {w w' : World} {g : Nat} {A : Option Addr} {n c : Nat} (h : BRd w g A n c) (hg : w.grownBy w' (some g)) : BRd w' g A n c := h.kept hg (Nat.le_refl _)
theorem BRd.below {w w' : World} {lim B : Nat} {A : Option Addr} {n c : Nat} (h : BRd w lim A n c) (o : Below B w w') (hl : lim ≤ B) : BRd w' lim A n c := by
  refine ⟨h.1, h.2.1, fun hn => ?_⟩
  obtain ⟨b, off, e, hs, hb, hc⟩ := h.2.2 hn
  refine ⟨b, off, e, Nat.lt_of_lt_of_le hs o.size, hb, fun j hj => ?_⟩
  obtain ⟨v, hv, hx⟩ := hc j hj
  exact ⟨v, hv, (o.cell (p := ⟨b, off + j, none⟩) (by show b < B; omega)).trans hx⟩
theorem low_take {k n r : Nat} (h : k ≤ n) : (low n r).take k = low k r := by
  unfold low
  rw [← List.map_take, List.take_range, Nat.min_eq_left h]
/-- A row of the call's own that is cut to its first digits. -/
theorem own_trim {w : World} {base n r : Nat} {v : Value} (h : w.ownsRow base 3 1 v n (NV (low n r))) (hr : len r ≤ n) :
    ∃ A c, v = .slice A n c ∧ Row w base A n c (digI r) ∧ w.ownsRow base 3 1 (.slice A (len r) c) (len r) (NV (digs r)) := by
  obtain ⟨A, c, e, R⟩ := own_low h
  refine ⟨A, c, e, R, by rw [NV_length, digs_length, Nat.mul_one], ?_⟩
  subst e
  rcases h.2 with ⟨e1, e2⟩ | ⟨x, cap, cur, e1, hx, hh, hn, hm, hs, ht⟩
  · injection e1 with e3 e4 e5
    subst e3
    subst e5
    have hz : len r = 0 := by omega
    exact .inl ⟨by rw [hz], hz⟩
  · injection e1 with e3 e4 e5
    subst e3
    subst e5
    refine .inr ⟨x, c, cur, rfl, hx, hh, by omega, hm, hs, ?_⟩
    rw [Nat.mul_one] at ht ⊢
    have h2 : cur.toList.take (len r) = (cur.toList.take n).take (len r) := by rw [List.take_take, Nat.min_eq_left hr]
    rw [h2, ht]
    unfold NV
    rw [← List.map_take, low_take hr]
    rfl
set_option maxRecDepth 100000 in
set_option maxHeartbeats 1000000 in
theorem l02Nat_any (g : Nat) (A : Option Addr) (n c : Nat) (w : World) (hb : BRd w g A n c) (hc : Cur w g A n c) :
    Calls Tryd.prog 20 #[.pointer (some ⟨g, 0, none⟩), .int .i64 3] w fun e w' => ∃ (x : Nat) (v : Value), e = .returned v ∧ len x ≤ 3 ∧ w'.ownsRow w.heap.size 3 1 v (len x) (NV (digs x)) ∧ Cur w' g A n c ∧ w.grownBy w' (some g) := by
  have hgs : g < w.heap.size := by obtain ⟨_, _, Bx1, _⟩ := hc; exact Bx1.lt
  go_enter Tryd.func20, Tryd.ntmps20
  go_wp2_with fail
  have hc0 : Cur (w.alloc (.cells #[] 3)) g A n c := by
    obtain ⟨i, h, Bc, r⟩ := hc
    exact ⟨i, h, Bx.alloc Bc _, r⟩
  have hb0 : BRd (w.alloc (.cells #[] 3)) g A n c := hb.old oldA
  have g0 : w.grownBy (w.alloc (.cells #[] 3)) (some g) := grow_below (World.grownBy.refl _ _) (B := w.heap.size) oldA (Nat.le_refl _)
  have own0 : (w.alloc (.cells #[] 3)).ownsRow w.heap.size 3 1 (.slice (some ⟨w.heap.size, 0, none⟩) 0 0) 0 (NV []) := World.ownsRow_lit w #[] 0 (Nat.le_refl _) (Nat.zero_le _) rfl
  refine (l01Below_small g 4 A n c _ (by omega) (by omega) hb0 hc0).mono ?_
  rintro e w2 ⟨x, rfl, hx, C2, G2⟩
  have B2 := hb0.grow G2
  have g2 := g0.trans G2
  have own2 := own_grow own0 G2 hgs
  clear hc0 hb0 g0 own0 G2
  go_wp2
  go_loopw [5, 6] (fun s i wr => ∃ (k : Nat) (l : List Nat) (v : Value), l.length + k ≤ 3 ∧ s = v ∧ i = .int .i64 (k : Int) ∧ (∀ d ∈ l, d < B) ∧ wr.ownsRow w.heap.size 3 1 v l.length (NV l) ∧ Cur wr g A n c ∧ BRd wr g A n c ∧ w.grownBy wr (some g)) (fun _ i _ => (intOf i).toNat)
  case atStart => exact ⟨x, [], _, by show 0 + x ≤ 3; omega, rfl, rfl, (fun d hd => by cases hd), own2, C2, B2, g2⟩
  case round =>
    obtain ⟨k, l, v, hk, rfl, rfl, hl, hown, C, BB, G⟩ := hrel
    have hgl : g < wr.heap.size := by obtain ⟨_, _, Bx1, _⟩ := C; exact Bx1.lt
    by_cases hp : 0 < k
    · obtain ⟨m, rfl⟩ : ∃ m, k = m + 1 := ⟨k - 1, by omega⟩
      go_wp2_with fail
      refine (l01Below_big g 1000000000 A n c _ (by omega) (by omega) BB C).mono ?_
      rintro e w3 ⟨y, rfl, hy, C3, G3⟩
      have B3 := BB.grow G3
      go_wp2_with fail
      refine (l01Below_big g 1000000000 A n c _ (by omega) (by omega) B3 C3).mono ?_
      rintro e w4 ⟨z, rfl, hz, C4, G4⟩
      have B4 := B3.grow G4
      have own4 := own_grow (own_grow hown G3 hgs) G4 hgs
      have G5 := (G.trans G3).trans G4
      clear hown C BB C3 B3 G3 G4 G
      go_wp2_with fail
      have hc5 : Cur (w4.alloc (.cells #[.int .i64 0, .int .i64 1, .int .i64 2, .int .i64 999999999, .int .i64 500000000, .int .i64 (y : Int), .int .i64 (z : Int)] 3)) g A n c := by
        obtain ⟨i, h, Bc, r⟩ := C4
        exact ⟨i, h, Bx.alloc Bc _, r⟩
      have g4 : w.grownBy (w4.alloc (.cells #[.int .i64 0, .int .i64 1, .int .i64 2, .int .i64 999999999, .int .i64 500000000, .int .i64 (y : Int), .int .i64 (z : Int)] 3)) (some g) := grow_below G5 (B := w4.heap.size) oldA G5.size
      have b4 : BRd (w4.alloc (.cells #[.int .i64 0, .int .i64 1, .int .i64 2, .int .i64 999999999, .int .i64 500000000, .int .i64 (y : Int), .int .i64 (z : Int)] 3)) g A n c := B4.old oldA
      have hg4 : g < w4.heap.size := by obtain ⟨_, _, Bx1, _⟩ := C4; exact Bx1.lt
      refine (l01Pick_any g w4.heap.size 7 A n c _ (fun x => 0 ≤ x ∧ x < 1000000000) _ (by omega) (by omega) b4 hc5 (Bx.new _ _ _) (by omega) (by
        intro j hj
        rcases (by omega : j = 0 ∨ j = 1 ∨ j = 2 ∨ j = 3 ∨ j = 4 ∨ j = 5 ∨ j = 6) with rfl | rfl | rfl | rfl | rfl | rfl | rfl <;> exact ⟨_, rfl, by omega, by omega⟩)).mono ?_
      rintro e w6 ⟨d, rfl, ⟨hd0, hd1⟩, C6, G6⟩
      obtain ⟨q, rfl⟩ : ∃ q : Nat, d = (q : Int) := ⟨d.toNat, by omega⟩
      have B6 := b4.grow G6
      have g6 := g4.trans G6
      have own6 := own_grow (World.ownsRow.alloc own4 (.cells #[.int .i64 0, .int .i64 1, .int .i64 2, .int .i64 999999999, .int .i64 500000000, .int .i64 (y : Int), .int .i64 (z : Int)] 3)) G6 hgs
      have hz6 := g6.size
      clear hc5 g4 b4 hg4 own4 G5 C4 B4 G6
      go_wp2_with (at_builtin; refine wpList_app1 (d := q) rfl (.tmp 16) (.tmp 24) rfl rfl (own6.alloc _) rfl (cell_new1 _ _ _) ?hq ?hn ?hsz ?_; (case hq => rfl); (case hn => omega); (case hsz => simp; omega); intro v2 w7 hown7 hb7)
      go_roundw
      case rel =>
        refine ⟨m, l ++ [q], _, by rw [List.length_append, List.length_singleton]; omega, rfl, by go_num, ?_, by rw [List.length_append, List.length_singleton]; exact hown7, ?_, ?_, ?_⟩
        · intro d hd
          rcases List.mem_append.1 hd with hd | hd
          · exact hl d hd
          · rw [List.mem_singleton.1 hd, B_eq]; omega
        · obtain ⟨i, h, Bc, r⟩ := C6
          exact ⟨i, h, Bx.below (Bx.alloc Bc _) hb7 hgs, r⟩
        · exact BRd.below (BRd.old (w' := w6.alloc (.cells #[.int .i64 (q : Int)] 3)) B6 oldA) hb7 (by omega)
        · exact grow_below (grow_below g6 (B := w6.heap.size) (w' := w6.alloc (.cells #[.int .i64 (q : Int)] 3)) oldA hz6) hb7 (Nat.le_refl _)
      case measure => simp [intOf]
    · obtain rfl : k = 0 := by omega
      have HL := Lib.hid (low_of_list l hl)
      have hlen : len (val l) ≤ l.length := len_le_iff.2 (val_lt hl)
      rw [HL.out, low_length] at hown
      obtain ⟨A', c', rfl, R, own'⟩ := own_trim hown hlen
      go_wp2_with fail
      refine (l02Trim_any A' _ c' (val l) _ _ R hlen (by omega)).mono ?_
      rintro e w5 ⟨rfl, o5⟩
      go_wp2
      go_ret
      exact ⟨val l, _, rfl, by omega, own_old own' o5, (by obtain ⟨i, h, Bc, r⟩ := C; exact ⟨i, h, Bc.old o5, r⟩), grow_below G o5 (by have := G.size; omega)⟩
set_option maxRecDepth 100000 in
set_option maxHeartbeats 1000000 in
theorem makeNat_0 (A : Option Addr) (n c : Nat) (w : World) (hb : BRd w w.heap.size A n c) :
    Calls Tryd.prog 5 #[.slice A n c, .int .i64 0] w fun e w' => ∃ (x : Nat) (v : Value), e = .returned v ∧ len x ≤ 3 ∧ w'.ownsRow w.heap.size 3 1 v (len x) (NV (digs x)) ∧ Old w w' := by
  go_enter Tryd.func5, Tryd.ntmps5
  go_wp2_with fail
  refine (l31New_any A n c 0 _ (by omega) hb).mono ?_
  rintro e w1 ⟨g, rfl, hg, C1, B1, o1⟩
  go_wp2_with fail
  refine (l02Nat_any g A n c _ B1 C1).mono ?_
  rintro e w2 ⟨x, v, rfl, hx, own, C2, G2⟩
  go_wp2
  go_ret
  exact ⟨x, v, rfl, hx, own_less own o1.size, old_grow o1 G2 hg⟩
set_option maxRecDepth 100000 in
set_option maxHeartbeats 1000000 in
theorem makeNat_1 (A : Option Addr) (n c : Nat) (w : World) (hb : BRd w w.heap.size A n c) :
    Calls Tryd.prog 5 #[.slice A n c, .int .i64 1] w fun e w' => ∃ (x : Nat) (v : Value), e = .returned v ∧ len x ≤ 3 ∧ w'.ownsRow w.heap.size 3 1 v (len x) (NV (digs x)) ∧ Old w w' := by
  go_enter Tryd.func5, Tryd.ntmps5
  go_wp2_with fail
  refine (l31New_any A n c 4 _ (by omega) hb).mono ?_
  rintro e w1 ⟨g, rfl, hg, C1, B1, o1⟩
  go_wp2_with fail
  refine (l02Nat_any g A n c _ B1 C1).mono ?_
  rintro e w2 ⟨x, v, rfl, hx, own, C2, G2⟩
  go_wp2
  go_ret
  exact ⟨x, v, rfl, hx, own_less own o1.size, old_grow o1 G2 hg⟩
end Go.Proofs.YtgchbbjhdeobpaaDoor
