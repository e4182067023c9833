import Derived.Test.YtgchbbjhdeobpaaDoorMakeNat
import Derived.Test.YtgchbbjhdeobpaaDoorBigInt
import Derived.Test.YtgchbbjhdeobpaaDoorBoxes
/-
  The reference's made big integer: some big integer of at most 3 digits in base B.
-/
namespace Go.Proofs.YtgchbbjhdeobpaaDoor
set_option linter.unusedVariables false
open Go.RowKit Num
theorem far_box {w : World} {g : Nat} {cs : Array Value} (h : Bx w g cs) {p : Addr} (hp : ¬ p.block = g) (u : Value) : Bx (w.setCell p u) g cs := by
  obtain ⟨t, e⟩ := h
  exact ⟨t, (Below.heap_setCell w p u g (fun e => hp e.symm)).trans e⟩
theorem far_cur {w : World} {g : Nat} {A : Option Addr} {n c : Nat} (h : Cur w g A n c) {p : Addr} (hp : ¬ p.block = g) (u : Value) : Cur (w.setCell p u) g A n c := by
  obtain ⟨i, x, Bc, r⟩ := h
  exact ⟨i, x, far_box Bc hp u, r⟩
theorem old_cur {w w' : World} {g : Nat} {A : Option Addr} {n c : Nat} (h : Cur w g A n c) (o : Old w w') : Cur w' g A n c := by
  obtain ⟨i, x, Bc, r⟩ := h
  exact ⟨i, x, Bc.old o, r⟩
theorem Cur.lt {w : World} {g : Nat} {A : Option Addr} {n c : Nat} (h : Cur w g A n c) : g < w.heap.size := by
  obtain ⟨_, _, Bc, _⟩ := h
  exact Bc.lt
set_option maxRecDepth 100000 in
set_option maxHeartbeats 1000000 in
theorem l01Once_any (g m : Nat) (A : Option Addr) (n c : Nat) (w : World) (hm : 0 < m) (hm2 : m ≤ 256) (hb : BRd w g A n c) (hc : Cur w g A n c) :
    Calls Tryd.prog 63 #[.pointer (some ⟨g, 0, none⟩), .int .i64 (m : Int)] w fun e w' => ∃ b : Bool, e = .returned (.bool b) ∧ Cur w' g A n c ∧ w.grownBy w' (some g) := by
  go_enter Tryd.func63, Tryd.ntmps63
  go_wp2_with fail
  refine (l01Below_small g m A n c _ hm hm2 hb hc).mono ?_
  rintro e w1 ⟨x, rfl, hx, C1, G1⟩
  go_wp2
  go_ret
  exact ⟨_, rfl, C1, G1⟩
theorem zOf_small {x : Nat} (h : x < 2001) : len (magZ (zBigIntOf ((x : Int) - 1000))) ≤ 3 := by
  rw [zBigIntOf_yes (by omega)]
  have h1 : magZ ((x : Int) - 1000) ≤ 1000 := by unfold magZ; omega
  refine len_le_iff.2 ?_
  have e : B ^ 3 = 1000000000000000000000000000 := by rw [B_eq]
  omega
theorem zDraw_small {b : Bool} {x : Nat} (h : len x ≤ 3) : len (magZ (signed b (capN x))) ≤ 3 := by
  rw [mag_signed, capN_self (by omega)]
  exact h
set_option maxRecDepth 100000 in
set_option maxHeartbeats 1000000 in
theorem l03Draw_any (g : Nat) (A : Option Addr) (n c : Nat) (w : World) (hb : BRd w g A n c) (hc : Cur w g A n c) :
    Calls Tryd.prog 34 #[.pointer (some ⟨g, 0, none⟩), .int .i64 3] w fun e w' => ∃ z : Int, RetB e w' w.heap.size z ∧ len (magZ z) ≤ 3 ∧ Cur w' g A n c ∧ w.grownBy w' (some g) := by
  have hgs : g < w.heap.size := hc.lt
  have hc0 : Cur (w.alloc (.cells #[.bool false, .slice none 0 0] 34)) g A n c := old_cur hc oldA
  have hb0 : BRd (w.alloc (.cells #[.bool false, .slice none 0 0] 34)) g A n c := hb.old oldA
  have g0 : w.grownBy (w.alloc (.cells #[.bool false, .slice none 0 0] 34)) (some g) := grow_below (World.grownBy.refl _ _) (B := w.heap.size) oldA (Nat.le_refl _)
  have B0 : Bx (w.alloc (.cells #[.bool false, .slice none 0 0] 34)) w.heap.size #[.bool false, .slice none 0 0] := Bx.new _ _ _
  have hne : some w.heap.size ≠ some g := by simp; omega
  have hng : ¬ w.heap.size = g := by omega
  clear hb hc
  go_enter Tryd.func34, Tryd.ntmps34
  go_wp2_with fail
  refine (l01Once_any g 3 A n c _ (by omega) (by omega) hb0 hc0).mono ?_
  rintro e w1 ⟨b, rfl, C1, G1⟩
  have B1 := B0.kept G1 hne
  have D1 := hb0.grow G1
  have g1 := g0.trans G1
  clear hb0 hc0 g0 B0 G1
  cases b with
  | true =>
    go_wp2_with fail
    refine (l01Below_big g 2001 A n c _ (by omega) (by omega) D1 C1).mono ?_
    rintro e w2 ⟨x, rfl, hx, C2, G2⟩
    have B2 := B1.kept G2 hne
    have g2 := g1.trans G2
    have z2 := g2.size
    have hw := w64 ((x : Int) - 1000) (by omega) (by omega)
    have hz := zOf_small hx
    clear B1 D1 C1 g1 G2
    go_wp2_with fail
    refine (spec_BigIntOf ((x : Int) - 1000) _ (by omega)).mono ?_
    rintro e w3 ⟨⟨A3, c3, rfl, R3⟩, o3⟩
    obtain ⟨z, hzz⟩ : ∃ z, zBigIntOf ((x : Int) - 1000) = z := ⟨_, rfl⟩
    rw [hzz] at R3 hz ⊢
    have B3 := B2.old o3
    have C3 := old_cur C2 o3
    have z3 := o3.size
    have l2 := B2.lt
    have b3 : Below w.heap.size w2 w3 := Below.mono o3 z2
    clear B2 C2 hzz hw
    have q0 := B3.cell 0 rfl
    have q1 := B3.cell 1 rfl
    have f0 := B3.frozen 0
    have f1 := B3.frozen 1
    have q := B3.lt
    go_wp2
    refine bodyPost_ret (v := .agg #[.bool (sgnZ z), .slice A3 (len (magZ z)) c3]) (by simp [results, Tryd.results34, go_sem, q0, q1]) rfl ⟨z, ⟨A3, c3, rfl, ?_⟩, hz, ?_, ?_⟩
    · refine Row.more (lo := w2.heap.size) ?_ z2
      exact Row.far_set (Row.far_set R3 (by show w.heap.size < w2.heap.size; exact l2) _) (by show w.heap.size < w2.heap.size; exact l2) _
    · exact far_cur (far_cur C3 hng _) hng _
    · exact grow_below g2 (B := w.heap.size) oldA (Nat.le_refl _)
  | false =>
    go_wp2_with fail
    refine (l01Once_any g 2 A n c _ (by omega) (by omega) D1 C1).mono ?_
    rintro e w2 ⟨b, rfl, C2, G2⟩
    have B2 := B1.kept G2 hne
    have D2 := D1.grow G2
    have g2 := g1.trans G2
    clear B1 D1 C1 g1 G2
    go_wp2_with fail
    refine (l02Nat_any g A n c _ D2 C2).mono ?_
    rintro e w3 ⟨x, v, rfl, hx, own3, C3, G3⟩
    obtain ⟨A3, c3, rfl, R3⟩ := own_low (r := x) own3
    have B3 := B2.kept G3 hne
    have g3 := g2.trans G3
    have z3 := g3.size
    have hz := zDraw_small (b := b) hx
    clear B2 D2 C2 g2 G3 own3
    go_wp2_with fail
    refine (l03Make_any b A3 _ c3 x _ _ R3 (Nat.le_refl _) (by omega)).mono ?_
    rintro e w4 ⟨⟨A4, c4, rfl, R4⟩, o4⟩
    obtain ⟨z, hzz⟩ : ∃ z, signed b (capN x) = z := ⟨_, rfl⟩
    rw [hzz] at R4 hz ⊢
    have B4 := B3.old o4
    have C4 := old_cur C3 o4
    have z4 := o4.size
    have l3 := B3.lt
    have b4 : Below w.heap.size w3 w4 := Below.mono o4 z3
    clear B3 C3 hzz R3
    have q0 := B4.cell 0 rfl
    have q1 := B4.cell 1 rfl
    have f0 := B4.frozen 0
    have f1 := B4.frozen 1
    have q := B4.lt
    go_wp2
    refine bodyPost_ret (v := .agg #[.bool (sgnZ z), .slice A4 (len (magZ z)) c4]) (by simp [results, Tryd.results34, go_sem, q0, q1]) rfl ⟨z, ⟨A4, c4, rfl, ?_⟩, hz, ?_, ?_⟩
    · refine Row.more (lo := w3.heap.size) ?_ z3
      exact Row.far_set (Row.far_set R4 (by show w.heap.size < w3.heap.size; exact l3) _) (by show w.heap.size < w3.heap.size; exact l3) _
    · exact far_cur (far_cur C4 hng _) hng _
    · exact grow_below g3 (B := w.heap.size) oldA (Nat.le_refl _)
set_option maxRecDepth 100000 in
set_option maxHeartbeats 1000000 in
theorem makeBigInt_0 (A : Option Addr) (n c : Nat) (w : World) (hb : BRd w w.heap.size A n c) :
    Calls Tryd.prog 13 #[.slice A n c, .int .i64 0] w fun e w' => ∃ z : Int, RetB e w' w.heap.size z ∧ len (magZ z) ≤ 3 ∧ Old w w' := by
  have hb0 : BRd (w.alloc (.cells #[.bool false, .slice none 0 0] 34)) (w.alloc (.cells #[.bool false, .slice none 0 0] 34)).heap.size A n c := by
    have h := hb.old (w' := w.alloc (.cells #[.bool false, .slice none 0 0] 34)) oldA
    refine ⟨h.1, h.2.1, fun hn => ?_⟩
    obtain ⟨b, off, e, hs, hbb, hc⟩ := h.2.2 hn
    exact ⟨b, off, e, hs, by simp; omega, hc⟩
  have B0 : Bx (w.alloc (.cells #[.bool false, .slice none 0 0] 34)) w.heap.size #[.bool false, .slice none 0 0] := Bx.new _ _ _
  have o0 : Old w (w.alloc (.cells #[.bool false, .slice none 0 0] 34)) := oldA
  clear hb
  go_enter Tryd.func13, Tryd.ntmps13
  go_wp2_with fail
  refine (l31New_any A n c 0 _ (by omega) hb0).mono ?_
  rintro e w1 ⟨g, rfl, hg, C1, D1, o1⟩
  have B1 := B0.old o1
  have l1 := B1.lt
  have hng : ¬ w.heap.size = g := by simp at hg; omega
  have hne : some w.heap.size ≠ some g := by simp; exact hng
  have hwg : w.heap.size ≤ g := by simp at hg; omega
  have O1 : Old w w1 := Below.trans (b := _) o0 (Below.mono o1 (by simp))
  clear o1 o0 B0 hb0
  go_wp2_with fail
  refine (l03Draw_any g A n c _ D1 C1).mono ?_
  rintro e w2 ⟨z, ⟨A2, c2, rfl, R2⟩, hz, C2, G2⟩
  have B2 := B1.kept G2 hne
  have O2 := old_grow O1 G2 hwg
  clear B1 D1 C1 G2
  have q0 := B2.cell 0 rfl
  have q1 := B2.cell 1 rfl
  have f0 := B2.frozen 0
  have f1 := B2.frozen 1
  have q := B2.lt
  go_wp2
  refine bodyPost_ret (v := .agg #[.bool (sgnZ z), .slice A2 (len (magZ z)) c2]) (by simp [results, Tryd.results13, go_sem, q0, q1]) rfl ⟨z, ⟨A2, c2, rfl, ?_⟩, hz, oldA⟩
  refine Row.more (lo := w1.heap.size) ?_ O1.size
  exact Row.far_set (Row.far_set R2 (by show w.heap.size < w1.heap.size; exact l1) _) (by show w.heap.size < w1.heap.size; exact l1) _
set_option maxRecDepth 100000 in
set_option maxHeartbeats 1000000 in
theorem makeBigInt_1 (A : Option Addr) (n c : Nat) (w : World) (hb : BRd w w.heap.size A n c) :
    Calls Tryd.prog 13 #[.slice A n c, .int .i64 1] w fun e w' => ∃ z : Int, RetB e w' w.heap.size z ∧ len (magZ z) ≤ 3 ∧ Old w w' := by
  have hb0 : BRd (w.alloc (.cells #[.bool false, .slice none 0 0] 34)) (w.alloc (.cells #[.bool false, .slice none 0 0] 34)).heap.size A n c := by
    have h := hb.old (w' := w.alloc (.cells #[.bool false, .slice none 0 0] 34)) oldA
    refine ⟨h.1, h.2.1, fun hn => ?_⟩
    obtain ⟨b, off, e, hs, hbb, hc⟩ := h.2.2 hn
    exact ⟨b, off, e, hs, by simp; omega, hc⟩
  have B0 : Bx (w.alloc (.cells #[.bool false, .slice none 0 0] 34)) w.heap.size #[.bool false, .slice none 0 0] := Bx.new _ _ _
  have o0 : Old w (w.alloc (.cells #[.bool false, .slice none 0 0] 34)) := oldA
  clear hb
  go_enter Tryd.func13, Tryd.ntmps13
  go_wp2_with fail
  refine (l31New_any A n c 4 _ (by omega) hb0).mono ?_
  rintro e w1 ⟨g, rfl, hg, C1, D1, o1⟩
  have B1 := B0.old o1
  have l1 := B1.lt
  have hng : ¬ w.heap.size = g := by simp at hg; omega
  have hne : some w.heap.size ≠ some g := by simp; exact hng
  have hwg : w.heap.size ≤ g := by simp at hg; omega
  have O1 : Old w w1 := Below.trans (b := _) o0 (Below.mono o1 (by simp))
  clear o1 o0 B0 hb0
  go_wp2_with fail
  refine (l03Draw_any g A n c _ D1 C1).mono ?_
  rintro e w2 ⟨z, ⟨A2, c2, rfl, R2⟩, hz, C2, G2⟩
  have B2 := B1.kept G2 hne
  have O2 := old_grow O1 G2 hwg
  clear B1 D1 C1 G2
  have q0 := B2.cell 0 rfl
  have q1 := B2.cell 1 rfl
  have f0 := B2.frozen 0
  have f1 := B2.frozen 1
  have q := B2.lt
  go_wp2
  refine bodyPost_ret (v := .agg #[.bool (sgnZ z), .slice A2 (len (magZ z)) c2]) (by simp [results, Tryd.results13, go_sem, q0, q1]) rfl ⟨z, ⟨A2, c2, rfl, ?_⟩, hz, oldA⟩
  refine Row.more (lo := w1.heap.size) ?_ O1.size
  exact Row.far_set (Row.far_set R2 (by show w.heap.size < w1.heap.size; exact l1) _) (by show w.heap.size < w1.heap.size; exact l1) _
end Go.Proofs.YtgchbbjhdeobpaaDoor
