import Derived.BigQuiet
import Derived.ChangeOld
import Derived.Deep.OwnRows
import Derived.Deep.QuietTactic
import Derived.Deep.Upon
import Derived.JoinedOf
import Derived.KernelRfl
import Derived.Lib.Hide
import Derived.Lib.SmallJoins
import Derived.OpenShut
import Derived.ProofKit
import Derived.ShutString
import Derived.Test.YtgchbbjhdeobpaaGreatDoorRows
import Derived.WalkKit
import Derived.WalkLawsBesides
import Derived.WalkSpells
import Ieee.Arith
import Derived.Test.YtgchbbjhdeobpaaGreatDoorW1
import Derived.Test.YtgchbbjhdeobpaaGreatDoorW2
import Derived.Test.YtgchbbjhdeobpaaGreatDoorW3
import Derived.Test.YtgchbbjhdeobpaaGreatDoorW4
import Derived.Test.YtgchbbjhdeobpaaGreatDoorW5
/- What the claim's proof reaches of: Args, Boxes, Big, NatDiv2. -/
namespace Go.Proofs.YtgchbbjhdeobpaaGreatDoor
set_option linter.unusedVariables false
open Go.ChangeShapes Go.WideShapes Go.ChangeAt Go.RowKit


/-! rows that do not share a block -/
def Lim (hi : Nat) (A : Option Addr) (n : Nat) : Prop := 0 < n → ∀ a, A = some a → a.block < hi
def Low (lo : Nat) (A : Option Addr) (n : Nat) : Prop := 0 < n → ∀ a, A = some a → lo ≤ a.block
section
variable {w w1 w2 : World} {lo hi n m c c' : Nat} {A A' : Option Addr} {f g : Nat → Int}
theorem Row.lim (h : Row w lo A n c f) : Lim w.heap.size A n := fun hn a e => by
  obtain ⟨b, off, e', _, hs, _⟩ := h.2 hn
  rw [e'] at e; injection e with e; subst e; exact hs
theorem Row.low (h : Row w lo A n c f) : Low lo A n := fun hn a e => by
  obtain ⟨b, off, e', hl, _⟩ := h.2 hn
  rw [e'] at e; injection e with e; subst e; exact hl
theorem Low.mono {lo' : Nat} (h : Low lo A n) (hl : lo' ≤ lo) : Low lo' A n := fun hn a e => Nat.le_trans hl (h hn a e)
theorem rowOf_some {A : Option Addr} {n k : Nat} (h : rowOf A n = some k) : 0 < n ∧ ∃ a, A = some a ∧ a.block = k := by
  unfold rowOf at h
  split at h
  · cases h
  · obtain ⟨a, e, hk⟩ := Option.map_eq_some_iff.1 h
    exact ⟨by omega, a, e, hk⟩
theorem Row.kept (h : Row w1 lo A n c f) (hg : w1.grownBy w2 (rowOf A' m)) (hne : ∀ a a', 0 < n → 0 < m → A = some a → A' = some a' → a.block ≠ a'.block) : Row w2 lo A n c f := by
  refine ⟨h.1, fun hn => ?_⟩
  obtain ⟨b, off, e, hl, hs, hf, hc⟩ := h.2 hn
  have hb : some b ≠ rowOf A' m := fun hk => by
    obtain ⟨hm, a', e', hk'⟩ := rowOf_some hk.symm
    exact hne _ _ hn hm e e' hk'.symm
  have hblk := hg.block b hs hb
  exact ⟨b, off, e, hl, Nat.lt_of_lt_of_le hs hg.size, fun j => (World.frozen?_of_block (w := w1) hblk).trans (hf j), fun j hj => (World.cell?_of_block (w := w1) hblk).trans (hc j hj)⟩
end
/-- Block g holds just these cells, none frozen. -/
def Bx (w : World) (g : Nat) (cs : Array Value) : Prop := ∃ t, w.heap[g]? = some (.cells cs t (0, 0))
section
variable {w w' : World} {g : Nat} {cs : Array Value}
theorem Bx.lt (h : Bx w g cs) : g < w.heap.size := by
  obtain ⟨t, e⟩ := h
  exact (Array.getElem?_eq_some_iff.1 e).1
theorem Bx.cell (h : Bx w g cs) (j : Nat) {v : Value} (e : cs[j]? = some v) : w.cell? ⟨g, j, none⟩ = some v := by
  obtain ⟨t, h⟩ := h
  rw [cell_of_row w g j cs t (0, 0) h, e]
theorem Bx.frozen (h : Bx w g cs) (j : Nat) : w.frozen? ⟨g, j, none⟩ = false := by
  obtain ⟨t, e⟩ := h
  simp [World.frozen?, e]
theorem Bx.below {B : Nat} (h : Bx w g cs) (hb : Below B w w') (hg : g < B) : Bx w' g cs := by
  obtain ⟨t, e⟩ := h
  exact ⟨t, (hb.block g hg).trans e⟩
theorem Bx.old (h : Bx w g cs) (hb : Old w w') : Bx w' g cs := h.below hb h.lt
theorem Bx.new (w : World) (cs : Array Value) (t : TypeId) : Bx (w.alloc (.cells cs t)) w.heap.size cs := ⟨t, heap_alloc_new w _⟩
theorem Bx.kept {row : Option Nat} (h : Bx w g cs) (hg : w.grownBy w' row) (hne : some g ≠ row) : Bx w' g cs := by
  have hl := h.lt
  obtain ⟨t, e⟩ := h
  exact ⟨t, (hg.block g hl hne).trans e⟩
theorem Bx.alloc (h : Bx w g cs) (o : Obj) : Bx (w.alloc o) g cs := by
  have hl := h.lt
  obtain ⟨t, e⟩ := h
  exact ⟨t, (Below.heap_alloc w o g hl).trans e⟩
end


theorem Row.far_set {w : World} {lo n c : Nat} {A : Option Addr} {f : Nat → Int} (h : Row w lo A n c f) {p : Addr} (hp : p.block < lo) (u : Value) : Row (w.setCell p u) lo A n c f := by
  refine ⟨h.1, fun hn => ?_⟩
  obtain ⟨b, off, e, hl, hs, hf, hc⟩ := h.2 hn
  have hne : b ≠ p.block := by omega
  have hblk := Below.heap_setCell w p u b hne
  exact ⟨b, off, e, hl, by simpa [World.setCell] using hs, fun j => (World.frozen?_of_block (w := w) hblk).trans (hf j), fun j hj => (World.cell?_of_block (w := w) hblk).trans (hc j hj)⟩

end Go.Proofs.YtgchbbjhdeobpaaGreatDoor

namespace Go.Proofs.YtgchbbjhdeobpaaGreatDoor
set_option linter.unusedVariables false
open Go.RowKit
theorem Bx.drew {w : World} {g : Nat} {cs : Array Value} (h : Bx w g cs) : Bx w.drew g cs := h
theorem Bx.set {w : World} {g : Nat} {cs : Array Value} (h : Bx w g cs) (i : Nat) (v : Value) : Bx (w.setCell ⟨g, i, none⟩ v) g (cs.setIfInBounds i v) := by
  obtain ⟨t, e⟩ := h
  exact ⟨t, heap_setCell_same w g i cs t v e⟩
theorem Bx.put2 {w : World} {g : Nat} {a0 a1 : Value} (h : Bx w g #[a0, a1]) (v0 v1 : Value) : Bx ((w.setCell ⟨g, 0, none⟩ v0).setCell ⟨g, 1, none⟩ v1) g #[v0, v1] := (h.set 0 v0).set 1 v1
theorem Bx.put3 {w : World} {g : Nat} {a0 a1 a2 : Value} (h : Bx w g #[a0, a1, a2]) (v0 v1 v2 : Value) : Bx (((w.setCell ⟨g, 0, none⟩ v0).setCell ⟨g, 1, none⟩ v1).setCell ⟨g, 2, none⟩ v2) g #[v0, v1, v2] := ((h.set 0 v0).set 1 v1).set 2 v2
end Go.Proofs.YtgchbbjhdeobpaaGreatDoor

namespace Go.Proofs.YtgchbbjhdeobpaaGreatDoor
set_option linter.unusedVariables false
open Go.RowKit Num

theorem len_pos_iff' {x : Nat} : 0 < len x ↔ 0 < x := by rw [lt_len_iff, Nat.pow_zero]; exact Iff.rfl
def signed (b : Bool) (x : Nat) : Int := if b then -(x : Int) else x
def sgnZ (z : Int) : Bool := decide (z < 0)
def magZ (z : Int) : Nat := z.natAbs
theorem mag_signed (b : Bool) (x : Nat) : magZ (signed b x) = x := by unfold magZ signed; split <;> omega
theorem sgn_signed (b : Bool) (x : Nat) : sgnZ (signed b x) = (b && decide (0 < x)) := by
  unfold sgnZ signed
  cases b <;> simp <;> omega
def capZ (z : Int) : Int := if len (magZ z) ≤ 60 then z else 0
theorem capZ_signed (b : Bool) (x : Nat) : capZ (signed b x) = signed b (capN x) := by
  unfold capZ capN
  rw [mag_signed]
  split
  · rfl
  · cases b <;> rfl
def okB (b : Bool) (n : Nat) (f : Nat → Int) : Prop := okP n f ∧ (b = true → 0 < n)
/-- The number that a valid big integer stands for. -/
noncomputable def bigX (b : Bool) (n : Nat) (f : Nat → Int) : Int := signed b (natX n f)
open Classical in
noncomputable def rBigIntOk (b : Bool) (n : Nat) (f : Nat → Int) : Bool := decide (okB b n f)
theorem rBigIntOk_yes {b : Bool} {n : Nat} {f : Nat → Int} (h : okB b n f) : rBigIntOk b n f = true := by simp [rBigIntOk, h]
theorem rBigIntOk_no {b : Bool} {n : Nat} {f : Nat → Int} (h : ¬ okB b n f) : rBigIntOk b n f = false := by simp [rBigIntOk, h]
/-- The call returned the number z, as memory that is not older than lo. -/
def RetB (e : Ending) (w : World) (lo : Nat) (z : Int) : Prop := ∃ A c, e = .returned (.agg #[.bool (sgnZ z), .slice A (len (magZ z)) c]) ∧ NatS w lo A c (magZ z)
theorem RetB.mk' {e : Ending} {w : World} {lo : Nat} {z : Int} {b : Bool} {x : Nat} {A : Option Addr} {c : Nat} (h : e = .returned (.agg #[.bool (b && decide (0 < x)), .slice A (len x) c])) (r : NatS w lo A c x) (hz : z = signed b x) : RetB e w lo z := by
  subst hz
  refine ⟨A, c, ?_, ?_⟩
  · rw [sgn_signed, mag_signed]; exact h
  · rw [mag_signed]; exact r
theorem RetB.zero {e : Ending} {w : World} {lo c : Nat} (h : e = .returned (.agg #[.bool false, .slice none 0 c])) : RetB e w lo 0 :=
  RetB.mk' (b := false) (x := 0) (A := none) (c := c) (by rw [h, len_zero]; rfl) (NatS.zero _ _ _ _) rfl

set_option maxRecDepth 100000 in
set_option maxHeartbeats 1000000 in
theorem spec_BigIntOk (b : Bool) (A : Option Addr) (n c lo : Nat) (f : Nat → Int) (w : World) (h : Row w lo A n c f) (hn : n ≤ 1048576) :
    Calls Tryz.prog 79 #[.agg #[.bool b, .slice A n c]] w fun e w' => e = .returned (.bool (rBigIntOk b n f)) ∧ Old w w' := by
  by_cases k : okP n f
  · by_cases hp : 0 < n
    · have Hr := Lib.hid (rBigIntOk_yes (b := b) ⟨k, fun _ => hp⟩)
      cases b <;>
      · go_enter Tryz.func79, Tryz.ntmps79
        go_wp2_with fail
        refine (specNatOk_yes A n c f _ _ (h.below (B := w.heap.size) oldA (Nat.le_refl _)) k).mono ?_
        rintro e w' ⟨rfl, rfl⟩
        go_wp2
        go_ret
        exact ⟨by rw [Hr.out]; try rfl, oldA⟩
    · obtain rfl : n = 0 := by omega
      cases b with
      | false =>
        have Hr := Lib.hid (rBigIntOk_yes (b := false) (f := f) ⟨k, fun h => by cases h⟩)
        go_enter Tryz.func79, Tryz.ntmps79
        go_wp2_with fail
        refine (specNatOk_yes A 0 c f _ _ (h.below (B := w.heap.size) oldA (Nat.le_refl _)) k).mono ?_
        rintro e w' ⟨rfl, rfl⟩
        go_wp2
        go_ret
        exact ⟨by rw [Hr.out]; try rfl, oldA⟩
      | true =>
        have Hr := Lib.hid (rBigIntOk_no (b := true) (n := 0) (f := f) fun h => by have := h.2 rfl; omega)
        go_enter Tryz.func79, Tryz.ntmps79
        go_wp2_with fail
        refine (specNatOk_yes A 0 c f _ _ (h.below (B := w.heap.size) oldA (Nat.le_refl _)) k).mono ?_
        rintro e w' ⟨rfl, rfl⟩
        go_wp2
        go_ret
        exact ⟨by rw [Hr.out]; try rfl, oldA⟩
  · have Hr := Lib.hid (rBigIntOk_no (b := b) fun h => k h.1)
    go_enter Tryz.func79, Tryz.ntmps79
    go_wp2_with fail
    refine (specNatOk_no A n c f _ _ (h.below (B := w.heap.size) oldA (Nat.le_refl _)) k hn).mono ?_
    rintro e w' ⟨rfl, rfl⟩
    go_wp2
    go_ret
    exact ⟨by rw [Hr.out]; try rfl, oldA⟩
set_option maxRecDepth 100000 in
set_option maxHeartbeats 1000000 in
theorem impl_BigIntOk (b : Bool) (A : Option Addr) (n c lo : Nat) (f : Nat → Int) (w : World) (h : Row w lo A n c f) (hn : n ≤ 1048576) :
    Calls Tryz.prog 57 #[.agg #[.bool b, .slice A n c]] w fun e w' => e = .returned (.bool (rBigIntOk b n f)) ∧ Old w w' := by
  by_cases k : okP n f
  · by_cases hp : 0 < n
    · have Hr := Lib.hid (rBigIntOk_yes (b := b) ⟨k, fun _ => hp⟩)
      have hq : ((n : Int) == 0) = false := by simp; omega
      cases b <;>
      · go_enter Tryz.func57, Tryz.ntmps57
        go_wp2_with fail
        refine (natOk_yes A n c f _ _ (h.below (B := w.heap.size) oldA (Nat.le_refl _)) k).mono ?_
        rintro e w' ⟨rfl, rfl⟩
        go_wp2
        go_ret
        exact ⟨by rw [Hr.out]; try rfl, oldA⟩
    · obtain rfl : n = 0 := by omega
      cases b with
      | false =>
        have Hr := Lib.hid (rBigIntOk_yes (b := false) (f := f) ⟨k, fun h => by cases h⟩)
        go_enter Tryz.func57, Tryz.ntmps57
        go_wp2_with fail
        refine (natOk_yes A 0 c f _ _ (h.below (B := w.heap.size) oldA (Nat.le_refl _)) k).mono ?_
        rintro e w' ⟨rfl, rfl⟩
        go_wp2
        go_ret
        exact ⟨by rw [Hr.out]; try rfl, oldA⟩
      | true =>
        have Hr := Lib.hid (rBigIntOk_no (b := true) (n := 0) (f := f) fun h => by have := h.2 rfl; omega)
        go_enter Tryz.func57, Tryz.ntmps57
        go_wp2_with fail
        refine (natOk_yes A 0 c f _ _ (h.below (B := w.heap.size) oldA (Nat.le_refl _)) k).mono ?_
        rintro e w' ⟨rfl, rfl⟩
        go_wp2
        go_ret
        exact ⟨by rw [Hr.out]; try rfl, oldA⟩
  · have Hr := Lib.hid (rBigIntOk_no (b := b) fun h => k h.1)
    go_enter Tryz.func57, Tryz.ntmps57
    go_wp2_with fail
    refine (natOk_no A n c f _ _ (h.below (B := w.heap.size) oldA (Nat.le_refl _)) k hn).mono ?_
    rintro e w' ⟨rfl, rfl⟩
    go_wp2
    go_ret
    exact ⟨by rw [Hr.out]; try rfl, oldA⟩
set_option maxRecDepth 100000 in
set_option maxHeartbeats 1000000 in
theorem bigMake_any (b : Bool) (A : Option Addr) (n c : Nat) (w : World) :
    Calls Tryz.prog 78 #[.bool b, .slice A n c] w fun e w' => e = .returned (.agg #[.bool (b && decide (0 < n)), .slice A n c]) ∧ Old w w' := by
  by_cases hp : 0 < n
  · have Hr := Lib.hid (show decide (0 < n) = true from decide_eq_true hp)
    rw [Hr.out]
    cases b <;>
    · go_enter Tryz.func78, Tryz.ntmps78
      go_wp2
      exact bodyPost_ret (v := .agg #[.bool _, .slice A n c]) (by simp [results, Tryz.results78, go_sem]; try rfl) rfl ⟨rfl, oldA⟩
  · obtain rfl : n = 0 := by omega
    cases b <;>
    · go_enter Tryz.func78, Tryz.ntmps78
      go_wp2
      exact bodyPost_ret (v := .agg #[.bool _, .slice A 0 c]) (by simp [results, Tryz.results78, go_sem]; try rfl) rfl ⟨rfl, oldA⟩
set_option maxRecDepth 100000 in
set_option maxHeartbeats 1000000 in
theorem l03Make_any (b : Bool) (A : Option Addr) (n c r lo : Nat) (w : World) (h : Row w lo A n c (digI r)) (hr : len r ≤ n) (hn : n ≤ 1000) :
    Calls Tryz.prog 120 #[.bool b, .slice A n c] w fun e w' => RetB e w' w.heap.size (signed b (capN r)) ∧ Old w w' := by
  go_enter Tryz.func120, Tryz.ntmps120
  go_wp2_with fail
  refine (l02Cap_any A n c r lo _ (h.below (B := w.heap.size) oldA (Nat.le_refl _)) hr hn).mono ?_
  rintro e w1 ⟨A1, c1, rfl, r1, o1⟩
  have H1 := Lib.hid (capN_len r)
  have b1 : Bx w1 w.heap.size #[.bool false, .slice none 0 0] := Bx.old (Bx.new _ _ _) o1
  have q1 := b1.lt
  have hz := o1.size
  simp at hz
  by_cases hp : 0 < len (capN r)
  · have Hx : Hid (decide (0 < capN r) = true) := Lib.hid (decide_eq_true (len_pos_iff'.1 hp))
    cases b with
    | true =>
      go_wp2_with (at_builtin; refine wpList_clone rfl (.tmp 14) (.tmp 15) rfl (base := w1.heap.size) (f := digI (capN r)) (lo := lo) rfl (fresh_own (Nat.le_refl _)) rfl (Row.below (B := w1.heap.size) r1 oldA (Nat.le_refl _)) (Nat.le_trans H1.out (by omega)) (by simp) ?_; intro A2 c2 w2 r2 o2; have o2' : Old w1 w2 := Below.trans (b := _) oldA o2; have b2 := Bx.old b1 o2'; have c20 := b2.cell 0 rfl; have c21 := b2.cell 1 rfl; have f20 := b2.frozen 0; have f21 := b2.frozen 1; have q2 := b2.lt)
      have hz2 := o2'.size
      have o3 : Old w w2 := Below.trans (b := _) (Below.trans (b := _) oldA (Below.mono o1 (by simp <;> omega))) (Below.mono o2' (by omega))
      refine bodyPost_ret (v := .agg #[.bool true, .slice A2 (len (capN r)) c2]) (by simp [results, Tryz.results120, go_sem, c20, c21]) rfl ⟨RetB.mk' (A := A2) (c := c2) (x := capN r) (b := true) (by rw [Hx.out]; rfl) (Row.more (lo := w1.heap.size) ?_ (by omega)) rfl, oldA⟩
      repeat' (first | exact r2 | refine Row.far_set ?_ (by simp; omega) _)
    | false =>
      go_wp2_with (at_builtin; refine wpList_clone rfl (.tmp 14) (.tmp 15) rfl (base := w1.heap.size) (f := digI (capN r)) (lo := lo) rfl (fresh_own (Nat.le_refl _)) rfl (Row.below (B := w1.heap.size) r1 oldA (Nat.le_refl _)) (Nat.le_trans H1.out (by omega)) (by simp) ?_; intro A2 c2 w2 r2 o2; have o2' : Old w1 w2 := Below.trans (b := _) oldA o2; have b2 := Bx.old b1 o2'; have c20 := b2.cell 0 rfl; have c21 := b2.cell 1 rfl; have f20 := b2.frozen 0; have f21 := b2.frozen 1; have q2 := b2.lt)
      have hz2 := o2'.size
      have o3 : Old w w2 := Below.trans (b := _) (Below.trans (b := _) oldA (Below.mono o1 (by simp <;> omega))) (Below.mono o2' (by omega))
      refine bodyPost_ret (v := .agg #[.bool false, .slice A2 (len (capN r)) c2]) (by simp [results, Tryz.results120, go_sem, c20, c21]) rfl ⟨RetB.mk' (A := A2) (c := c2) (x := capN r) (b := false) (by rw [Hx.out]; rfl) (Row.more (lo := w1.heap.size) ?_ (by omega)) rfl, oldA⟩
      repeat' (first | exact r2 | refine Row.far_set ?_ (by simp; omega) _)
  · have Hx : Hid (decide (0 < capN r) = false) := Lib.hid (decide_eq_false fun h => hp (len_pos_iff'.2 h))
    cases b with
    | true =>
      go_wp2_with (at_builtin; refine wpList_clone rfl (.tmp 14) (.tmp 15) rfl (base := w1.heap.size) (f := digI (capN r)) (lo := lo) rfl (fresh_own (Nat.le_refl _)) rfl (Row.below (B := w1.heap.size) r1 oldA (Nat.le_refl _)) (Nat.le_trans H1.out (by omega)) (by simp) ?_; intro A2 c2 w2 r2 o2; have o2' : Old w1 w2 := Below.trans (b := _) oldA o2; have b2 := Bx.old b1 o2'; have c20 := b2.cell 0 rfl; have c21 := b2.cell 1 rfl; have f20 := b2.frozen 0; have f21 := b2.frozen 1; have q2 := b2.lt)
      have hz2 := o2'.size
      have o3 : Old w w2 := Below.trans (b := _) (Below.trans (b := _) oldA (Below.mono o1 (by simp <;> omega))) (Below.mono o2' (by omega))
      refine bodyPost_ret (v := .agg #[.bool false, .slice A2 (len (capN r)) c2]) (by simp [results, Tryz.results120, go_sem, c20, c21]) rfl ⟨RetB.mk' (A := A2) (c := c2) (x := capN r) (b := true) (by rw [Hx.out]; rfl) (Row.more (lo := w1.heap.size) ?_ (by omega)) rfl, oldA⟩
      repeat' (first | exact r2 | refine Row.far_set ?_ (by simp; omega) _)
    | false =>
      go_wp2_with (at_builtin; refine wpList_clone rfl (.tmp 14) (.tmp 15) rfl (base := w1.heap.size) (f := digI (capN r)) (lo := lo) rfl (fresh_own (Nat.le_refl _)) rfl (Row.below (B := w1.heap.size) r1 oldA (Nat.le_refl _)) (Nat.le_trans H1.out (by omega)) (by simp) ?_; intro A2 c2 w2 r2 o2; have o2' : Old w1 w2 := Below.trans (b := _) oldA o2; have b2 := Bx.old b1 o2'; have c20 := b2.cell 0 rfl; have c21 := b2.cell 1 rfl; have f20 := b2.frozen 0; have f21 := b2.frozen 1; have q2 := b2.lt)
      have hz2 := o2'.size
      have o3 : Old w w2 := Below.trans (b := _) (Below.trans (b := _) oldA (Below.mono o1 (by simp <;> omega))) (Below.mono o2' (by omega))
      refine bodyPost_ret (v := .agg #[.bool false, .slice A2 (len (capN r)) c2]) (by simp [results, Tryz.results120, go_sem, c20, c21]) rfl ⟨RetB.mk' (A := A2) (c := c2) (x := capN r) (b := false) (by rw [Hx.out]; rfl) (Row.more (lo := w1.heap.size) ?_ (by omega)) rfl, oldA⟩
      repeat' (first | exact r2 | refine Row.far_set ?_ (by simp; omega) _)
end Go.Proofs.YtgchbbjhdeobpaaGreatDoor

namespace Go.Proofs.YtgchbbjhdeobpaaGreatDoor
set_option linter.unusedVariables false
open Go.RowKit Num

theorem long_facts {a b k q : Nat} (hb : 0 < b) (hk : 0 < k) (hq : q = a / B ^ k % b) : (B * q + dig a (k - 1)) / b = dig (a / b) (k - 1) ∧ (B * q + dig a (k - 1)) % b = a / B ^ (k - 1) % b ∧ (B * q + dig a (k - 1)) / b ≤ 999999999 ∧ B * q + dig a (k - 1) < b * B := by
  have h1 := long_dig (x := a) (y := b) (k - 1) hb
  have h2 := long_rest a b (k - 1)
  have h3 := long_lt (x := a) (y := b) (k - 1) hb
  rw [show k - 1 + 1 = k by omega, ← hq] at h1 h2 h3
  exact ⟨h1, h2.symm, by rw [h1]; exact dig_le _ _, h3⟩
theorem one_digit {b : Nat} (h : len b = 1) : dig b 0 = b ∧ b ≤ 999999999 ∧ 0 < b := by
  have h1 := lt_len b
  rw [h, Nat.pow_one] at h1
  refine ⟨?_, by rw [B_eq] at h1; omega, Nat.pos_of_ne_zero fun e => by rw [e, len_zero] at h; omega⟩
  unfold dig
  rw [Nat.pow_zero, Nat.div_one, Nat.mod_eq_of_lt h1]
theorem sub_mul_mod (r b : Nat) : r - b * (r / b) = r % b := long_mod
theorem RetQ.to {e : Ending} {w : World} {lo q r q' r' : Nat} (h : RetQ e w lo q r) (hq : q = q') (hr : r = r') : RetQ e w lo q' r' := by subst hq hr; exact h
set_option maxRecDepth 100000 in
set_option maxHeartbeats 1000000 in
theorem l02Div_one (A1 A2 : Option Addr) (c1 c2 a b lo1 lo2 : Nat) (w : World) (h1 : NatS w lo1 A1 c1 a) (h2 : NatS w lo2 A2 c2 b) (ha : len a ≤ 200) (hb : len b = 1) :
    Calls Tryz.prog 107 #[.slice A1 (len a) c1, .slice A2 (len b) c2] w fun e w' => RetQ e w' w.heap.size (a / b) (a % b) ∧ Old w w' := by
  have Hd := Lib.hid (one_digit hb)
  obtain ⟨g, off, hA, hc⟩ := NatS.cell h2 (j := 0) (by omega)
  have hc0 : w.cell? ⟨g, off, none⟩ = some (.int .i64 (b : Int)) := by rw [Nat.add_zero, Hd.out.1] at hc; exact hc
  have hb1 : (((len b : Nat) : Int) == 1) = true := by rw [hb]; rfl
  have hbl : len b ≤ 1000 := by omega
  have Hb := Lib.hid hb
  have hb01 : (0 : Int) < ((len b : Nat) : Int) := by omega
  have hb02 : 0 < len b := by omega
  subst hA
  clear hc hb
  obtain ⟨x, hx⟩ : ∃ x : Nat, x = a % b := ⟨_, rfl⟩
  have hx9 : x ≤ 999999999 := by have := Nat.mod_lt a Hd.out.2.2; have := Hd.out.2.1; omega
  have HX := Lib.hid hx
  rw [← hx]
  clear hx
  go_enter Tryz.func107, Tryz.ntmps107
  go_wp2_with fail
  refine (l02Small_any A1 c1 a lo1 b _ h1 (by omega) Hd.out.2.2 Hd.out.2.1).mono ?_
  rintro e w1 ⟨A3, c3, he, r3, o1⟩
  rw [← HX.out] at he
  subst he
  have z1 := o1.size
  skip
  go_wp2_with fail
  refine (natOf_to x _ rfl hx9 _).mono ?_
  rintro e w2 ⟨⟨A4, c4, rfl, r4⟩, o2⟩
  have z2 := o2.size
  go_wp2
  go_ret2
  exact ⟨⟨A3, c3, A4, c4, rfl, Row.more (NatS.below r3 o2) leA, Row.more r4 leA⟩, (Old.trans o1 o2)⟩
set_option maxRecDepth 100000 in
set_option maxHeartbeats 1000000 in
theorem l02Div_long (A1 A2 : Option Addr) (c1 c2 a b lo1 lo2 : Nat) (w : World) (h1 : NatS w lo1 A1 c1 a) (h2 : NatS w lo2 A2 c2 b) (ha : len a ≤ 200) (hb : len b ≤ 200) (hb0 : 0 < b) (hb2 : len b ≠ 1) :
    Calls Tryz.prog 107 #[.slice A1 (len a) c1, .slice A2 (len b) c2] w fun e w' => RetQ e w' w.heap.size (a / b) (a % b) ∧ Old w w' := by
  have hb1 : (((len b : Nat) : Int) == 1) = false := by simp; omega
  have hl0 : len b ≠ 0 := fun h => by rw [len_eq_zero.1 h] at hb0; omega
  have hlb : 1 < len b := by omega
  have hbm : Hid (∀ x : Nat, x % b < b) := Lib.hid fun x => Nat.mod_lt x hb0
  obtain ⟨y, hy⟩ : ∃ y : Nat, y = a / b := ⟨_, rfl⟩
  have HY := Lib.hid hy
  have hyl : len y ≤ len a := by rw [hy]; exact div_len a b
  obtain ⟨x, hx⟩ : ∃ x : Nat, x = a % b := ⟨_, rfl⟩
  have HX := Lib.hid hx
  have H0 : Hid (0 = a / B ^ len a % b) := Lib.hid (by rw [Nat.div_eq_of_lt (lt_len a), Nat.zero_mod])
  rw [← hy, ← hx]
  clear hy hx hb2
  have hmk := fun (w : World) => makeN (len a) (by omega) w
  go_enter Tryz.func107, Tryz.ntmps107
  go_wp2
  clear hmk
  go_loopw [9, 10] (fun v i wr => ∃ (k q : Nat) (A' : Option Addr) (c' : Nat), k ≤ len a ∧ i = .int .i64 ((k : Int) - 1) ∧ v = .slice A' (len q) c' ∧ NatS wr (w.heap.size + 1) A' c' q ∧ q < b ∧ Hid (q = a / B ^ k % b) ∧ Blk wr w.heap.size (len a) (fromI y k) ∧ Old w wr) (fun _ i _ => (intOf i + 1).toNat)
  case atStart => exact ⟨len a, 0, _, _, Nat.le_refl _, rfl, rfl, NatS.zero _ _ _ _, hb0, H0, (fresh_blk w _ y hyl).below (B := w.heap.size + 1) (by exact oldA) (by omega), oldA⟩
  case round =>
    obtain ⟨k, q, A', c', hk, rfl, rfl, hR, hqb, hq, hB, hb'⟩ := hrel
    by_cases hpos : 0 < k
    · obtain ⟨gb, off, rfl, hc⟩ := NatS.cell (NatS.below h1 hb') (j := k - 1) (by omega)
      have hdg := dig_le a (k - 1)
      have hlq : len q ≤ len b := len_mono (Nat.le_of_lt hqb)
      obtain ⟨d, hd⟩ : ∃ d, d = dig a (k - 1) := ⟨_, rfl⟩
      rw [← hd] at hc hdg
      have Hf := Lib.hid (long_facts hb0 hpos hq.out)
      have HD := Lib.hid hd
      clear hd
      have hBl := hB.lt
      have hzr := hb'.size
      obtain ⟨t, ht⟩ : ∃ t, t = B * q + d := ⟨_, rfl⟩
      have htl : len t ≤ len q + 1 := by rw [ht]; exact cons_len_le hdg
      have HT := Lib.hid ht
      have htb9 : t / b ≤ 999999999 := by rw [ht, HD.out]; exact Hf.out.2.2.1
      have htB : t < b * B := by rw [ht, HD.out]; exact Hf.out.2.2.2
      clear ht htB
      go_wp2_with (at_builtin; refine wpList_cons rfl (.tmp 41) (.tmp 42) rfl (base := wr.heap.size) (f := digI q) (lo := w.heap.size + 1) rfl (fresh_one (d : Int) (Nat.le_refl _)) rfl (Row.below (B := wr.heap.size) hR oldA (Nat.le_refl _)) (by omega) (by simp) ?_; intro A3 c3 w1 r1 o1)
      have o1' : Old wr w1 := Below.trans (b := _) oldA o1
      have z1 := o1'.size
      have r1' : Row w1 wr.heap.size A3 (len q + 1) c3 (digI t) := by rw [HT.out]; exact cons_row hdg r1
      clear r1
      go_wp2_with fail
      refine (l02Trim_any A3 _ c3 t _ _ r1' htl (by omega)).mono ?_
      rintro e w2 ⟨rfl, o2⟩
      have z2 := o2.size
      have r2 : NatS w2 wr.heap.size A3 c3 t := NatS.below (r1'.take htl) o2
      have hb2 := NatS.below (NatS.below (NatS.below h2 hb') o1') o2
      clear r1'
      have o12 := Old.trans o1' o2
      have hzg : w.heap.size + 1 ≤ wr.heap.size := hBl
      go_wp2_with fail
      refine (l02Cmp_any A3 A2 c3 c2 t b _ lo2 _ r2 hb2 (by omega) (by omega)).mono ?_
      rintro e w3 ⟨rfl, o3⟩
      have z3 := o3.size
      have o13 := Old.trans o12 o3
      have r3 := NatS.below r2 o3
      have hb3 := NatS.below hb2 o3
      have hB3 := hB.below (B := wr.heap.size) o13 hBl
      clear r2 hb2
      by_cases hlt : t < b
      · have hcc : cmpN t b < 0 := by rw [cmpN_lt hlt]; omega
        have hcc2 : ¬ (0 : Int) ≤ cmpN t b := by omega
        have Hz : Hid (digI y (k - 1) = 0) := Lib.hid (by unfold digI; rw [HY.out, ← Hf.out.1, ← HD.out, ← HT.out, Nat.div_eq_of_lt hlt]; rfl)
        have Hq2 : Hid (t = a / B ^ (k - 1) % b) := Lib.hid (by rw [← Hf.out.2.1, ← HD.out, ← HT.out, Nat.mod_eq_of_lt hlt])
        go_wp2
        go_roundw
        case rel => exact ⟨k - 1, t, A3, c3, by omega, by go_num, rfl, Row.more r3 leA, hlt, Hq2, hB3.to (fun j _ => fromI_skip hpos Hz.out j), Old.trans hb' o13⟩
        case measure => simp [intOf]; omega
      · have hcc : ¬ cmpN t b < 0 := by have := cmpN_nonneg.2 (Nat.le_of_not_lt hlt); omega
        have hcc2 : (0 : Int) ≤ cmpN t b := cmpN_nonneg.2 (Nat.le_of_not_lt hlt)
        obtain ⟨m, hm⟩ : ∃ m : Nat, m = t / b := ⟨_, rfl⟩
        have HM := Lib.hid hm
        have hm9 : m ≤ 999999999 := by rw [hm]; exact htb9
        have hbt : b * m ≤ t := by rw [hm]; exact Nat.mul_div_le t b
        have hlm : len m ≤ 1 := len_le_iff.2 (by rw [B_eq]; omega)
        have Hml := mul_le_len (b := b) (m := m) hm9
        have Hu : Hid ((m : Int) = digI y (k - 1)) := Lib.hid (by unfold digI; rw [HY.out, ← Hf.out.1, ← HD.out, ← HT.out, HM.out])
        have Hq2 : Hid (t - b * m = a / B ^ (k - 1) % b) := Lib.hid (by rw [← Hf.out.2.1, ← HD.out, ← HT.out, HM.out, sub_mul_mod])
        have hsb : t - b * m < b := by rw [HM.out, sub_mul_mod]; exact hbm.out t
        clear hm
        go_wp2_with fail
        refine (l02Digit_any A3 A2 c3 c2 t b _ lo2 _ r3 hb3 (by omega) (by omega) hb0 htb9).mono ?_
        rintro e w4 ⟨he, o4⟩
        rw [← HM.out] at he
        subst he
        have z4 := o4.size
        have o04 : Old w w4 := Old.trans (Old.trans hb' o13) o4
        have r4 := NatS.below r3 o4
        have hB4 := hB3.below (B := w3.heap.size) o4 (by omega)
        clear r3 hb3 hB3 hB
        have hcell := Blk.cell hB4 (k - 1) (by omega)
        have hfz := World.rowIs.frozen hB4 (k - 1)
        have o05 : Old w (w4.setCell ⟨w.heap.size, k - 1, none⟩ (.int .i64 (m : Int))) := oldA
        have hB5 : Blk (w4.setCell ⟨w.heap.size, k - 1, none⟩ (.int .i64 (m : Int))) w.heap.size (len a) (fromI y (k - 1)) := (Blk.set_ hB4 (k - 1) _).to (fun j _ => fromI_step hpos Hu.out j)
        have r5 : NatS (w4.setCell ⟨w.heap.size, k - 1, none⟩ (.int .i64 (m : Int))) wr.heap.size A3 c3 t := Row.far_set r4 (by show w.heap.size < wr.heap.size; omega) _
        have hb5 := NatS.below h2 o05
        clear r4
        go_wp2_with fail
        refine (natOf_to m _ rfl hm9 _).mono ?_
        rintro e w6 ⟨⟨A6, c6, rfl, r6⟩, o6⟩
        have z6 : w4.heap.size ≤ w6.heap.size := by have h := o6.size; simpa [World.setCell] using h
        replace r6 : NatS w6 w4.heap.size A6 c6 m := Row.more r6 (by simp [World.setCell])
        have o06 := Old.trans o05 o6
        have hB6 := hB5.below o6 (by simp [World.setCell]; omega)
        have t6 := NatS.below r5 o6
        have hb6 := NatS.below hb5 o6
        clear hB5 r5 hb5 hB4 hcell hfz o05
        go_wp2_with fail
        refine (l02Mul_any A2 A6 c2 c6 b m lo2 _ _ hb6 r6 (by omega) (by omega)).mono ?_
        rintro e w7 ⟨A7, c7, rfl, r7, o7⟩
        have z7 := o7.size
        have hB7 := hB6.below o7 (by omega)
        have t7 := NatS.below t6 o7
        have o07 := Old.trans o06 o7
        clear hB6 t6 hb6 r6
        go_wp2_with fail
        refine (l02Sub_any A3 A7 c3 c7 t (b * m) _ _ _ t7 r7 (by omega) (by omega) hbt).mono ?_
        rintro e w8 ⟨A8, c8, rfl, r8, o8⟩
        have z8 := o8.size
        have hB8 := hB7.below o8 (by omega)
        have o08 := Old.trans o07 o8
        clear hB7 t7 r7
        go_wp2
        go_roundw
        case rel => exact ⟨k - 1, t - b * m, A8, c8, by omega, by go_num, rfl, Row.more r8 leA, hsb, Hq2, hB8, o08⟩
        case measure => simp [intOf]; omega
    · have e : k = 0 := by omega
      subst e
      have Hq : Hid (x = q) := Lib.hid (by rw [HX.out, hq.out, Nat.pow_zero, Nat.div_one])
      have hrow : Row wr w.heap.size (some ⟨w.heap.size, 0, none⟩) (len a) (len a) (digI y) := (Blk.to hB fun j _ => fromI_all y j).row (Nat.le_refl _)
      go_wp2_with (go_at_call 50; refine (l02Trim_any _ _ _ y _ _ hrow hyl (by omega)).mono ?_; rintro e w1 ⟨rfl, o1⟩)
      go_ret2
      exact ⟨RetQ.to ⟨_, _, _, _, rfl, Row.more (NatS.below (hrow.take hyl) o1) leA, Row.more (NatS.below hR o1) leA⟩ rfl Hq.out.symm, Old.trans hb' o1⟩
theorem l02Div_any (A1 A2 : Option Addr) (c1 c2 a b lo1 lo2 : Nat) (w : World) (h1 : NatS w lo1 A1 c1 a) (h2 : NatS w lo2 A2 c2 b) (ha : len a ≤ 200) (hb : len b ≤ 200) (hb0 : 0 < b) :
    Calls Tryz.prog 107 #[.slice A1 (len a) c1, .slice A2 (len b) c2] w fun e w' => RetQ e w' w.heap.size (a / b) (a % b) ∧ Old w w' := by
  by_cases h : len b = 1
  · exact l02Div_one A1 A2 c1 c2 a b lo1 lo2 w h1 h2 ha h
  · exact l02Div_long A1 A2 c1 c2 a b lo1 lo2 w h1 h2 ha hb hb0 h
end Go.Proofs.YtgchbbjhdeobpaaGreatDoor
