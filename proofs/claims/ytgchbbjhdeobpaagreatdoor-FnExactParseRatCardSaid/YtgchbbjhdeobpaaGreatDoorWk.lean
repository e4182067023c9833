import Derived.Test.YtgchbbjhdeobpaaGreatDoorBoxes
import Derived.Test.YtgchbbjhdeobpaaGreatDoorRatNum
import Derived.Test.YtgchbbjhdeobpaaGreatDoorFloor
import Derived.Deep.RegionHeld3
import Derived.Deep.DrawnRows
/-
  Helpers of the walks: the world of a call gets a name; boxes and rows are kept while other cells are written; a call that returns a fraction.
-/
namespace Go.Proofs.YtgchbbjhdeobpaaGreatDoor
set_option linter.unusedVariables false
open Go.RowKit Num
theorem callsNamed {P : Program} {f : FuncId} {args : Array Value} {w : World} {Q : Ending → World → Prop} (h : ∀ x, x = w → Calls P f args x Q) : Calls P f args w Q := h w rfl
section
variable {w w' : World} {g lo lo' n c : Nat} {cs : Array Value} {A : Option Addr} {f : Nat → Int}
theorem Bx.far (h : Bx w g cs) {p : Addr} (hp : ¬ p.block = g) (u : Value) : Bx (w.setCell p u) g cs := by
  obtain ⟨t, e⟩ := h
  exact ⟨t, (Below.heap_setCell w p u g (fun e => hp e.symm)).trans e⟩
theorem Bx.drewN (h : Bx w g cs) (k : Nat) : Bx (w.drewN k) g cs := h
theorem Bx.newN (w : World) (k : Nat) (cs : Array Value) (t : TypeId) : Bx ((w.drewN k).alloc (.cells cs t)) w.heap.size cs := Bx.new (w.drewN k) cs t
theorem Bx.new1 (w : World) (cs : Array Value) (t : TypeId) : Bx (w.drew.alloc (.cells cs t)) w.heap.size cs := Bx.new w.drew cs t
theorem Row.at (_ : Row w lo A n c f) (w' : World) (h : Row w' lo A n c f) : Row w' lo A n c f := h
theorem Row.alloc' (h : Row w lo A n c f) (o : Obj) : Row (w.alloc o) lo A n c f := Row.below h ((Old.refl w).alloc (Nat.le_refl _) o) (Nat.le_refl _)
theorem Row.drew' (h : Row w lo A n c f) : Row w.drew lo A n c f := h
/-- The slice does not lie in block g. -/
def Off (g : Nat) (A : Option Addr) (n : Nat) : Prop := 0 < n → ∀ a, A = some a → a.block ≠ g
theorem Row.off (h : Row w lo A n c f) (hb : Bx w g cs) (hn : ∀ (i : Nat) (x : Int), cs[i]? ≠ some (.int .i64 x)) : Off g A n := by
  intro h0 a ea eg
  obtain ⟨b, off, e, _, _, _, hc⟩ := h.2 h0
  rw [ea] at e; injection e with e; subst e
  have h1 := hc 0 h0
  obtain ⟨t, ht⟩ := hb
  subst eg
  rw [cell_of_row w b (off + 0) cs t (0, 0) ht] at h1
  exact hn _ _ h1
theorem Low.off {A : Option Addr} (h : Low lo A n) (hg : g < lo) : Off g A n := fun h0 a ea e => by have := h h0 a ea; omega
theorem Row.far_off (h : Row w lo A n c f) {p : Addr} (ho : Off p.block A n) (u : Value) : Row (w.setCell p u) lo A n c f := by
  refine ⟨h.1, fun hn => ?_⟩
  obtain ⟨b, off, e, hl, hs, hf, hc⟩ := h.2 hn
  have hne : b ≠ p.block := ho hn _ e
  have hblk := Below.heap_setCell w p u b hne
  exact ⟨b, off, e, hl, by simpa [World.setCell] using hs, fun j => (World.frozen?_of_block (w := w) hblk).trans (hf j), fun j hj => (World.cell?_of_block (w := w) hblk).trans (hc j hj)⟩
end
theorem Apart.symm {A A' : Option Addr} {n m : Nat} (h : Apart A n A' m) : Apart A' m A n := fun a a' h1 h2 e1 e2 e => h a' a h2 h1 e2 e1 e.symm
theorem Apart.nil (A : Option Addr) (n m : Nat) : Apart A n none m := fun a a' _ _ _ e => by cases e
theorem Apart.nil' (A : Option Addr) (n m : Nat) : Apart none n A m := fun a a' _ _ e => by cases e
/-- The call returned the fraction v, as memory that is not older than lo. -/
def RetR (e : Ending) (w : World) (lo : Nat) (v : Fr) : Prop := ∃ z d A1 c1 A2 c2, v = (z, d) ∧ e = .returned (.agg #[.bool (sgnZ z), .slice A1 (len (magZ z)) c1, .slice A2 (len d) c2]) ∧ NatS w lo A1 c1 (magZ z) ∧ NatS w lo A2 c2 d ∧ Apart A1 (len (magZ z)) A2 (len d)
theorem RetR.zero {e : Ending} {w : World} {lo : Nat} (h : e = .returned (.agg #[.bool false, .slice none 0 0, .slice none 0 0])) : RetR e w lo (0, 0) :=
  ⟨0, 0, none, 0, none, 0, rfl, h, Row.zero _ _ _ _ _, Row.zero _ _ _ _ _, Apart.nil _ _ _⟩
theorem RetR.to {e : Ending} {w : World} {lo : Nat} {v v' : Fr} (h : RetR e w lo v) (hv : v = v') : RetR e w lo v' := hv ▸ h
theorem retR_to {P : Program} {f : FuncId} {args : Array Value} {w : World} {v v' : Fr} (hv : v = v') (h : Calls P f args w fun e w' => RetR e w' w.heap.size v ∧ Old w w') : Calls P f args w fun e w' => RetR e w' w.heap.size v' ∧ Old w w' := hv ▸ h
theorem plain_to {P : Program} {f : FuncId} {args : Array Value} {w : World} {v v' : Value} (hv : v = v') (h : Calls P f args w fun e w' => e = .returned v ∧ Old w w') : Calls P f args w fun e w' => e = .returned v' ∧ Old w w' := hv ▸ h
/-- The call returned two fractions, as memory that is not older than lo. -/
def RetP (e : Ending) (w : World) (lo : Nat) (v : Fr × Fr) : Prop := ∃ z1 d1 z2 d2 A1 c1 A2 c2 A3 c3 A4 c4, v = ((z1, d1), (z2, d2)) ∧ e = .returned (.agg #[.bool (sgnZ z1), .slice A1 (len (magZ z1)) c1, .slice A2 (len d1) c2, .bool (sgnZ z2), .slice A3 (len (magZ z2)) c3, .slice A4 (len d2) c4]) ∧
  NatS w lo A1 c1 (magZ z1) ∧ NatS w lo A2 c2 d1 ∧ NatS w lo A3 c3 (magZ z2) ∧ NatS w lo A4 c4 d2 ∧
  (Apart A1 (len (magZ z1)) A2 (len d1) ∧ Apart A1 (len (magZ z1)) A3 (len (magZ z2)) ∧ Apart A1 (len (magZ z1)) A4 (len d2) ∧ Apart A2 (len d1) A3 (len (magZ z2)) ∧ Apart A2 (len d1) A4 (len d2) ∧ Apart A3 (len (magZ z2)) A4 (len d2))
theorem RetP.zero {e : Ending} {w : World} {lo : Nat} (h : e = .returned (.agg #[.bool false, .slice none 0 0, .slice none 0 0, .bool false, .slice none 0 0, .slice none 0 0])) : RetP e w lo ((0, 0), (0, 0)) :=
  ⟨0, 0, 0, 0, none, 0, none, 0, none, 0, none, 0, rfl, h, Row.zero _ _ _ _ _, Row.zero _ _ _ _ _, Row.zero _ _ _ _ _, Row.zero _ _ _ _ _, Apart.nil _ _ _, Apart.nil _ _ _, Apart.nil _ _ _, Apart.nil _ _ _, Apart.nil _ _ _, Apart.nil _ _ _⟩
theorem RetP.to {e : Ending} {w : World} {lo : Nat} {v v' : Fr × Fr} (h : RetP e w lo v) (hv : v = v') : RetP e w lo v' := hv ▸ h

/-! short words for what the walks say at each call -/
theorem bxK {P w w' : World} {g : Nat} {cs : Array Value} (_ : Bx P g cs) (hp : w' = w) (h : Bx w g cs := by repeat' (first | (with_reducible assumption) | (with_reducible refine Bx.alloc ?_ _) | (with_reducible refine Bx.drewN ?_ _) | (with_reducible refine Bx.drew ?_) | refine Bx.far ?_ (by first | assumption | (simp <;> done) | (simp; omega) | omega) _)) : Bx w' g cs := by rw [hp]; exact h
theorem rowK {P w w' : World} {lo n c : Nat} {A : Option Addr} {f : Nat → Int} (_ : Row P lo A n c f) (hp : w' = w) (h : Row w lo A n c f := by repeat' (first | (with_reducible assumption) | (with_reducible refine Row.alloc' ?_ _) | (with_reducible refine Row.drewN ?_ _) | (with_reducible refine Row.drew' ?_) | refine Row.far_off ?_ (by assumption) _ | refine Row.far_set ?_ (by first | (simp <;> done) | (simp; omega) | omega) _)) : Row w' lo A n c f := by rw [hp]; exact h
theorem eNew {w w' : World} {g : Nat} {cs : Array Value} (hp : w' = w) (h : Bx w g cs := by first | (with_reducible exact Bx.new _ _ _) | (with_reducible exact Bx.drewN (Bx.new _ _ _) _) | (with_reducible exact Bx.drew (Bx.new _ _ _)) | (with_reducible exact Bx.newN _ _ _ _) | (with_reducible exact Bx.drewN (Bx.newN _ _ _ _) _) | (with_reducible exact Bx.drew (Bx.newN _ _ _ _)) | (with_reducible exact Bx.new1 _ _ _) | (with_reducible exact Bx.drewN (Bx.new1 _ _ _) _) | (with_reducible exact Bx.drew (Bx.new1 _ _ _))) : Bx w' g cs := by rw [hp]; exact h
section
variable {w : World} {g : Nat} {a b c d e f : Value}
theorem Bx.all1 (h : Bx w g #[a]) : w.cell? ⟨g, 0, none⟩ = some a ∧ w.frozen? ⟨g, 0, none⟩ = false ∧ g < w.heap.size := ⟨h.cell 0 rfl, h.frozen 0, h.lt⟩
theorem Bx.all2 (h : Bx w g #[a, b]) : w.cell? ⟨g, 0, none⟩ = some a ∧ w.cell? ⟨g, 1, none⟩ = some b ∧ w.frozen? ⟨g, 0, none⟩ = false ∧ w.frozen? ⟨g, 1, none⟩ = false ∧ g < w.heap.size := ⟨h.cell 0 rfl, h.cell 1 rfl, h.frozen 0, h.frozen 1, h.lt⟩
theorem Bx.all3 (h : Bx w g #[a, b, c]) : w.cell? ⟨g, 0, none⟩ = some a ∧ w.cell? ⟨g, 1, none⟩ = some b ∧ w.cell? ⟨g, 2, none⟩ = some c ∧ w.frozen? ⟨g, 0, none⟩ = false ∧ w.frozen? ⟨g, 1, none⟩ = false ∧ w.frozen? ⟨g, 2, none⟩ = false ∧ g < w.heap.size := ⟨h.cell 0 rfl, h.cell 1 rfl, h.cell 2 rfl, h.frozen 0, h.frozen 1, h.frozen 2, h.lt⟩
theorem Bx.all6 (h : Bx w g #[a, b, c, d, e, f]) : w.cell? ⟨g, 0, none⟩ = some a ∧ w.cell? ⟨g, 1, none⟩ = some b ∧ w.cell? ⟨g, 2, none⟩ = some c ∧ w.cell? ⟨g, 3, none⟩ = some d ∧ w.cell? ⟨g, 4, none⟩ = some e ∧ w.cell? ⟨g, 5, none⟩ = some f ∧ w.frozen? ⟨g, 0, none⟩ = false ∧ w.frozen? ⟨g, 1, none⟩ = false ∧ w.frozen? ⟨g, 2, none⟩ = false ∧ w.frozen? ⟨g, 3, none⟩ = false ∧ w.frozen? ⟨g, 4, none⟩ = false ∧ w.frozen? ⟨g, 5, none⟩ = false ∧ g < w.heap.size := ⟨h.cell 0 rfl, h.cell 1 rfl, h.cell 2 rfl, h.cell 3 rfl, h.cell 4 rfl, h.cell 5 rfl, h.frozen 0, h.frozen 1, h.frozen 2, h.frozen 3, h.frozen 4, h.frozen 5, h.lt⟩
end
/-! plain facts -/
theorem signed_mul_nat (z : Int) (d : Nat) : signed (sgnZ z) (magZ z * d) = z * (d : Int) := by
  have h := signed_mul (sgnZ z) false (magZ z) d
  rw [signed_mag, Bool.bne_false] at h
  exact h.symm
theorem signed_false (d : Nat) : signed false d = (d : Int) := rfl
theorem mul_mag (z : Int) (d : Nat) : magZ (z * (d : Int)) = magZ z * d := by rw [mag_mul]; rfl
theorem len_one' : len 1 = 1 := len_1
theorem capN_fit {x : Nat} (h : len x ≤ 60) : capN x = x := if_pos h
theorem mul_fit {x y : Nat} (hx : len x ≤ 24) (hy : len y ≤ 24) : len (x * y) ≤ 48 := by have := mul_len_le x y; omega
theorem add_fit {a b : Int} (ha : len (magZ a) ≤ 48) (hb : len (magZ b) ≤ 48) : len (magZ (a + b)) ≤ 49 := by
  have h1 := len_mono (mag_add_le a b)
  have h2 := add_len_le (magZ a) (magZ b)
  omega
theorem capZ_fit {z : Int} (h : len (magZ z) ≤ 60) : capZ z = z := if_pos h
theorem sgn_true {z : Int} (h : sgnZ z = true) : 0 < magZ z := sgn_pos h
theorem mkF_signed {b : Bool} {x d : Nat} (hd : 0 < d) (h1 : len (x / Nat.gcd x d) ≤ 24) (h2 : len (d / Nat.gcd x d) ≤ 24) : mkF (signed b x) d = (signed b (x / Nat.gcd x d), d / Nat.gcd x d) := by
  rw [mkF_yes hd (by rw [mag_signed]; exact h1) (by rw [mag_signed]; exact h2), mag_signed]
  congr 1
  rw [sgn_signed]
  rcases Nat.eq_zero_or_pos x with h | h
  · subst h; cases b <;> simp [signed]
  · simp [h]
theorem mkF_signed_no {b : Bool} {x d : Nat} (h : ¬ (len (x / Nat.gcd x d) ≤ 24 ∧ len (d / Nat.gcd x d) ≤ 24)) : mkF (signed b x) d = (0, 0) := mkF_no (by rw [mag_signed]; exact h)
theorem quo_len (x g : Nat) : len (x / g) ≤ len x := div_len x g
theorem l03Make_fit (b : Bool) (A : Option Addr) (c r lo : Nat) (w : World) (h : NatS w lo A c r) (hr : len r ≤ 60) :
    Calls Tryz.prog 120 #[.bool b, .slice A (len r) c] w fun e w' => RetB e w' w.heap.size (signed b r) ∧ Old w w' := by
  have := l03Make_any b A (len r) c r lo w h (Nat.le_refl _) (by omega)
  rw [capN_fit hr] at this
  exact this
theorem bigAdd_fit (z1 z2 : Int) (A1 A2 : Option Addr) (c1 c2 lo1 lo2 : Nat) (w : World) (h1 : NatS w lo1 A1 c1 (magZ z1)) (h2 : NatS w lo2 A2 c2 (magZ z2)) (hx : len (magZ z1) ≤ 48) (hy : len (magZ z2) ≤ 48) :
    Calls Tryz.prog 72 #[.agg #[.bool (sgnZ z1), .slice A1 (len (magZ z1)) c1], .agg #[.bool (sgnZ z2), .slice A2 (len (magZ z2)) c2]] w fun e w' => RetB e w' w.heap.size (z1 + z2) ∧ Old w w' := by
  have := bigAdd_any (sgnZ z1) (sgnZ z2) A1 A2 c1 c2 (magZ z1) (magZ z2) lo1 lo2 w h1 h2 (by omega) (by omega)
  rw [signed_mag, signed_mag] at this
  exact this
theorem bigMul_nat (z : Int) (d : Nat) (A1 A2 : Option Addr) (c1 c2 lo1 lo2 : Nat) (w : World) (h1 : NatS w lo1 A1 c1 (magZ z)) (h2 : NatS w lo2 A2 c2 d) (hx : len (magZ z) ≤ 24) (hy : len d ≤ 24) :
    Calls Tryz.prog 73 #[.agg #[.bool (sgnZ z), .slice A1 (len (magZ z)) c1], .agg #[.bool false, .slice A2 (len d) c2]] w fun e w' => RetB e w' w.heap.size (z * (d : Int)) ∧ Old w w' := by
  have := bigMul_any (sgnZ z) false A1 A2 c1 c2 (magZ z) d lo1 lo2 w h1 h2 (by omega) (by omega)
  rw [signed_mag, signed_false] at this
  exact this
theorem bigMul_int (z1 z2 : Int) (A1 A2 : Option Addr) (c1 c2 lo1 lo2 : Nat) (w : World) (h1 : NatS w lo1 A1 c1 (magZ z1)) (h2 : NatS w lo2 A2 c2 (magZ z2)) (hx : len (magZ z1) ≤ 24) (hy : len (magZ z2) ≤ 24) :
    Calls Tryz.prog 73 #[.agg #[.bool (sgnZ z1), .slice A1 (len (magZ z1)) c1], .agg #[.bool (sgnZ z2), .slice A2 (len (magZ z2)) c2]] w fun e w' => RetB e w' w.heap.size (z1 * z2) ∧ Old w w' := by
  have := bigMul_any (sgnZ z1) (sgnZ z2) A1 A2 c1 c2 (magZ z1) (magZ z2) lo1 lo2 w h1 h2 (by omega) (by omega)
  rw [signed_mag, signed_mag] at this
  exact this
theorem natDiv_q (A1 A2 : Option Addr) (c1 c2 a b lo1 lo2 : Nat) (w : World) (h1 : NatS w lo1 A1 c1 a) (h2 : NatS w lo2 A2 c2 b) (ha : len a ≤ 200) (hb : len b ≤ 200) (hb0 : 0 < b) :
    Calls Tryz.prog 90 #[.slice A1 (len a) c1, .slice A2 (len b) c2] w fun e w' => ∃ A c A' n' c', e = .returned (.tuple #[.slice A (len (a / b)) c, .slice A' n' c']) ∧ NatS w' w.heap.size A c (a / b) ∧ Old w w' := by
  by_cases hlt : a < b
  · refine (natDiv_less A1 A2 c1 c2 a b lo1 lo2 w h1 h2 ha hb hlt).mono ?_
    rintro e w' ⟨rfl, o⟩
    have e0 : a / b = 0 := Nat.div_eq_of_lt hlt
    rw [e0]
    exact ⟨none, 0, A1, len a, c1, by rw [len_zero], NatS.zero _ _ _ _, o⟩
  · have hge : b ≤ a := by omega
    by_cases h : len b = 1
    · refine (natDiv_one A1 A2 c1 c2 a b lo1 lo2 w h1 h2 ha h hge).mono ?_
      rintro e w' ⟨⟨A, c, A', c', rfl, r1, r2⟩, o⟩
      exact ⟨A, c, A', _, c', rfl, r1, o⟩
    · refine (natDiv_long A1 A2 c1 c2 a b lo1 lo2 w h1 h2 ha hb hb0 h hge).mono ?_
      rintro e w' ⟨⟨A, c, A', c', rfl, r1, r2⟩, o⟩
      exact ⟨A, c, A', _, c', rfl, r1, o⟩
theorem nat_ok {x : Nat} (h : len x ≤ 60) : okP (len x) (digI x) := okP_of h
theorem no_int3 (b : Bool) (A1 A2 : Option Addr) (n1 n2 c1 c2 : Nat) : ∀ (i : Nat) (x : Int), (#[Value.bool b, .slice A1 n1 c1, .slice A2 n2 c2] : Array Value)[i]? ≠ some (.int .i64 x) := by
  intro i x; rcases i with _ | _ | _ | i <;> simp
theorem no_int2 (b : Bool) (A1 : Option Addr) (n1 c1 : Nat) : ∀ (i : Nat) (x : Int), (#[Value.bool b, .slice A1 n1 c1] : Array Value)[i]? ≠ some (.int .i64 x) := by
  intro i x; rcases i with _ | _ | i <;> simp
end Go.Proofs.YtgchbbjhdeobpaaGreatDoor
