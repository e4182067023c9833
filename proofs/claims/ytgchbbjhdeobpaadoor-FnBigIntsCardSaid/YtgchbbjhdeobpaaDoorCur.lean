import Derived.Test.YtgchbbjhdeobpaaDoorBoxes
import Derived.Test.YtgchbbjhdeobpaaDoorInt
import Derived.Laws.BitsLemmas
import Derived.Lib.Hide
import Derived.Deep.QuietTactic
import Derived.BigQuiet
/-
  The reference's draws: a cursor over bytes.
-/
namespace Go.Proofs.YtgchbbjhdeobpaaDoor
set_option linter.unusedVariables false
open Go.RowKit

/-- The slice (A, n, c) reads as bytes. -/
def BRd (w : World) (lim : Nat) (A : Option Addr) (n c : Nat) : Prop := n ≤ c ∧ n ≤ 1048576 ∧ (0 < n → ∃ b off, A = some ⟨b, off, none⟩ ∧ b < w.heap.size ∧ b < lim ∧ ∀ j, j < n → ∃ v : Nat, v ≤ 255 ∧ w.cell? ⟨b, off + j, none⟩ = some (.int .u8 (v : Int)))
/-- Block g is a cursor over the bytes (A, n, c). -/
def Cur (w : World) (g : Nat) (A : Option Addr) (n c : Nat) : Prop := ∃ i h : Int, Bx w g #[.slice A n c, .int .i64 i, .int .i64 h] ∧ 0 ≤ i ∧ i ≤ n ∧ -9223372036854775808 ≤ h ∧ h ≤ 9223372036854775807
theorem i64_and255 (n : Int) : bits .and .i64 n 255 = n % 256 := by
  have h255 : (BitVec.ofInt 64 255).toNat = 2 ^ 8 - 1 := by decide
  have key : (BitVec.ofInt 64 n &&& BitVec.ofInt 64 255).toNat = (n % ((2 ^ 64 : Nat) : Int)).toNat % 2 ^ 8 := by
    rw [BitVec.toNat_and, BitVec.toNat_ofInt, h255, Nat.and_two_pow_sub_one_eq_mod]
  show IntKind.i64.wrap ((BitVec.ofInt 64 n &&& BitVec.ofInt 64 255).toNat : Nat) = n % 256
  rw [key, IntKind.wrap_i64]
  omega
theorem i64_and30 (n : Int) : bits .and .i64 n 1073741823 = n % 1073741824 := by
  have h30 : (BitVec.ofInt 64 1073741823).toNat = 2 ^ 30 - 1 := by decide
  have key : (BitVec.ofInt 64 n &&& BitVec.ofInt 64 1073741823).toNat = (n % ((2 ^ 64 : Nat) : Int)).toNat % 2 ^ 30 := by
    rw [BitVec.toNat_and, BitVec.toNat_ofInt, h30, Nat.and_two_pow_sub_one_eq_mod]
  show IntKind.i64.wrap ((BitVec.ofInt 64 n &&& BitVec.ofInt 64 1073741823).toNat : Nat) = n % 1073741824
  rw [key, IntKind.wrap_i64]
  omega
theorem grow_drewN {a w : World} {row : Option Nat} (h : a.grownBy w row) (k : Nat) : a.grownBy (w.drewN k) row := ⟨h.os, h.tape, h.output, h.size, h.block⟩
theorem Bx.drewN' {w : World} {g : Nat} {cs : Array Value} (h : Bx w g cs) (k : Nat) : Bx (w.drewN k) g cs := h
theorem wrap64_in (x : Int) : -9223372036854775808 ≤ wrap64 x ∧ wrap64 x ≤ 9223372036854775807 := by unfold wrap64; omega
set_option maxRecDepth 100000 in
set_option maxHeartbeats 1000000 in
theorem l01Byte_any (g : Nat) (A : Option Addr) (n c : Nat) (w : World) (hb : BRd w g A n c) (hc : Cur w g A n c) :
    Calls Tryd.prog 48 #[.pointer (some ⟨g, 0, none⟩)] w fun e w' => ∃ x : Int, e = .returned (.int .i64 x) ∧ 0 ≤ x ∧ x ≤ 255 ∧ Cur w' g A n c ∧ w.grownBy w' (some g) := by
  obtain ⟨i, h, B, hi0, hin, hh0, hh1⟩ := hc
  have hn := hb.2.1
  have q0 : w.cell? ⟨g, 0, none⟩ = some (.slice A n c) := B.cell 0 rfl
  have q1 : w.cell? ⟨g, 1, none⟩ = some (.int .i64 i) := B.cell 1 rfl
  have q2 : w.cell? ⟨g, 2, none⟩ = some (.int .i64 h) := B.cell 2 rfl
  have f2 := B.frozen 2
  have f1 := B.frozen 1
  have hg := B.lt
  obtain ⟨k, rfl⟩ : ∃ k : Nat, i = (k : Int) := ⟨i.toNat, by omega⟩
  by_cases hk : k < n
  · obtain ⟨b, off, rfl, hbs, hbg, hcell⟩ := hb.2.2 (by omega)
    obtain ⟨v, hv, hx1⟩ := hcell k hk
    have HB := Lib.hid hb
    have n1 : ¬ b = g := by omega
    have n2 : ¬ g = b := by omega
    have hw1 := w64 ((k : Int) + 1) (by omega) (by omega)
    clear hcell hb
    go_enter Tryd.func48, Tryd.ntmps48
    go_wp2
    go_quiet (fail)
    obtain ⟨h1, hh1'⟩ : ∃ h1, h1 = wrap64 (wrap64 (h * 6364136223846793005) + 1442695040888963407) := ⟨_, rfl⟩
    rw [← hh1']
    obtain ⟨x, hx⟩ : ∃ x, x = bits .and .i64 (bits .xor .i64 (h1 / 8589934592) (h1 / 35184372088832)) 255 := ⟨_, rfl⟩
    rw [← hx]
    have hx0 : 0 ≤ x ∧ x ≤ 255 := by rw [hx, i64_and255]; omega
    have hh2 : -9223372036854775808 ≤ h1 ∧ h1 ≤ 9223372036854775807 := by rw [hh1']; exact wrap64_in _
    have hw2 := w64 (x + (v : Int)) (by omega) (by omega)
    clear hh1' hx
    go_wp2
    go_quiet (fail)
    go_wp2
    go_quiet (fail)
    have C1 : Bx (w.setCell ⟨g, 2, none⟩ (.int .i64 h1)) g #[.slice (some ⟨b, off, none⟩) n c, .int .i64 (k : Int), .int .i64 h1] := B.set 2 _
    have C2 : ∀ m, Bx (((w.setCell ⟨g, 2, none⟩ (.int .i64 h1)).drewN m).setCell ⟨g, 1, none⟩ (.int .i64 ((k : Int) + 1))) g #[.slice (some ⟨b, off, none⟩) n c, .int .i64 ((k : Int) + 1), .int .i64 h1] := fun m => (C1.drewN' m).set 1 _
    have G1 : w.grownBy (w.setCell ⟨g, 2, none⟩ (.int .i64 h1)) (some g) := only_setCell (World.grownBy.refl _ _) rfl _
    have G2 : ∀ m, w.grownBy (((w.setCell ⟨g, 2, none⟩ (.int .i64 h1)).drewN m).setCell ⟨g, 1, none⟩ (.int .i64 ((k : Int) + 1))) (some g) := fun m => only_setCell (grow_drewN G1 m) rfl _
    go_wp2
    go_ret
    refine ⟨_, rfl, ?_, ?_, ⟨(k : Int) + 1, h1, C2 _, by omega, by omega, hh2.1, hh2.2⟩, G2 _⟩
    · rw [i64_and255]; omega
    · rw [i64_and255]; omega
  · clear hb
    go_enter Tryd.func48, Tryd.ntmps48
    go_wp2
    go_quiet (fail)
    obtain ⟨h1, hh1'⟩ : ∃ h1, h1 = wrap64 (wrap64 (h * 6364136223846793005) + 1442695040888963407) := ⟨_, rfl⟩
    rw [← hh1']
    obtain ⟨x, hx⟩ : ∃ x, x = bits .and .i64 (bits .xor .i64 (h1 / 8589934592) (h1 / 35184372088832)) 255 := ⟨_, rfl⟩
    rw [← hx]
    have hx0 : 0 ≤ x ∧ x ≤ 255 := by rw [hx, i64_and255]; omega
    have hh2 : -9223372036854775808 ≤ h1 ∧ h1 ≤ 9223372036854775807 := by rw [hh1']; exact wrap64_in _
    clear hh1' hx
    go_wp2
    go_quiet (fail)
    have C1 : Bx (w.setCell ⟨g, 2, none⟩ (.int .i64 h1)) g #[.slice A n c, .int .i64 (k : Int), .int .i64 h1] := B.set 2 _
    have G1 : w.grownBy (w.setCell ⟨g, 2, none⟩ (.int .i64 h1)) (some g) := only_setCell (World.grownBy.refl _ _) rfl _
    have C2 := fun a b => (C1.drewN' a).drewN' b
    have G2 := fun a b => grow_drewN (grow_drewN G1 a) b
    go_wp2
    go_ret
    exact ⟨_, rfl, hx0.1, hx0.2, ⟨(k : Int), h1, C2 _ _, hi0, hin, hh2.1, hh2.2⟩, G2 _ _⟩
theorem Cur.kept {w w' : World} {g : Nat} {A : Option Addr} {n c : Nat} {row : Option Nat} (h : Cur w g A n c) (hg : w.grownBy w' row) (hne : some g ≠ row) : Cur w' g A n c := by
  obtain ⟨i, x, B, r⟩ := h
  exact ⟨i, x, B.kept hg hne, r⟩
theorem BRd.kept {w w' : World} {lim g : Nat} {A : Option Addr} {n c : Nat} (h : BRd w lim A n c) (hg : w.grownBy w' (some g)) (hl : lim ≤ g) : BRd w' lim A n c := by
  refine ⟨h.1, h.2.1, fun hn => ?_⟩
  obtain ⟨b, off, e, hs, hb, hc⟩ := h.2.2 hn
  refine ⟨b, off, e, Nat.lt_of_lt_of_le hs hg.size, hb, fun j hj => ?_⟩
  obtain ⟨v, hv, hx⟩ := hc j hj
  refine ⟨v, hv, ?_⟩
  rw [← hx]
  exact World.cell?_of_block (w := w) (hg.block b hs (by simp; omega))
theorem BRd.old {w w' : World} {lim : Nat} {A : Option Addr} {n c : Nat} (h : BRd w lim A n c) (o : Old w w') : BRd w' lim A n c := by
  refine ⟨h.1, h.2.1, fun hn => ?_⟩
  obtain ⟨b, off, e, hs, hb, hc⟩ := h.2.2 hn
  refine ⟨b, off, e, Nat.lt_of_lt_of_le hs o.size, hb, fun j hj => ?_⟩
  obtain ⟨v, hv, hx⟩ := hc j hj
  exact ⟨v, hv, (o.cell (p := ⟨b, off + j, none⟩) hs).trans hx⟩
set_option maxRecDepth 100000 in
set_option maxHeartbeats 1000000 in
theorem l01Below_small (g m : Nat) (A : Option Addr) (n c : Nat) (w : World) (hm : 0 < m) (hm2 : m ≤ 256) (hb : BRd w g A n c) (hc : Cur w g A n c) :
    Calls Tryd.prog 44 #[.pointer (some ⟨g, 0, none⟩), .int .i64 (m : Int)] w fun e w' => ∃ x : Nat, e = .returned (.int .i64 (x : Int)) ∧ x < m ∧ Cur w' g A n c ∧ w.grownBy w' (some g) := by
  go_enter Tryd.func44, Tryd.ntmps44
  go_wp2_with fail
  refine (l01Byte_any g A n c _ hb hc).mono ?_
  rintro e w1 ⟨x, rfl, hx0, hx1, C1, G1⟩
  obtain ⟨y, rfl⟩ : ∃ y : Nat, x = (y : Int) := ⟨x.toNat, by omega⟩
  go_wp2
  go_ret
  exact ⟨y % m, congrArg (fun z => Ending.returned (.int .i64 z)) (by omega), Nat.mod_lt _ hm, C1, G1⟩
set_option maxRecDepth 100000 in
set_option maxHeartbeats 1000000 in
theorem l01Below_big (g m : Nat) (A : Option Addr) (n c : Nat) (w : World) (hm : 256 < m) (hm2 : m ≤ 1000000000) (hb : BRd w g A n c) (hc : Cur w g A n c) :
    Calls Tryd.prog 44 #[.pointer (some ⟨g, 0, none⟩), .int .i64 (m : Int)] w fun e w' => ∃ x : Nat, e = .returned (.int .i64 (x : Int)) ∧ x < m ∧ Cur w' g A n c ∧ w.grownBy w' (some g) := by
  go_enter Tryd.func44, Tryd.ntmps44
  go_wp2_with fail
  refine (l01Byte_any g A n c _ hb hc).mono ?_
  rintro e w1 ⟨x1, rfl, a1, b1, C1, G1⟩
  obtain ⟨y1, rfl⟩ : ∃ y : Nat, x1 = (y : Int) := ⟨x1.toNat, by omega⟩
  have B1 := hb.kept G1 (Nat.le_refl _)
  go_wp2_with fail
  refine (l01Byte_any g A n c _ B1 C1).mono ?_
  rintro e w2 ⟨x2, rfl, a2, b2, C2, G2⟩
  obtain ⟨y2, rfl⟩ : ∃ y : Nat, x2 = (y : Int) := ⟨x2.toNat, by omega⟩
  have B2 := B1.kept G2 (Nat.le_refl _)
  go_wp2_with fail
  refine (l01Byte_any g A n c _ B2 C2).mono ?_
  rintro e w3 ⟨x3, rfl, a3, b3, C3, G3⟩
  obtain ⟨y3, rfl⟩ : ∃ y : Nat, x3 = (y : Int) := ⟨x3.toNat, by omega⟩
  have B3 := B2.kept G3 (Nat.le_refl _)
  go_wp2_with fail
  refine (l01Byte_any g A n c _ B3 C3).mono ?_
  rintro e w4 ⟨x4, rfl, a4, b4, C4, G4⟩
  obtain ⟨y4, rfl⟩ : ∃ y : Nat, x4 = (y : Int) := ⟨x4.toNat, by omega⟩
  have G := G1.trans (G2.trans (G3.trans G4))
  go_wp2
  go_ret
  obtain ⟨Y, hY⟩ : ∃ Y : Nat, Y = y1 * 16777216 + y2 * 65536 + y3 * 256 + y4 := ⟨_, rfl⟩
  have e : ((y1 : Int) * 16777216 + (y2 : Int) * 65536 + (y3 : Int) * 256 + (y4 : Int)) = (Y : Int) := by omega
  exact ⟨Y % m, congrArg (fun z => Ending.returned (.int .i64 z)) (by rw [e]; clear e hY; omega), Nat.mod_lt _ (by omega), C4, G⟩
set_option maxRecDepth 100000 in
set_option maxHeartbeats 1000000 in
theorem l01New_any (A : Option Addr) (n c : Nat) (w : World) (hb : BRd w w.heap.size A n c) :
    Calls Tryd.prog 47 #[.slice A n c] w fun e w' => ∃ g, e = .returned (.pointer (some ⟨g, 0, none⟩)) ∧ w.heap.size ≤ g ∧ Cur w' g A n c ∧ BRd w' g A n c ∧ Old w w' := by
  have hn := hb.2.1
  have HB := Lib.hid hb
  go_enter Tryd.func47, Tryd.ntmps47
  go_wp2
  go_loop [3, 4] (fun h i => ∃ (k : Nat) (x : Int), k ≤ n ∧ k ≤ 4000 ∧ i = .int .i64 (k : Int) ∧ h = .int .i64 x ∧ 0 ≤ x ∧ x ≤ 1073741823) (fun _ i => n - (intOf i).toNat)
  case atStart => exact ⟨0, _, Nat.zero_le _, by omega, rfl, rfl, by omega, by omega⟩
  case round =>
    obtain ⟨k, x, hk, hk4, rfl, rfl, hx0, hx1⟩ := hrel
    by_cases hlt : k < n
    · by_cases hl4 : k < 4000
      · obtain ⟨b, off, rfl, hbs, hbg, hcell⟩ := HB.out.2.2 (by omega)
        obtain ⟨v, hv, hx⟩ := hcell k hlt
        clear hcell hb
        have hr : 0 ≤ (x * 61 + (v : Int) + 7) % 1073741824 ∧ (x * 61 + (v : Int) + 7) % 1073741824 ≤ 1073741823 := by omega
        have h30 := i64_and30 (x * 61 + (v : Int) + 7)
        have HRR := Lib.hid hr
        clear hr
        go_wp2
        go_round
        case rel => exact ⟨k + 1, _, by omega, by omega, by go_num, rfl, HRR.out.1, HRR.out.2⟩
        case measure => simp [intOf]; omega
      · have hl5 : decide ((k : Int) < 4000) = false := decide_eq_false (by omega)
        go_wp2
        go_ret
        exact ⟨_, rfl, Nat.le_refl _, ⟨0, x, Bx.new _ _ _, by omega, by omega, by omega, by omega⟩, HB.out.old oldA, oldA⟩
    · have hl5 : decide ((k : Int) < (n : Int)) = false := decide_eq_false (by omega)
      go_wp2
      go_ret
      exact ⟨_, rfl, Nat.le_refl _, ⟨0, x, Bx.new _ _ _, by omega, by omega, by omega, by omega⟩, HB.out.old oldA, oldA⟩
theorem old_grow {a w w' : World} {g : Nat} (o : Old a w) (h : w.grownBy w' (some g)) (hg : a.heap.size ≤ g) : Old a w' :=
  ⟨h.os.trans o.os, h.tape.trans o.tape, h.output.trans o.output, Nat.le_trans o.size h.size, fun k hk => (h.block k (Nat.lt_of_lt_of_le hk o.size) (by simp; omega)).trans (o.block k hk)⟩
set_option maxRecDepth 100000 in
set_option maxHeartbeats 1000000 in
theorem l31New_any (A : Option Addr) (n c m : Nat) (w : World) (hm : m ≤ 1000) (hb : BRd w w.heap.size A n c) :
    Calls Tryd.prog 21 #[.slice A n c, .int .i64 (m : Int)] w fun e w' => ∃ g, e = .returned (.pointer (some ⟨g, 0, none⟩)) ∧ w.heap.size ≤ g ∧ Cur w' g A n c ∧ BRd w' g A n c ∧ Old w w' := by
  go_enter Tryd.func21, Tryd.ntmps21
  go_wp2_with fail
  refine (l01New_any A n c _ hb).mono ?_
  rintro e w1 ⟨g, rfl, hg, C1, B1, o1⟩
  go_wp2
  go_loopw [6] (fun i wr => ∃ k : Nat, k ≤ m ∧ i = .int .i64 (k : Int) ∧ Cur wr g A n c ∧ BRd wr g A n c ∧ Old w wr) (fun i _ => m - (intOf i).toNat)
  case atStart => exact ⟨0, Nat.zero_le _, rfl, C1, B1, o1⟩
  case round =>
    obtain ⟨k, hk, rfl, C, B, o⟩ := hrel
    by_cases hlt : k < m
    · go_wp2_with fail
      refine (l01Byte_any g A n c _ B C).mono ?_
      rintro e w2 ⟨x, rfl, hx0, hx1, C2, G2⟩
      go_wp2
      go_roundw
      case rel => exact ⟨k + 1, by omega, by go_num, C2, B.kept G2 (Nat.le_refl _), old_grow o G2 hg⟩
      case measure => simp [intOf]; omega
    · go_wp2
      go_ret
      exact ⟨g, rfl, hg, C, B, o⟩
end Go.Proofs.YtgchbbjhdeobpaaDoor
