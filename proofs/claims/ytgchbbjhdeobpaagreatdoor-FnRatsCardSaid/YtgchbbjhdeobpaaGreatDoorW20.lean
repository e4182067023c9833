import Derived.BigQuiet
import Derived.ChangeOld
import Derived.Deep.DeepCutAuto
import Derived.Deep.DrawnRows
import Derived.Deep.OwnRows
import Derived.Deep.QuietTactic
import Derived.Deep.RegionHeld3
import Derived.Deep.RegionWith
import Derived.Deep.Upon
import Derived.IntWalk
import Derived.JoinedOf
import Derived.KernelRfl
import Derived.Laws.BitsLemmas
import Derived.Laws.FloatArith
import Derived.Laws.IdiomStrings
import Derived.Lib.AppendIntMem
import Derived.Lib.Hide
import Derived.Lib.ItoaLen
import Derived.Lib.ItoaNum
import Derived.Lib.SmallJoins
import Derived.OpenShut
import Derived.ProofKit
import Derived.ShutString
import Derived.Test.YtgchbbjhdeobpaaGreatDoorRows
import Derived.Test.YtgchbbjhdeobpaaGreatDoorShelf
import Derived.WalkKit
import Derived.WalkLawsBesides
import Derived.WalkSpells
import Ieee.Arith
import Derived.Test.YtgchbbjhdeobpaaGreatDoorW1
import Derived.Test.YtgchbbjhdeobpaaGreatDoorW2
import Derived.Test.YtgchbbjhdeobpaaGreatDoorW3
import Derived.Test.YtgchbbjhdeobpaaGreatDoorW4
import Derived.Test.YtgchbbjhdeobpaaGreatDoorW5
import Derived.Test.YtgchbbjhdeobpaaGreatDoorW9
import Derived.Test.YtgchbbjhdeobpaaGreatDoorW10
import Derived.Test.YtgchbbjhdeobpaaGreatDoorW11
import Derived.Test.YtgchbbjhdeobpaaGreatDoorW12
import Derived.Test.YtgchbbjhdeobpaaGreatDoorW14
import Derived.Test.YtgchbbjhdeobpaaGreatDoorW15
import Derived.Test.YtgchbbjhdeobpaaGreatDoorW19
/- What the claim's proof reaches of: Cur, ByteArg, MakeNat, BigDraw, RatDraw. -/
namespace Go.Proofs.YtgchbbjhdeobpaaGreatDoor
set_option linter.unusedVariables false
open Go.RowKit

/-- The slice (A, n, c) reads as bytes. -/
def BRd (w : World) (lim : Nat) (A : Option Addr) (n c : Nat) : Prop := n ≤ c ∧ n ≤ 1048576 ∧ (0 < n → ∃ b off, A = some ⟨b, off, none⟩ ∧ b < w.heap.size ∧ b < lim ∧ ∀ j, j < n → ∃ v : Nat, v ≤ 255 ∧ w.cell? ⟨b, off + j, none⟩ = some (.int .u8 (v : Int)))
/-- Block g is a cursor over the bytes (A, n, c). -/
def Cur (w : World) (g : Nat) (A : Option Addr) (n c : Nat) : Prop := ∃ i h : Int, Bx w g #[.slice A n c, .int .i64 i, .int .i64 h] ∧ 0 ≤ i ∧ i ≤ n ∧ -9223372036854775808 ≤ h ∧ h ≤ 9223372036854775807
theorem i64_and255 (n : Int) : bits .and .i64 n 255 = n % 256 := by
  have h255 : (BitVec.ofInt 64 255).toNat = 2 ^ 8 - 1 := by decide
  have key : (BitVec.ofInt 64 n &&& BitVec.ofInt 64 255).toNat = (n % ((2 ^ 64 : Nat) : Int)).toNat % 2 ^ 8 := by
    rw [BitVec.toNat_and, BitVec.toNat_ofInt, h255, Nat.and_two_pow_sub_one_eq_mod]
  show IntKind.i64.wrap ((BitVec.ofInt 64 n &&& BitVec.ofInt 64 255).toNat : Nat) = n % 256
  rw [key, IntKind.wrap_i64]
  omega
theorem i64_and30 (n : Int) : bits .and .i64 n 1073741823 = n % 1073741824 := by
  have h30 : (BitVec.ofInt 64 1073741823).toNat = 2 ^ 30 - 1 := by decide
  have key : (BitVec.ofInt 64 n &&& BitVec.ofInt 64 1073741823).toNat = (n % ((2 ^ 64 : Nat) : Int)).toNat % 2 ^ 30 := by
    rw [BitVec.toNat_and, BitVec.toNat_ofInt, h30, Nat.and_two_pow_sub_one_eq_mod]
  show IntKind.i64.wrap ((BitVec.ofInt 64 n &&& BitVec.ofInt 64 1073741823).toNat : Nat) = n % 1073741824
  rw [key, IntKind.wrap_i64]
  omega
theorem grow_drewN {a w : World} {row : Option Nat} (h : a.grownBy w row) (k : Nat) : a.grownBy (w.drewN k) row := ⟨h.os, h.tape, h.output, h.size, h.block⟩
theorem Bx.drewN' {w : World} {g : Nat} {cs : Array Value} (h : Bx w g cs) (k : Nat) : Bx (w.drewN k) g cs := h
theorem wrap64_in (x : Int) : -9223372036854775808 ≤ wrap64 x ∧ wrap64 x ≤ 9223372036854775807 := by unfold wrap64; omega
set_option maxRecDepth 100000 in
set_option maxHeartbeats 1000000 in
theorem l01Byte_any (g : Nat) (A : Option Addr) (n c : Nat) (w : World) (hb : BRd w g A n c) (hc : Cur w g A n c) :
    Calls Tryz.prog 69 #[.pointer (some ⟨g, 0, none⟩)] w fun e w' => ∃ x : Int, e = .returned (.int .i64 x) ∧ 0 ≤ x ∧ x ≤ 255 ∧ Cur w' g A n c ∧ w.grownBy w' (some g) := by
  obtain ⟨i, h, B, hi0, hin, hh0, hh1⟩ := hc
  have hn := hb.2.1
  have q0 : w.cell? ⟨g, 0, none⟩ = some (.slice A n c) := B.cell 0 rfl
  have q1 : w.cell? ⟨g, 1, none⟩ = some (.int .i64 i) := B.cell 1 rfl
  have q2 : w.cell? ⟨g, 2, none⟩ = some (.int .i64 h) := B.cell 2 rfl
  have f2 := B.frozen 2
  have f1 := B.frozen 1
  have hg := B.lt
  obtain ⟨k, rfl⟩ : ∃ k : Nat, i = (k : Int) := ⟨i.toNat, by omega⟩
  by_cases hk : k < n
  · obtain ⟨b, off, rfl, hbs, hbg, hcell⟩ := hb.2.2 (by omega)
    obtain ⟨v, hv, hx1⟩ := hcell k hk
    have HB := Lib.hid hb
    have n1 : ¬ b = g := by omega
    have n2 : ¬ g = b := by omega
    have hw1 := w64 ((k : Int) + 1) (by omega) (by omega)
    clear hcell hb
    go_enter Tryz.func69, Tryz.ntmps69
    go_wp2
    go_quiet (fail)
    obtain ⟨h1, hh1'⟩ : ∃ h1, h1 = wrap64 (wrap64 (h * 6364136223846793005) + 1442695040888963407) := ⟨_, rfl⟩
    rw [← hh1']
    obtain ⟨x, hx⟩ : ∃ x, x = bits .and .i64 (bits .xor .i64 (h1 / 8589934592) (h1 / 35184372088832)) 255 := ⟨_, rfl⟩
    rw [← hx]
    have hx0 : 0 ≤ x ∧ x ≤ 255 := by rw [hx, i64_and255]; omega
    have hh2 : -9223372036854775808 ≤ h1 ∧ h1 ≤ 9223372036854775807 := by rw [hh1']; exact wrap64_in _
    have hw2 := w64 (x + (v : Int)) (by omega) (by omega)
    clear hh1' hx
    go_wp2
    go_quiet (fail)
    go_wp2
    go_quiet (fail)
    have C1 : Bx (w.setCell ⟨g, 2, none⟩ (.int .i64 h1)) g #[.slice (some ⟨b, off, none⟩) n c, .int .i64 (k : Int), .int .i64 h1] := B.set 2 _
    have C2 : ∀ m, Bx (((w.setCell ⟨g, 2, none⟩ (.int .i64 h1)).drewN m).setCell ⟨g, 1, none⟩ (.int .i64 ((k : Int) + 1))) g #[.slice (some ⟨b, off, none⟩) n c, .int .i64 ((k : Int) + 1), .int .i64 h1] := fun m => (C1.drewN' m).set 1 _
    have G1 : w.grownBy (w.setCell ⟨g, 2, none⟩ (.int .i64 h1)) (some g) := only_setCell (World.grownBy.refl _ _) rfl _
    have G2 : ∀ m, w.grownBy (((w.setCell ⟨g, 2, none⟩ (.int .i64 h1)).drewN m).setCell ⟨g, 1, none⟩ (.int .i64 ((k : Int) + 1))) (some g) := fun m => only_setCell (grow_drewN G1 m) rfl _
    go_wp2
    go_ret
    refine ⟨_, rfl, ?_, ?_, ⟨(k : Int) + 1, h1, C2 _, by omega, by omega, hh2.1, hh2.2⟩, G2 _⟩
    · rw [i64_and255]; omega
    · rw [i64_and255]; omega
  · clear hb
    go_enter Tryz.func69, Tryz.ntmps69
    go_wp2
    go_quiet (fail)
    obtain ⟨h1, hh1'⟩ : ∃ h1, h1 = wrap64 (wrap64 (h * 6364136223846793005) + 1442695040888963407) := ⟨_, rfl⟩
    rw [← hh1']
    obtain ⟨x, hx⟩ : ∃ x, x = bits .and .i64 (bits .xor .i64 (h1 / 8589934592) (h1 / 35184372088832)) 255 := ⟨_, rfl⟩
    rw [← hx]
    have hx0 : 0 ≤ x ∧ x ≤ 255 := by rw [hx, i64_and255]; omega
    have hh2 : -9223372036854775808 ≤ h1 ∧ h1 ≤ 9223372036854775807 := by rw [hh1']; exact wrap64_in _
    clear hh1' hx
    go_wp2
    go_quiet (fail)
    have C1 : Bx (w.setCell ⟨g, 2, none⟩ (.int .i64 h1)) g #[.slice A n c, .int .i64 (k : Int), .int .i64 h1] := B.set 2 _
    have G1 : w.grownBy (w.setCell ⟨g, 2, none⟩ (.int .i64 h1)) (some g) := only_setCell (World.grownBy.refl _ _) rfl _
    have C2 := fun a b => (C1.drewN' a).drewN' b
    have G2 := fun a b => grow_drewN (grow_drewN G1 a) b
    go_wp2
    go_ret
    exact ⟨_, rfl, hx0.1, hx0.2, ⟨(k : Int), h1, C2 _ _, hi0, hin, hh2.1, hh2.2⟩, G2 _ _⟩
theorem Cur.kept {w w' : World} {g : Nat} {A : Option Addr} {n c : Nat} {row : Option Nat} (h : Cur w g A n c) (hg : w.grownBy w' row) (hne : some g ≠ row) : Cur w' g A n c := by
  obtain ⟨i, x, B, r⟩ := h
  exact ⟨i, x, B.kept hg hne, r⟩
theorem BRd.kept {w w' : World} {lim g : Nat} {A : Option Addr} {n c : Nat} (h : BRd w lim A n c) (hg : w.grownBy w' (some g)) (hl : lim ≤ g) : BRd w' lim A n c := by
  refine ⟨h.1, h.2.1, fun hn => ?_⟩
  obtain ⟨b, off, e, hs, hb, hc⟩ := h.2.2 hn
  refine ⟨b, off, e, Nat.lt_of_lt_of_le hs hg.size, hb, fun j hj => ?_⟩
  obtain ⟨v, hv, hx⟩ := hc j hj
  refine ⟨v, hv, ?_⟩
  rw [← hx]
  exact World.cell?_of_block (w := w) (hg.block b hs (by simp; omega))
theorem BRd.old {w w' : World} {lim : Nat} {A : Option Addr} {n c : Nat} (h : BRd w lim A n c) (o : Old w w') : BRd w' lim A n c := by
  refine ⟨h.1, h.2.1, fun hn => ?_⟩
  obtain ⟨b, off, e, hs, hb, hc⟩ := h.2.2 hn
  refine ⟨b, off, e, Nat.lt_of_lt_of_le hs o.size, hb, fun j hj => ?_⟩
  obtain ⟨v, hv, hx⟩ := hc j hj
  exact ⟨v, hv, (o.cell (p := ⟨b, off + j, none⟩) hs).trans hx⟩
set_option maxRecDepth 100000 in
set_option maxHeartbeats 1000000 in
theorem l01Below_small (g m : Nat) (A : Option Addr) (n c : Nat) (w : World) (hm : 0 < m) (hm2 : m ≤ 256) (hb : BRd w g A n c) (hc : Cur w g A n c) :
    Calls Tryz.prog 66 #[.pointer (some ⟨g, 0, none⟩), .int .i64 (m : Int)] w fun e w' => ∃ x : Nat, e = .returned (.int .i64 (x : Int)) ∧ x < m ∧ Cur w' g A n c ∧ w.grownBy w' (some g) := by
  go_enter Tryz.func66, Tryz.ntmps66
  go_wp2_with fail
  refine (l01Byte_any g A n c _ hb hc).mono ?_
  rintro e w1 ⟨x, rfl, hx0, hx1, C1, G1⟩
  obtain ⟨y, rfl⟩ : ∃ y : Nat, x = (y : Int) := ⟨x.toNat, by omega⟩
  go_wp2
  go_ret
  exact ⟨y % m, congrArg (fun z => Ending.returned (.int .i64 z)) (by omega), Nat.mod_lt _ hm, C1, G1⟩
set_option maxRecDepth 100000 in
set_option maxHeartbeats 1000000 in
theorem l01New_any (A : Option Addr) (n c : Nat) (w : World) (hb : BRd w w.heap.size A n c) :
    Calls Tryz.prog 68 #[.slice A n c] w fun e w' => ∃ g, e = .returned (.pointer (some ⟨g, 0, none⟩)) ∧ w.heap.size ≤ g ∧ Cur w' g A n c ∧ BRd w' g A n c ∧ Old w w' := by
  have hn := hb.2.1
  have HB := Lib.hid hb
  go_enter Tryz.func68, Tryz.ntmps68
  go_wp2
  go_loop [3, 4] (fun h i => ∃ (k : Nat) (x : Int), k ≤ n ∧ k ≤ 4000 ∧ i = .int .i64 (k : Int) ∧ h = .int .i64 x ∧ 0 ≤ x ∧ x ≤ 1073741823) (fun _ i => n - (intOf i).toNat)
  case atStart => exact ⟨0, _, Nat.zero_le _, by omega, rfl, rfl, by omega, by omega⟩
  case round =>
    obtain ⟨k, x, hk, hk4, rfl, rfl, hx0, hx1⟩ := hrel
    by_cases hlt : k < n
    · by_cases hl4 : k < 4000
      · obtain ⟨b, off, rfl, hbs, hbg, hcell⟩ := HB.out.2.2 (by omega)
        obtain ⟨v, hv, hx⟩ := hcell k hlt
        clear hcell hb
        have hr : 0 ≤ (x * 61 + (v : Int) + 7) % 1073741824 ∧ (x * 61 + (v : Int) + 7) % 1073741824 ≤ 1073741823 := by omega
        have h30 := i64_and30 (x * 61 + (v : Int) + 7)
        have HRR := Lib.hid hr
        clear hr
        go_wp2
        go_round
        case rel => exact ⟨k + 1, _, by omega, by omega, by go_num, rfl, HRR.out.1, HRR.out.2⟩
        case measure => simp [intOf]; omega
      · have hl5 : decide ((k : Int) < 4000) = false := decide_eq_false (by omega)
        go_wp2
        go_ret
        exact ⟨_, rfl, Nat.le_refl _, ⟨0, x, Bx.new _ _ _, by omega, by omega, by omega, by omega⟩, HB.out.old oldA, oldA⟩
    · have hl5 : decide ((k : Int) < (n : Int)) = false := decide_eq_false (by omega)
      go_wp2
      go_ret
      exact ⟨_, rfl, Nat.le_refl _, ⟨0, x, Bx.new _ _ _, by omega, by omega, by omega, by omega⟩, HB.out.old oldA, oldA⟩
theorem old_grow {a w w' : World} {g : Nat} (o : Old a w) (h : w.grownBy w' (some g)) (hg : a.heap.size ≤ g) : Old a w' :=
  ⟨h.os.trans o.os, h.tape.trans o.tape, h.output.trans o.output, Nat.le_trans o.size h.size, fun k hk => (h.block k (Nat.lt_of_lt_of_le hk o.size) (by simp; omega)).trans (o.block k hk)⟩
set_option maxRecDepth 100000 in
set_option maxHeartbeats 1000000 in
theorem l31New_any (A : Option Addr) (n c m : Nat) (w : World) (hm : m ≤ 1000) (hb : BRd w w.heap.size A n c) :
    Calls Tryz.prog 37 #[.slice A n c, .int .i64 (m : Int)] w fun e w' => ∃ g, e = .returned (.pointer (some ⟨g, 0, none⟩)) ∧ w.heap.size ≤ g ∧ Cur w' g A n c ∧ BRd w' g A n c ∧ Old w w' := by
  go_enter Tryz.func37, Tryz.ntmps37
  go_wp2_with fail
  refine (l01New_any A n c _ hb).mono ?_
  rintro e w1 ⟨g, rfl, hg, C1, B1, o1⟩
  go_wp2
  go_loopw [6] (fun i wr => ∃ k : Nat, k ≤ m ∧ i = .int .i64 (k : Int) ∧ Cur wr g A n c ∧ BRd wr g A n c ∧ Old w wr) (fun i _ => m - (intOf i).toNat)
  case atStart => exact ⟨0, Nat.zero_le _, rfl, C1, B1, o1⟩
  case round =>
    obtain ⟨k, hk, rfl, C, B, o⟩ := hrel
    by_cases hlt : k < m
    · go_wp2_with fail
      refine (l01Byte_any g A n c _ B C).mono ?_
      rintro e w2 ⟨x, rfl, hx0, hx1, C2, G2⟩
      go_wp2
      go_roundw
      case rel => exact ⟨k + 1, by omega, by go_num, C2, B.kept G2 (Nat.le_refl _), old_grow o G2 hg⟩
      case measure => simp [intOf]; omega
    · go_wp2
      go_ret
      exact ⟨g, rfl, hg, C, B, o⟩
end Go.Proofs.YtgchbbjhdeobpaaGreatDoor

namespace Go.Proofs.YtgchbbjhdeobpaaGreatDoor
set_option linter.unusedVariables false
open Go.ChangeShapes Go.WideShapes Go.ChangeAt Go.RowKit
theorem open_brd {H : Type} {enc : TypeId × Value → H} {w : World} {base : Nat} {spare : Nat → Bool} {held : Bool} {a : Option Addr} {n c : Nat} {d : DataW H} {p : List MemPlace}
    (h : DataW.Trod enc Tryz.prog w base spare held 32 (.slice a n c) d p) : n ≤ 1048576 → BRd w w.heap.size a n c := by
  intro hn
  obtain ⟨fuel, hf⟩ := h
  rcases open_ints Tryz.underlying32 Tryz.underlying5 (by kernel_rfl) hf with ⟨hcs, _⟩ | ⟨x, l, cc, zs, hcs, _, hl, hm, hz, _, hcell, hwf⟩
  · simp [Value.cells] at hcs
    obtain ⟨rfl, rfl, rfl⟩ := hcs
    exact ⟨Nat.le_refl _, hn, fun h => by omega⟩
  · simp [Value.cells] at hcs
    obtain ⟨rfl, rfl, rfl⟩ := hcs
    refine ⟨hl, hn, fun hn => ?_⟩
    have hzl : n ≤ zs.length := by rw [hz]; split <;> omega
    obtain ⟨b, off, spot⟩ := x
    have h0 := hcell 0 (by omega)
    obtain rfl : spot = none := by simpa [Addr.add] using World.cell?_spot h0
    have hb : b < w.heap.size := by
      have := World.block_lt_of_cell? w _ h0
      simpa [Addr.add] using this
    refine ⟨b, off, rfl, hb, hb, fun j hj => ?_⟩
    have hj2 : j < zs.length := by omega
    have h2 := hcell j hj2
    have hg : zs.getD j 0 = zs[j] := by simp [List.getD, List.getElem?_eq_getElem hj2]
    have h3 := bounds_u8 (hwf _ (List.getElem_mem hj2))
    refine ⟨(zs[j]).toNat, by omega, ?_⟩
    rw [Int.toNat_of_nonneg h3.1, ← hg, ← h2]
    congr 1
    unfold Addr.add
    split <;> simp_all
theorem brd_len {H : Type} {enc : TypeId × Value → H} {w : World} {base : Nat} {spare : Nat → Bool} {held : Bool} {a : Option Addr} {n c : Nat} {d : DataW H} {p : List MemPlace}
    (h : DataW.Trod enc Tryz.prog w base spare held 32 (.slice a n c) d p) : n ≤ 9223372036854775807 := by
  obtain ⟨fuel, hf⟩ := h
  rcases open_ints Tryz.underlying32 Tryz.underlying5 (by kernel_rfl) hf with ⟨hcs, _⟩ | ⟨x, l, cc, zs, hcs, _, hl, hm, _⟩
  · simp [Value.cells] at hcs
    omega
  · simp [Value.cells] at hcs
    obtain ⟨rfl, rfl, rfl⟩ := hcs
    simp only [maxLen] at hm
    omega
end Go.Proofs.YtgchbbjhdeobpaaGreatDoor

namespace Go.Proofs.YtgchbbjhdeobpaaGreatDoor
set_option linter.unusedVariables false
open Go.RowKit Num
set_option maxRecDepth 100000 in
set_option maxHeartbeats 1000000 in
theorem l01Pick_any (g q m : Nat) (A : Option Addr) (n c : Nat) (cs : Array Value) (P : Int → Prop) (w : World) (hm : 0 < m) (hm2 : m ≤ 256) (hb : BRd w g A n c) (hc : Cur w g A n c) (hq : Bx w q cs) (hne : ¬ q = g) (hP : ∀ j, j < m → ∃ x, cs[j]? = some (.int .i64 x) ∧ P x) :
    Calls Tryz.prog 67 #[.pointer (some ⟨g, 0, none⟩), .slice (some ⟨q, 0, none⟩) m m] w fun e w' => ∃ x : Int, e = .returned (.int .i64 x) ∧ P x ∧ Cur w' g A n c ∧ w.grownBy w' (some g) := by
  go_enter Tryz.func67, Tryz.ntmps67
  go_wp2_with fail
  refine (l01Below_small g m A n c _ hm hm2 hb hc).mono ?_
  rintro e w1 ⟨x, rfl, hx, C1, G1⟩
  have Q := hq.kept G1 (by simp; exact hne)
  obtain ⟨y, hy, hPy⟩ := hP x hx
  have hcell : w1.cell? ⟨q, x, none⟩ = some (.int .i64 y) := Q.cell x hy
  have HP := Lib.hid hPy
  clear hPy hy hP
  go_wp2
  go_ret
  exact ⟨_, rfl, HP.out, C1, G1⟩
theorem grow_below {a w w' : World} {g B : Nat} (h : a.grownBy w (some g)) (o : Below B w w') (hB : a.heap.size ≤ B) : a.grownBy w' (some g) :=
  ⟨o.os.trans h.os, o.tape.trans h.tape, o.output.trans h.output, Nat.le_trans h.size o.size, fun k hk hne => (o.block k (by omega)).trans (h.block k hk hne)⟩
theorem BRd.grow {w w' : World} {g : Nat} {A : Option Addr} {n c : Nat} (h : BRd w g A n c) (hg : w.grownBy w' (some g)) : BRd w' g A n c := h.kept hg (Nat.le_refl _)
theorem BRd.below {w w' : World} {lim B : Nat} {A : Option Addr} {n c : Nat} (h : BRd w lim A n c) (o : Below B w w') (hl : lim ≤ B) : BRd w' lim A n c := by
  refine ⟨h.1, h.2.1, fun hn => ?_⟩
  obtain ⟨b, off, e, hs, hb, hc⟩ := h.2.2 hn
  refine ⟨b, off, e, Nat.lt_of_lt_of_le hs o.size, hb, fun j hj => ?_⟩
  obtain ⟨v, hv, hx⟩ := hc j hj
  exact ⟨v, hv, (o.cell (p := ⟨b, off + j, none⟩) (by show b < B; omega)).trans hx⟩
end Go.Proofs.YtgchbbjhdeobpaaGreatDoor

namespace Go.Proofs.YtgchbbjhdeobpaaGreatDoor
set_option linter.unusedVariables false
open Go.RowKit Num
theorem far_box {w : World} {g : Nat} {cs : Array Value} (h : Bx w g cs) {p : Addr} (hp : ¬ p.block = g) (u : Value) : Bx (w.setCell p u) g cs := by
  obtain ⟨t, e⟩ := h
  exact ⟨t, (Below.heap_setCell w p u g (fun e => hp e.symm)).trans e⟩
theorem far_cur {w : World} {g : Nat} {A : Option Addr} {n c : Nat} (h : Cur w g A n c) {p : Addr} (hp : ¬ p.block = g) (u : Value) : Cur (w.setCell p u) g A n c := by
  obtain ⟨i, x, Bc, r⟩ := h
  exact ⟨i, x, far_box Bc hp u, r⟩
theorem old_cur {w w' : World} {g : Nat} {A : Option Addr} {n c : Nat} (h : Cur w g A n c) (o : Old w w') : Cur w' g A n c := by
  obtain ⟨i, x, Bc, r⟩ := h
  exact ⟨i, x, Bc.old o, r⟩
theorem Cur.lt {w : World} {g : Nat} {A : Option Addr} {n c : Nat} (h : Cur w g A n c) : g < w.heap.size := by
  obtain ⟨_, _, Bc, _⟩ := h
  exact Bc.lt
end Go.Proofs.YtgchbbjhdeobpaaGreatDoor

namespace Go.Proofs.YtgchbbjhdeobpaaGreatDoor
set_option linter.unusedVariables false
open Go.RowKit Num
set_option maxRecDepth 100000 in
set_option maxHeartbeats 1000000 in
theorem l04Few_any (g : Nat) (A : Option Addr) (n c : Nat) (w : World) (hb : BRd w g A n c) (hc : Cur w g A n c) :
    Calls Tryz.prog 36 #[.pointer (some ⟨g, 0, none⟩)] w fun e w' => ∃ (x m : Nat), x < 21 ∧ (m = 1 ∨ m = 2 ∨ m = 3) ∧ RetR e w' w.heap.size (vRatOf ((x : Int) - 10) (m : Int)) ∧ Cur w' g A n c ∧ w.grownBy w' (some g) := by
  have hgs : g < w.heap.size := hc.lt
  have hc0 : Cur (w.alloc (.cells #[.bool false, .slice none 0 0, .slice none 0 0] 26)) g A n c := old_cur hc oldA
  have hb0 : BRd (w.alloc (.cells #[.bool false, .slice none 0 0, .slice none 0 0] 26)) g A n c := hb.old oldA
  have g0 : w.grownBy (w.alloc (.cells #[.bool false, .slice none 0 0, .slice none 0 0] 26)) (some g) := grow_below (World.grownBy.refl _ _) (B := w.heap.size) oldA (Nat.le_refl _)
  have B0 : Bx (w.alloc (.cells #[.bool false, .slice none 0 0, .slice none 0 0] 26)) w.heap.size #[.bool false, .slice none 0 0, .slice none 0 0] := Bx.new _ _ _
  have hne : some w.heap.size ≠ some g := by simp; omega
  have hng : ¬ w.heap.size = g := by omega
  clear hb hc
  go_enter Tryz.func36, Tryz.ntmps36
  go_wp2_with fail
  refine (l01Below_small g 21 A n c _ (by omega) (by omega) hb0 hc0).mono ?_
  rintro e w1 ⟨x, rfl, hx, C1, G1⟩
  have B1 := B0.kept G1 hne
  have D1 := hb0.grow G1
  have g1 := g0.trans G1
  have hw := w64 ((x : Int) - 10) (by omega) (by omega)
  have l1 := B1.lt
  clear hb0 hc0 g0 B0 G1
  go_wp2_with fail
  have hc5 : Cur (w1.alloc (.cells #[.int .i64 1, .int .i64 1, .int .i64 1, .int .i64 2, .int .i64 3] 3)) g A n c := old_cur C1 oldA
  have b5 : BRd (w1.alloc (.cells #[.int .i64 1, .int .i64 1, .int .i64 1, .int .i64 2, .int .i64 3] 3)) g A n c := D1.old oldA
  have g5 : w.grownBy (w1.alloc (.cells #[.int .i64 1, .int .i64 1, .int .i64 1, .int .i64 2, .int .i64 3] 3)) (some g) := grow_below g1 (B := w1.heap.size) oldA g1.size
  have hg1 : g < w1.heap.size := C1.lt
  have B5 : Bx (w1.alloc (.cells #[.int .i64 1, .int .i64 1, .int .i64 1, .int .i64 2, .int .i64 3] 3)) w.heap.size #[.bool false, .slice none 0 0, .slice none 0 0] := Bx.alloc B1 _
  refine (l01Pick_any g w1.heap.size 5 A n c _ (fun x => x = 1 ∨ x = 2 ∨ x = 3) _ (by omega) (by omega) b5 hc5 (Bx.new _ _ _) (by omega) (by
    intro j hj
    rcases (by omega : j = 0 ∨ j = 1 ∨ j = 2 ∨ j = 3 ∨ j = 4) with rfl | rfl | rfl | rfl | rfl <;> exact ⟨_, rfl, by omega⟩)).mono ?_
  rintro e w3 ⟨d, rfl, hd, C3, G3⟩
  have B3 := B5.kept G3 hne
  have g3 := g5.trans G3
  have l3 := B3.lt
  have z3 := g3.size
  obtain ⟨m, rfl⟩ : ∃ m : Nat, d = (m : Int) := ⟨d.toNat, by omega⟩
  have hm : m = 1 ∨ m = 2 ∨ m = 3 := by omega
  have hm1 : m ≤ 3 := by omega
  clear hd C1 D1 g1 hc5 b5 g5 B5 B1 G3
  go_wp2_with fail
  refine (spec_RatOf ((x : Int) - 10) (m : Int) _ (by omega) (by omega)).mono ?_
  rintro e w4 ⟨⟨z, q, A4, c4, D4, e4, hv, rfl, r4, s4, ap⟩, o4⟩
  have B4 := B3.old o4
  have C4 := old_cur C3 o4
  have z4 := o4.size
  have HM := Lib.hid hm
  have HV := Lib.hid hv
  have HA := Lib.hid ap
  have b4 : Below w.heap.size w3 w4 := Below.mono o4 z3
  clear B3 C3 hm hv ap hw
  have q0 := B4.cell 0 rfl
  have q1 := B4.cell 1 rfl
  have q2 := B4.cell 2 rfl
  have f0 := B4.frozen 0
  have f1 := B4.frozen 1
  have f2 := B4.frozen 2
  have qq := B4.lt
  go_wp2
  refine bodyPost_ret (v := .agg #[.bool (sgnZ z), .slice A4 (len (magZ z)) c4, .slice D4 (len q) e4]) (by simp [results, Tryz.results36, go_sem, q0, q1, q2]) rfl ⟨x, m, hx, HM.out, ⟨z, q, A4, c4, D4, e4, HV.out, rfl, ?_, ?_, HA.out⟩, ?_, ?_⟩
  · refine Row.more (lo := w3.heap.size) ?_ z3
    exact Row.far_set (Row.far_set (Row.far_set r4 (by show w.heap.size < w3.heap.size; exact l3) _) (by show w.heap.size < w3.heap.size; exact l3) _) (by show w.heap.size < w3.heap.size; exact l3) _
  · refine Row.more (lo := w3.heap.size) ?_ z3
    exact Row.far_set (Row.far_set (Row.far_set s4 (by show w.heap.size < w3.heap.size; exact l3) _) (by show w.heap.size < w3.heap.size; exact l3) _) (by show w.heap.size < w3.heap.size; exact l3) _
  · exact far_cur (far_cur (far_cur C4 hng _) hng _) hng _
  · exact grow_below g3 (B := w.heap.size) oldA (Nat.le_refl _)
set_option maxRecDepth 100000 in
set_option maxHeartbeats 1000000 in
theorem makeRat_0 (A : Option Addr) (n c : Nat) (w : World) (hb : BRd w w.heap.size A n c) :
    Calls Tryz.prog 10 #[.slice A n c, .int .i64 0] w fun e w' => ∃ (x m : Nat), x < 21 ∧ (m = 1 ∨ m = 2 ∨ m = 3) ∧ RetR e w' w.heap.size (vRatOf ((x : Int) - 10) (m : Int)) ∧ Old w w' := by
  have hb0 : BRd (w.alloc (.cells #[.bool false, .slice none 0 0, .slice none 0 0] 26)) (w.alloc (.cells #[.bool false, .slice none 0 0, .slice none 0 0] 26)).heap.size A n c := by
    have h := hb.old (w' := (w.alloc (.cells #[.bool false, .slice none 0 0, .slice none 0 0] 26))) oldA
    refine ⟨h.1, h.2.1, fun hn => ?_⟩
    obtain ⟨b, off, e, hs, hbb, hc⟩ := h.2.2 hn
    exact ⟨b, off, e, hs, by simp; omega, hc⟩
  have B0 : Bx (w.alloc (.cells #[.bool false, .slice none 0 0, .slice none 0 0] 26)) w.heap.size #[.bool false, .slice none 0 0, .slice none 0 0] := Bx.new _ _ _
  have o0 : Old w (w.alloc (.cells #[.bool false, .slice none 0 0, .slice none 0 0] 26)) := oldA
  clear hb
  go_enter Tryz.func10, Tryz.ntmps10
  go_wp2_with fail
  refine (l31New_any A n c 0 _ (by omega) hb0).mono ?_
  rintro e w1 ⟨g, rfl, hg, C1, D1, o1⟩
  have B1 := B0.old o1
  have l1 := B1.lt
  have hng : ¬ w.heap.size = g := by simp at hg; omega
  have hne : some w.heap.size ≠ some g := by simp; exact hng
  have hwg : w.heap.size ≤ g := by simp at hg; omega
  have O1 : Old w w1 := Below.trans (b := _) o0 (Below.mono o1 (by simp))
  clear o1 o0 B0 hb0
  go_wp2_with fail
  refine (l04Few_any g A n c _ D1 C1).mono ?_
  rintro e w2 ⟨x, m, hx, hm, ⟨z, q, A4, c4, D4, e4, hv, rfl, r4, s4, ap⟩, C2, G2⟩
  have B2 := B1.kept G2 hne
  have O2 := old_grow O1 G2 hwg
  have HM := Lib.hid hm
  have HV := Lib.hid hv
  have HA := Lib.hid ap
  clear B1 D1 C1 G2 hm hv ap
  have q0 := B2.cell 0 rfl
  have q1 := B2.cell 1 rfl
  have q2 := B2.cell 2 rfl
  have f0 := B2.frozen 0
  have f1 := B2.frozen 1
  have f2 := B2.frozen 2
  have qq := B2.lt
  go_wp2
  refine bodyPost_ret (v := .agg #[.bool (sgnZ z), .slice A4 (len (magZ z)) c4, .slice D4 (len q) e4]) (by simp [results, Tryz.results10, go_sem, q0, q1, q2]) rfl ⟨x, m, hx, HM.out, ⟨z, q, A4, c4, D4, e4, HV.out, rfl, ?_, ?_, HA.out⟩, oldA⟩
  · refine Row.more (lo := w1.heap.size) ?_ O1.size
    exact Row.far_set (Row.far_set (Row.far_set r4 (by show w.heap.size < w1.heap.size; exact l1) _) (by show w.heap.size < w1.heap.size; exact l1) _) (by show w.heap.size < w1.heap.size; exact l1) _
  · refine Row.more (lo := w1.heap.size) ?_ O1.size
    exact Row.far_set (Row.far_set (Row.far_set s4 (by show w.heap.size < w1.heap.size; exact l1) _) (by show w.heap.size < w1.heap.size; exact l1) _) (by show w.heap.size < w1.heap.size; exact l1) _
set_option maxRecDepth 100000 in
set_option maxHeartbeats 1000000 in
theorem makeRat_1 (A : Option Addr) (n c : Nat) (w : World) (hb : BRd w w.heap.size A n c) :
    Calls Tryz.prog 10 #[.slice A n c, .int .i64 1] w fun e w' => ∃ (x m : Nat), x < 21 ∧ (m = 1 ∨ m = 2 ∨ m = 3) ∧ RetR e w' w.heap.size (vRatOf ((x : Int) - 10) (m : Int)) ∧ Old w w' := by
  have hb0 : BRd (w.alloc (.cells #[.bool false, .slice none 0 0, .slice none 0 0] 26)) (w.alloc (.cells #[.bool false, .slice none 0 0, .slice none 0 0] 26)).heap.size A n c := by
    have h := hb.old (w' := (w.alloc (.cells #[.bool false, .slice none 0 0, .slice none 0 0] 26))) oldA
    refine ⟨h.1, h.2.1, fun hn => ?_⟩
    obtain ⟨b, off, e, hs, hbb, hc⟩ := h.2.2 hn
    exact ⟨b, off, e, hs, by simp; omega, hc⟩
  have B0 : Bx (w.alloc (.cells #[.bool false, .slice none 0 0, .slice none 0 0] 26)) w.heap.size #[.bool false, .slice none 0 0, .slice none 0 0] := Bx.new _ _ _
  have o0 : Old w (w.alloc (.cells #[.bool false, .slice none 0 0, .slice none 0 0] 26)) := oldA
  clear hb
  go_enter Tryz.func10, Tryz.ntmps10
  go_wp2_with fail
  refine (l31New_any A n c 3 _ (by omega) hb0).mono ?_
  rintro e w1 ⟨g, rfl, hg, C1, D1, o1⟩
  have B1 := B0.old o1
  have l1 := B1.lt
  have hng : ¬ w.heap.size = g := by simp at hg; omega
  have hne : some w.heap.size ≠ some g := by simp; exact hng
  have hwg : w.heap.size ≤ g := by simp at hg; omega
  have O1 : Old w w1 := Below.trans (b := _) o0 (Below.mono o1 (by simp))
  clear o1 o0 B0 hb0
  go_wp2_with fail
  refine (l04Few_any g A n c _ D1 C1).mono ?_
  rintro e w2 ⟨x, m, hx, hm, ⟨z, q, A4, c4, D4, e4, hv, rfl, r4, s4, ap⟩, C2, G2⟩
  have B2 := B1.kept G2 hne
  have O2 := old_grow O1 G2 hwg
  have HM := Lib.hid hm
  have HV := Lib.hid hv
  have HA := Lib.hid ap
  clear B1 D1 C1 G2 hm hv ap
  have q0 := B2.cell 0 rfl
  have q1 := B2.cell 1 rfl
  have q2 := B2.cell 2 rfl
  have f0 := B2.frozen 0
  have f1 := B2.frozen 1
  have f2 := B2.frozen 2
  have qq := B2.lt
  go_wp2
  refine bodyPost_ret (v := .agg #[.bool (sgnZ z), .slice A4 (len (magZ z)) c4, .slice D4 (len q) e4]) (by simp [results, Tryz.results10, go_sem, q0, q1, q2]) rfl ⟨x, m, hx, HM.out, ⟨z, q, A4, c4, D4, e4, HV.out, rfl, ?_, ?_, HA.out⟩, oldA⟩
  · refine Row.more (lo := w1.heap.size) ?_ O1.size
    exact Row.far_set (Row.far_set (Row.far_set r4 (by show w.heap.size < w1.heap.size; exact l1) _) (by show w.heap.size < w1.heap.size; exact l1) _) (by show w.heap.size < w1.heap.size; exact l1) _
  · refine Row.more (lo := w1.heap.size) ?_ O1.size
    exact Row.far_set (Row.far_set (Row.far_set s4 (by show w.heap.size < w1.heap.size; exact l1) _) (by show w.heap.size < w1.heap.size; exact l1) _) (by show w.heap.size < w1.heap.size; exact l1) _
end Go.Proofs.YtgchbbjhdeobpaaGreatDoor
