import Derived.Test.YtkoebpoejafgnaaDoorCur
/-
  The reference's made text: some text of at most 14 bytes.
-/
namespace Go.Proofs.YtkoebpoejafgnaaDoor
set_option linter.unusedVariables false
open Go.RowKit
set_option maxRecDepth 100000 in
set_option maxHeartbeats 1000000 in
theorem l01Str_any (g q : Nat) (A : Option Addr) (n c : Nat) (s0 s1 s2 s3 s4 : ByteArray) (w : World) (hb : BRd w g A n c) (hc : Cur w g A n c) (hq : Bx w q #[.string s0, .string s1, .string s2, .string s3, .string s4]) (hne : ¬ q = g)
    (h0 : s0.size ≤ 2) (h1 : s1.size ≤ 2) (h2 : s2.size ≤ 2) (h3 : s3.size ≤ 2) (h4 : s4.size ≤ 2) :
    Calls Tryd.prog 114 #[.pointer (some ⟨g, 0, none⟩), .slice (some ⟨q, 0, none⟩) 5 5] w fun e w' => ∃ t : ByteArray, e = .returned (.string t) ∧ t.size ≤ 2 ∧ Cur w' g A n c ∧ w.grownBy w' (some g) := by
  go_enter Tryd.func114, Tryd.ntmps114
  go_wp2_with fail
  refine (l01Below_small g 5 A n c _ (by omega) (by omega) hb hc).mono ?_
  rintro e w1 ⟨x, rfl, hx, C1, G1⟩
  have Q := hq.kept G1 (by simp; exact hne)
  have p0 : w1.cell? ⟨q, 0, none⟩ = some (.string s0) := Q.cell 0 rfl
  have p1 : w1.cell? ⟨q, 1, none⟩ = some (.string s1) := Q.cell 1 rfl
  have p2 : w1.cell? ⟨q, 2, none⟩ = some (.string s2) := Q.cell 2 rfl
  have p3 : w1.cell? ⟨q, 3, none⟩ = some (.string s3) := Q.cell 3 rfl
  have p4 : w1.cell? ⟨q, 4, none⟩ = some (.string s4) := Q.cell 4 rfl
  obtain ⟨t, ht, hcell⟩ : ∃ t : ByteArray, t.size ≤ 2 ∧ w1.cell? ⟨q, x, none⟩ = some (.string t) := by
    rcases (by omega : x = 0 ∨ x = 1 ∨ x = 2 ∨ x = 3 ∨ x = 4) with rfl | rfl | rfl | rfl | rfl
    · exact ⟨_, h0, p0⟩
    · exact ⟨_, h1, p1⟩
    · exact ⟨_, h2, p2⟩
    · exact ⟨_, h3, p3⟩
    · exact ⟨_, h4, p4⟩
  clear p0 p1 p2 p3 p4
  go_wp2
  go_ret
  exact ⟨t, rfl, ht, C1, G1⟩
set_option maxRecDepth 100000 in
set_option maxHeartbeats 1000000 in
theorem makeText_any (A : Option Addr) (n c : Nat) (w : World) (hb : BRd w w.heap.size A n c) :
    Calls Tryd.prog 63 #[.slice A n c] w fun e w' => ∃ t : ByteArray, e = .returned (.string t) ∧ t.size ≤ 14 ∧ Old w w' := by
  go_enter Tryd.func63, Tryd.ntmps63
  go_wp2_with fail
  refine (l01New_any A n c _ hb).mono ?_
  rintro e w1 ⟨g, rfl, hg, C1, B1, o1⟩
  go_wp2_with fail
  refine (l01Below_small g 8 A n c _ (by omega) (by omega) B1 C1).mono ?_
  rintro e w2 ⟨x, rfl, hx, C2, G2⟩
  have B2 := B1.kept G2 (Nat.le_refl _)
  have o2 := old_grow o1 G2 hg
  go_wp2
  go_loopw [4, 5] (fun s i wr => ∃ (k : Nat) (t : ByteArray), k ≤ 7 ∧ i = .int .i64 (k : Int) ∧ s = .string t ∧ t.size + 2 * k ≤ 14 ∧ Cur wr g A n c ∧ BRd wr g A n c ∧ Old w wr) (fun _ i _ => (intOf i).toNat)
  case atStart => exact ⟨x, ByteArray.empty, by omega, rfl, rfl, by show 0 + 2 * x ≤ 14; omega, C2, B2, o2⟩
  case round =>
    obtain ⟨k, t, hk, rfl, rfl, ht, C, B, o⟩ := hrel
    have hgl : g < wr.heap.size := by obtain ⟨_, _, Bx1, _⟩ := C; exact Bx1.lt
    by_cases hp : 0 < k
    · obtain ⟨m, rfl⟩ : ∃ m, k = m + 1 := ⟨k - 1, by omega⟩
      have hc1 : Cur (wr.alloc (.cells #[.string ⟨#[97]⟩, .string ⟨#[98, 99]⟩, .string ⟨#[32]⟩, .string ⟨#[44]⟩, .string ⟨#[120, 49]⟩] 9)) g A n c := by
        obtain ⟨i, h, Bc, r⟩ := C
        exact ⟨i, h, Bx.alloc Bc _, r⟩
      have hb1 : BRd (wr.alloc (.cells #[.string ⟨#[97]⟩, .string ⟨#[98, 99]⟩, .string ⟨#[32]⟩, .string ⟨#[44]⟩, .string ⟨#[120, 49]⟩] 9)) g A n c := B.old oldA
      have oa : Old w (wr.alloc (.cells #[.string ⟨#[97]⟩, .string ⟨#[98, 99]⟩, .string ⟨#[32]⟩, .string ⟨#[44]⟩, .string ⟨#[120, 49]⟩] 9)) := o.alloc o.size _
      go_wp2_with fail
      refine (l01Str_any g wr.heap.size A n c _ _ _ _ _ _ hb1 hc1 (Bx.new _ _ _) (by omega) (by decide) (by decide) (by decide) (by decide) (by decide)).mono ?_
      rintro e w3 ⟨y, rfl, hy, C3, G3⟩
      have hsz : (t ++ y).size ≤ 14 := by rw [ByteArray.size_append]; omega
      have hty : t.size + y.size + 2 * m ≤ 14 := by omega
      have ht14 : t.size ≤ 14 := by omega
      go_wp2
      go_roundw
      case rel => exact ⟨m, t ++ y, by omega, by go_num, rfl, by rw [ByteArray.size_append]; omega, C3, hb1.kept G3 (Nat.le_refl _), old_grow oa G3 hg⟩
      case measure => simp [intOf]
    · obtain rfl : k = 0 := by omega
      go_wp2
      go_ret
      exact ⟨t, rfl, by omega, o⟩
end Go.Proofs.YtkoebpoejafgnaaDoor
