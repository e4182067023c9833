import Derived.Test.YtgchbbjhdeobpaaGreatDoorSplit0
import Derived.Test.YtgchbbjhdeobpaaGreatDoorShelf
/-
  Texts cut at bytes: both SplitAny's.
-/
namespace Go.Proofs.YtgchbbjhdeobpaaGreatDoor
set_option linter.unusedVariables false
open Go.RowKit
/-- The slice of strings (A, length l, c) is the list l. -/
abbrev StrS (w : World) (lo : Nat) (A : Option Addr) (c : Nat) (l : List ByteArray) : Prop := SRow w lo A l.length c (fun j => l.getD j ByteArray.empty)
def RetS (e : Ending) (w' : World) (lo : Nat) (l : List ByteArray) : Prop := ∃ A c, e = .returned (.slice A l.length c) ∧ StrS w' lo A c l
theorem cell_news (w : World) (d : ByteArray) (t : TypeId) : (w.alloc (.cells #[.string d] t)).cell? ⟨w.heap.size, 0, none⟩ = some (.string d) := by
  rw [World.cell?_alloc_at _ _ _ _ rfl]; rfl
theorem byte_ne {a b : UInt8} (h : ¬ a = b) : ¬ ((a.toNat : Nat) : Int) = ((b.toNat : Nat) : Int) := fun e => h (UInt8.toNat_inj.1 (by omega))
set_option maxRecDepth 100000 in
set_option maxHeartbeats 1000000 in
theorem spec_SplitAny (s y : ByteArray) (w : World) (bs : s.size ≤ 1048576) (by_ : y.size ≤ 1048576) :
    Calls Tryz.prog 21 #[.string s, .string y] w fun e w' => RetS e w' w.heap.size (rSplitAny s y) ∧ Old w w' := by
  go_enter Tryz.func21, Tryz.ntmps21
  go_wp2
  go_loopw [5, 6, 7] (fun v x i wr => ∃ (k : Nat), k ≤ s.size ∧ i = .int .i64 (k : Int) ∧ x = .int .i64 (((spl s y k).2 : Nat) : Int) ∧ wr.ownsRow w.heap.size 9 1 v (spl s y k).1.length (SV (spl s y k).1) ∧ Old w wr) (fun _ _ i _ => s.size - (intOf i).toNat)
  case atStart => exact ⟨0, Nat.zero_le _, rfl, rfl, World.ownsRow_made _ _ _ (Nat.le_refl _) (by simp [maxLen]) rfl, (Old.refl w).alloc (Nat.le_refl _) _⟩
  case round =>
    obtain ⟨k, hk, rfl, rfl, hown, hb⟩ := hrel
    have zr := hb.size
    have hle := (spl_le s y k).1
    have hle2 := (spl_le s y k).2
    have Hy := Lib.hid (@spl_hit s y k)
    have Hn := Lib.hid (@spl_miss s y k)
    obtain ⟨⟨l, fr⟩, hfl⟩ : ∃ q, q = spl s y k := ⟨_, rfl⟩
    rw [← hfl] at hown hle hle2 Hy Hn ⊢
    simp only at hown hle hle2 Hy Hn ⊢
    have HF := Lib.hid hfl
    clear hfl
    by_cases hlt : k < s.size
    · have hsk := bAt_eq s k hlt
      go_wp2
      go_loopw [5, 6, 8] (fun v2 x2 i wq => ∃ (j m : Nat), j ≤ y.size ∧ i = .int .i64 (j : Int) ∧ noneB y (bAt s k) j ∧ v2 = u5 ∧ x2 = .int .i64 (fr : Int) ∧ wq = wr.drewN m) (fun _ _ i _ => y.size - (intOf i).toNat)
      case atStart => exact ⟨0, 0, Nat.zero_le _, rfl, noneB_zero _ _, rfl, rfl, rfl⟩
      case round =>
        obtain ⟨j, m, hj, rfl, hN, rfl, rfl, rfl⟩ := hrel
        by_cases hjl : j < y.size
        · by_cases heq : y[j] = bAt s k
          · have HH := Lib.hid (hasB_yes hjl heq)
            have he2 : (s[k].toNat : Int) = (y[j].toNat : Int) := by rw [hsk, heq]
            have he3 : (((bAt s k).toNat : Int) == (y[j].toNat : Int)) = true := by rw [heq]; simp
            clear heq
            go_wp2
            go_quiet (fail)
            go_wp2_with (at_builtin; refine wpList_sapp1 (d := s.extract fr k) (g := wr.heap.size) rfl (.tmp 29) (.tmp 34) rfl rfl (World.ownsRow.alloc (w := wr.drewN _) hown _) rfl (cell_news (wr.drewN _) _ _) ?hn ?hsz ?_; (case hn => omega); (case hsz => simp; omega); intro v2 w2 hown2 hb2)
            go_roundw
            case rel => exact ⟨k + 1, by omega, by go_num, by rw [Hy.out HH.out]; go_num, by rw [Hy.out HH.out, List.length_append]; exact hown2, Below.trans ((below_drewN hb _).alloc zr _) hb2⟩
            case measure => simp [intOf]; omega
          · have hne : ¬ ((bAt s k).toNat : Int) = (y[j].toNat : Int) := byte_ne fun e => heq e.symm
            have he3 : (((bAt s k).toNat : Int) == (y[j].toNat : Int)) = false := by simpa using hne
            have hN2 := noneB_succ hN hjl heq
            clear heq
            go_wp2
            go_quiet (fail)
            go_wp2
            go_roundw
            case rel => exact ⟨j + 1, _, by omega, by go_num, hN2, rfl, rfl, rfl⟩
            case measure => simp [intOf]; omega
        · have HH := Lib.hid (hasB_no hN hjl)
          go_wp2
          go_roundw
          case rel => exact ⟨k + 1, by omega, by go_num, by rw [Hn.out HH.out], by rw [Hn.out HH.out]; exact hown, below_drewN hb m⟩
          case measure => simp [intOf]; omega
    · have e : k = s.size := by omega
      subst e
      have HS : Hid (rSplitAny s y = l ++ [s.extract fr s.size]) := Lib.hid (by unfold rSplitAny; rw [← HF.out])
      go_wp2_with (at_builtin; refine wpList_sapp1 (d := s.extract fr s.size) rfl (.tmp 38) (.tmp 42) rfl rfl (hown.alloc _) rfl (cell_news _ _ _) ?hn ?hsz ?_; (case hn => omega); (case hsz => simp; omega); intro v2 w2 hown2 hb2)
      obtain ⟨A, c, rfl, hrow⟩ := own_srow hown2
      go_ret
      exact ⟨⟨A, c, by rw [HS.out, List.length_append]; rfl, by rw [HS.out, StrS, List.length_append]; exact hrow⟩, (hb.alloc zr _).trans hb2⟩
end Go.Proofs.YtgchbbjhdeobpaaGreatDoor
