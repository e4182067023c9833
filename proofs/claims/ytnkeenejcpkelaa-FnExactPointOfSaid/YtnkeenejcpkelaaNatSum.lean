/-
  The sum of two natural numbers, of any length: limb, l02Add, natAdd.
-/
import Derived.Test.YtnkeenejcpkelaaNatAdd
namespace Go.Proofs.Ytnkeenejcpkelaa
set_option linter.unusedVariables false
open Go.RowKit Num

theorem sumI_dig (x y k : Nat) : (((dig x k : Nat) : Int) + (dig y k : Nat) + (carry x y k : Nat)) % 1000000000 = (dig (x + y) k : Nat) := by
  have := sum_dig x y k; rw [B_eq] at this; omega
theorem sumI_carry (x y k : Nat) : (((dig x k : Nat) : Int) + (dig y k : Nat) + (carry x y k : Nat)) / 1000000000 = (carry x y (k + 1) : Nat) := by
  have := sum_carry x y k; rw [B_eq] at this; omega
theorem sum_lt {x y k : Nat} (h : k < len x ∨ k < len y ∨ 0 < carry x y k) : k < len (x + y) := lt_len_iff.2 (sum_more h)
theorem sum_len {x y k : Nat} (hx : ¬ k < len x) (hy : ¬ k < len y) (hc : ¬ 0 < carry x y k) (hk : k ≤ len (x + y)) : k = len (x + y) := by
  have := len_le_iff.2 (sum_end (x := x) (y := y) (k := k) (by omega) (by omega) (by omega))
  omega
theorem own_nat {w : World} {base r : Nat} {v : Value} (h : w.ownsRow base 3 1 v (len r) (NV (low (len r) r))) : ∃ A c, v = .slice A (len r) c ∧ NatS w base A c r := by
  obtain ⟨A, c, e, hr⟩ := own_row h
  exact ⟨A, c, e, hr.congr fun j hj => by rw [low_getD _ _ _ hj]; rfl⟩

theorem limb_any (A : Option Addr) (c x lo k : Nat) (w : World) (h : NatS w lo A c x) (hx : len x ≤ 1000) (hk : k ≤ 2000) :
    Calls Try.prog 165 #[.slice A (len x) c, .int .i64 (k : Int)] w fun e w' => e = .returned (.int .i64 ((dig x k : Nat) : Int)) ∧ w = w' := by
  by_cases hlt : k < len x
  · obtain ⟨b, o, rfl, hc⟩ := h.cell hlt
    go_enter Try.func165, Try.ntmps165
    go_wp2
    go_ret
    exact ⟨rfl, rfl⟩
  · have e := Lib.hid (dig_of_len (by omega : len x ≤ k))
    go_enter Try.func165, Try.ntmps165
    go_wp2
    go_ret
    exact ⟨by rw [e.out]; rfl, rfl⟩

set_option maxRecDepth 100000 in
set_option maxHeartbeats 1000000 in
theorem l02Add_any (A1 A2 : Option Addr) (c1 c2 x y lo1 lo2 : Nat) (w : World) (h1 : NatS w lo1 A1 c1 x) (h2 : NatS w lo2 A2 c2 y) (hx : len x ≤ 500) (hy : len y ≤ 500) :
    Calls Try.prog 166 #[.slice A1 (len x) c1, .slice A2 (len y) c2] w fun e w' => ∃ A c, e = .returned (.slice A (len (x + y)) c) ∧ NatS w' w.heap.size A c (x + y) ∧ Old w w' := by
  have hs501 : len (x + y) ≤ 501 := by have := add_len_le x y; omega
  go_enter Try.func166, Try.ntmps166
  go_wp2
  go_loopw [5, 6, 7] (fun v cr i wr => ∃ k : Nat, k ≤ len (x + y) ∧ i = .int .i64 (k : Int) ∧ cr = .int .i64 ((carry x y k : Nat) : Int) ∧ wr.ownsRow w.heap.size 3 1 v k (NV (low k (x + y))) ∧ Old w wr) (fun _ _ i _ => len (x + y) - (intOf i).toNat)
  case atStart => exact ⟨0, Nat.zero_le _, rfl, by rw [carry_zero]; rfl, World.ownsRow_made _ _ _ (Nat.le_refl _) (by simp [maxLen]) rfl, (Old.refl w).alloc (Nat.le_refl _) _⟩
  case round =>
    obtain ⟨k, hk, rfl, rfl, hown, hb⟩ := hrel
    have hs := hb.size
    have b1 := dig_le x k
    have b2 := dig_le y k
    have b3 := carry_le x y k
    have F1 := Lib.hid (sumI_dig x y k)
    have F2 := Lib.hid (sumI_carry x y k)
    by_cases hkx : k < len x
    · have hlt := sum_lt (y := y) (.inl hkx)
      obtain ⟨a1, o1, rfl, hc1⟩ := NatS.cell (NatS.below h1 hb) hkx
      by_cases hky : k < len y
      · obtain ⟨a2, o2, rfl, hc2⟩ := NatS.cell (NatS.below h2 hb) hky
        go_wp2_with (at_builtin; refine wpList_app1 (d := dig (x + y) k) rfl (.tmp 47) (.tmp 50) rfl rfl (hown.alloc _) rfl (cell_new1 _ _ _) ?hq ?hn ?hsz ?_; (case hq => have := F1.out; omega); (case hn => omega); (case hsz => simp; omega); intro v1 w1 hown1 hb1)
        go_roundw
        case rel => exact ⟨k + 1, by omega, by go_num, congrArg (Value.int .i64) (by have := F2.out; omega), by rw [low_succ]; exact hown1, (hb.alloc hs _).trans hb1⟩
        case measure => simp [intOf]; omega
      · have D := Lib.hid (dig_of_len (by omega : len y ≤ k))
        go_wp2_with (at_builtin; refine wpList_app1 (d := dig (x + y) k) rfl (.tmp 47) (.tmp 50) rfl rfl (hown.alloc _) rfl (cell_new1 _ _ _) ?hq ?hn ?hsz ?_; (case hq => have := F1.out; have := D.out; omega); (case hn => omega); (case hsz => simp; omega); intro v1 w1 hown1 hb1)
        go_roundw
        case rel => exact ⟨k + 1, by omega, by go_num, congrArg (Value.int .i64) (by have := F2.out; have := D.out; omega), by rw [low_succ]; exact hown1, (hb.alloc hs _).trans hb1⟩
        case measure => simp [intOf]; omega
    · have D1 := Lib.hid (dig_of_len (by omega : len x ≤ k))
      by_cases hky : k < len y
      · have hlt := sum_lt (x := x) (.inr (.inl hky))
        obtain ⟨a2, o2, rfl, hc2⟩ := NatS.cell (NatS.below h2 hb) hky
        go_wp2_with (at_builtin; refine wpList_app1 (d := dig (x + y) k) rfl (.tmp 47) (.tmp 50) rfl rfl (hown.alloc _) rfl (cell_new1 _ _ _) ?hq ?hn ?hsz ?_; (case hq => have := F1.out; have := D1.out; omega); (case hn => omega); (case hsz => simp; omega); intro v1 w1 hown1 hb1)
        go_roundw
        case rel => exact ⟨k + 1, by omega, by go_num, congrArg (Value.int .i64) (by have := F2.out; have := D1.out; omega), by rw [low_succ]; exact hown1, (hb.alloc hs _).trans hb1⟩
        case measure => simp [intOf]; omega
      · have D := Lib.hid (dig_of_len (by omega : len y ≤ k))
        by_cases hc : 0 < carry x y k
        · have hlt := sum_lt (x := x) (y := y) (.inr (.inr hc))
          go_wp2_with (at_builtin; refine wpList_app1 (d := dig (x + y) k) rfl (.tmp 47) (.tmp 50) rfl rfl (hown.alloc _) rfl (cell_new1 _ _ _) ?hq ?hn ?hsz ?_; (case hq => have := F1.out; have := D.out; have := D1.out; omega); (case hn => omega); (case hsz => simp; omega); intro v1 w1 hown1 hb1)
          go_roundw
          case rel => exact ⟨k + 1, by omega, by go_num, congrArg (Value.int .i64) (by have := F2.out; have := D.out; have := D1.out; omega), by rw [low_succ]; exact hown1, (hb.alloc hs _).trans hb1⟩
          case measure => simp [intOf]; omega
        · have he := Lib.hid (sum_len hkx hky hc hk)
          go_wp2
          go_ret
          have he' := he.out
          subst he'
          obtain ⟨A, c, rfl, hrow⟩ := own_nat hown
          exact ⟨A, c, rfl, hrow, hb⟩
theorem make0 (c : Nat) (hc : c ≤ 1048576) (w : World) :
    (Instr.makeSlice 22 (.int .i64 0) (.int .i64 ((c : Int) + 1))).run Try.prog w = .ok (.slice (some ⟨w.heap.size, 0, none⟩) 0 (c + 1)) (w.alloc (.cells (madeCells #[.int .i64 0] (c + 1)) 3)) := by
  obtain ⟨i0, hi, hz0, hz1, hz2⟩ := info_parts int_info
  have hr := run_make (P := Try.prog) w 22 3 i0 _ Try.underlying22 hi hz0 .i64 .i64 0 ((c : Int) + 1) (by omega) (by omega) (by rw [hz2]; omega) (by omega)
  rw [hz1, show ((c : Int) + 1).toNat = c + 1 by omega] at hr
  simpa [Value.cells] using hr
set_option maxRecDepth 100000 in
set_option maxHeartbeats 1000000 in
theorem natAdd_any (A1 A2 : Option Addr) (c1 c2 x y lo1 lo2 : Nat) (w : World) (h1 : NatS w lo1 A1 c1 x) (h2 : NatS w lo2 A2 c2 y) (hx : len x ≤ 500) (hy : len y ≤ 500) :
    Calls Try.prog 147 #[.slice A1 (len x) c1, .slice A2 (len y) c2] w fun e w' => ∃ A c, e = .returned (.slice A (len (x + y)) c) ∧ NatS w' w.heap.size A c (x + y) ∧ Old w w' := by
  have hs501 : len (x + y) ≤ 501 := by have := add_len_le x y; omega
  have hmx := fun (w : World) => make0 (len x) (by omega) w
  have hmy := fun (w : World) => make0 (len y) (by omega) w
  go_enter Try.func147, Try.ntmps147
  go_wp2_with fail
  all_goals (clear hmx hmy h)
  all_goals
    go_loopw [5, 6, 7] (fun v cr i wr => ∃ k : Nat, k ≤ len (x + y) ∧ i = .int .i64 (k : Int) ∧ cr = .int .i64 ((carry x y k : Nat) : Int) ∧ wr.ownsRow w.heap.size 3 1 v k (NV (low k (x + y))) ∧ Old w wr) (fun _ _ i _ => len (x + y) - (intOf i).toNat)
    case atStart => exact ⟨0, Nat.zero_le _, rfl, by rw [carry_zero]; rfl, World.ownsRow_made _ _ _ (Nat.le_refl _) (by simp only [maxLen]; omega) (by simp [size_madeCells]), (Old.refl w).alloc (Nat.le_refl _) _⟩
    case round =>
      obtain ⟨k, hk, rfl, rfl, hown, hb⟩ := hrel
      have hs := hb.size
      have b1 := dig_le x k
      have b2 := dig_le y k
      have b3 := carry_le x y k
      have F1 := Lib.hid (sumI_dig x y k)
      have F2 := Lib.hid (sumI_carry x y k)
      by_cases hkx : k < len x
      · have hlt := sum_lt (y := y) (.inl hkx)
        go_wp2_with fail
        refine (limb_any _ c1 x lo1 k wr (NatS.below h1 hb) (by omega) (by omega)).mono ?_
        rintro e w' ⟨rfl, rfl⟩
        go_wp2_with fail
        refine (limb_any _ c2 y lo2 k wr (NatS.below h2 hb) (by omega) (by omega)).mono ?_
        rintro e w' ⟨rfl, rfl⟩
        go_wp2_with (at_builtin; refine wpList_app1 (d := dig (x + y) k) rfl (.tmp 41) (.tmp 44) rfl rfl (hown.alloc _) rfl (cell_new1 _ _ _) ?hq ?hn ?hsz ?_; (case hq => have := F1.out; omega); (case hn => omega); (case hsz => simp; omega); intro v1 w1 hown1 hb1)
        go_roundw
        case rel => exact ⟨k + 1, by omega, by go_num, congrArg (Value.int .i64) (by have := F2.out; omega), by rw [low_succ]; exact hown1, (hb.alloc hs _).trans hb1⟩
        case measure => simp [intOf]; omega
      · by_cases hky : k < len y
        · have hlt := sum_lt (x := x) (.inr (.inl hky))
          go_wp2_with fail
          refine (limb_any _ c1 x lo1 k wr (NatS.below h1 hb) (by omega) (by omega)).mono ?_
          rintro e w' ⟨rfl, rfl⟩
          go_wp2_with fail
          refine (limb_any _ c2 y lo2 k wr (NatS.below h2 hb) (by omega) (by omega)).mono ?_
          rintro e w' ⟨rfl, rfl⟩
          go_wp2_with (at_builtin; refine wpList_app1 (d := dig (x + y) k) rfl (.tmp 41) (.tmp 44) rfl rfl (hown.alloc _) rfl (cell_new1 _ _ _) ?hq ?hn ?hsz ?_; (case hq => have := F1.out; omega); (case hn => omega); (case hsz => simp; omega); intro v1 w1 hown1 hb1)
          go_roundw
          case rel => exact ⟨k + 1, by omega, by go_num, congrArg (Value.int .i64) (by have := F2.out; omega), by rw [low_succ]; exact hown1, (hb.alloc hs _).trans hb1⟩
          case measure => simp [intOf]; omega
        · by_cases hc : 0 < carry x y k
          · have hlt := sum_lt (x := x) (y := y) (.inr (.inr hc))
            go_wp2_with fail
            refine (limb_any _ c1 x lo1 k wr (NatS.below h1 hb) (by omega) (by omega)).mono ?_
            rintro e w' ⟨rfl, rfl⟩
            go_wp2_with fail
            refine (limb_any _ c2 y lo2 k wr (NatS.below h2 hb) (by omega) (by omega)).mono ?_
            rintro e w' ⟨rfl, rfl⟩
            go_wp2_with (at_builtin; refine wpList_app1 (d := dig (x + y) k) rfl (.tmp 41) (.tmp 44) rfl rfl (hown.alloc _) rfl (cell_new1 _ _ _) ?hq ?hn ?hsz ?_; (case hq => have := F1.out; omega); (case hn => omega); (case hsz => simp; omega); intro v1 w1 hown1 hb1)
            go_roundw
            case rel => exact ⟨k + 1, by omega, by go_num, congrArg (Value.int .i64) (by have := F2.out; omega), by rw [low_succ]; exact hown1, (hb.alloc hs _).trans hb1⟩
            case measure => simp [intOf]; omega
          · have he := Lib.hid (sum_len hkx hky hc hk)
            go_wp2
            go_ret
            have he' := he.out
            subst he'
            obtain ⟨A, c, rfl, hrow⟩ := own_nat hown
            exact ⟨A, c, rfl, hrow, hb⟩
end Go.Proofs.Ytnkeenejcpkelaa
