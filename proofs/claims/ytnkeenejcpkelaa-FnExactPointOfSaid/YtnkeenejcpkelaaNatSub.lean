/-
  The difference of two natural numbers: l02Sub, natSub.
-/
import Derived.Test.YtnkeenejcpkelaaNatSum
namespace Go.Proofs.Ytnkeenejcpkelaa
set_option linter.unusedVariables false
open Go.RowKit Num

theorem own_low {w : World} {base n r : Nat} {v : Value} (h : w.ownsRow base 3 1 v n (NV (low n r))) : ∃ A c, v = .slice A n c ∧ Row w base A n c (digI r) := by
  obtain ⟨A, c, e, hr⟩ := own_row h
  exact ⟨A, c, e, hr.congr fun j hj => by rw [low_getD _ _ _ hj]; rfl⟩
theorem sub_len {x y : Nat} : len (x - y) ≤ len x := len_mono (Nat.sub_le _ _)

set_option maxRecDepth 100000 in
set_option maxHeartbeats 1000000 in
theorem l02Sub_any (A1 A2 : Option Addr) (c1 c2 x y lo1 lo2 : Nat) (w : World) (h1 : NatS w lo1 A1 c1 x) (h2 : NatS w lo2 A2 c2 y) (hx : len x ≤ 500) (hy : len y ≤ 500) (hxy : y ≤ x) :
    Calls Try.prog 159 #[.slice A1 (len x) c1, .slice A2 (len y) c2] w fun e w' => ∃ A c, e = .returned (.slice A (len (x - y)) c) ∧ NatS w' w.heap.size A c (x - y) ∧ Old w w' := by
  go_enter Try.func159, Try.ntmps159
  go_wp2
  go_loopw [5, 6, 12] (fun v cr i wr => ∃ k : Nat, k ≤ len x ∧ i = .int .i64 (k : Int) ∧ cr = .int .i64 ((borrow x y k : Nat) : Int) ∧ wr.ownsRow w.heap.size 3 1 v k (NV (low k (x - y))) ∧ Old w wr) (fun _ _ i _ => len x - (intOf i).toNat)
  case atStart => exact ⟨0, Nat.zero_le _, rfl, by rw [borrow_zero]; rfl, World.ownsRow_made _ _ _ (Nat.le_refl _) (by simp [maxLen]) rfl, (Old.refl w).alloc (Nat.le_refl _) _⟩
  case round =>
    obtain ⟨k, hk, rfl, rfl, hown, hb⟩ := hrel
    have hs := hb.size
    have b1 := dig_le x k
    have b2 := dig_le y k
    have b3 := borrow_le x y k
    by_cases hkx : k < len x
    · obtain ⟨a1, o1, rfl, hc1⟩ := NatS.cell (NatS.below h1 hb) hkx
      rcases diff_step k hxy with ⟨d1, d2, d3⟩ | ⟨d1, d2, d3⟩
      · have D2 := Lib.hid d2
        have D3 := Lib.hid d3
        clear d2 d3
        by_cases hky : k < len y
        · obtain ⟨a2, o2, rfl, hc2⟩ := NatS.cell (NatS.below h2 hb) hky
          go_wp2_with (at_builtin; refine wpList_app1 (d := dig (x - y) k) rfl (.tmp 35) (.tmp 37) rfl rfl (hown.alloc _) rfl (cell_new1 _ _ _) ?hq ?hn ?hsz ?_; (case hq => have := D2.out; omega); (case hn => omega); (case hsz => simp; omega); intro v1 w1 hown1 hb1)
          go_roundw
          case rel => exact ⟨k + 1, by omega, by go_num, by rw [D3.out]; rfl, by rw [low_succ]; exact hown1, (hb.alloc hs _).trans hb1⟩
          case measure => simp [intOf]; omega
        · have D := Lib.hid (dig_of_len (by omega : len y ≤ k))
          have b0 : borrow x y k ≤ dig x k := by omega
          go_wp2_with (at_builtin; refine wpList_app1 (d := dig (x - y) k) rfl (.tmp 35) (.tmp 37) rfl rfl (hown.alloc _) rfl (cell_new1 _ _ _) ?hq ?hn ?hsz ?_; (case hq => have := D2.out; have := D.out; omega); (case hn => omega); (case hsz => simp; omega); intro v1 w1 hown1 hb1)
          go_roundw
          case rel => exact ⟨k + 1, by omega, by go_num, by rw [D3.out]; rfl, by rw [low_succ]; exact hown1, (hb.alloc hs _).trans hb1⟩
          case measure => simp [intOf]; omega
      · have D2 := Lib.hid d2
        have D3 := Lib.hid d3
        clear d2 d3
        by_cases hky : k < len y
        · obtain ⟨a2, o2, rfl, hc2⟩ := NatS.cell (NatS.below h2 hb) hky
          go_wp2_with (at_builtin; refine wpList_app1 (d := dig (x - y) k) rfl (.tmp 35) (.tmp 37) rfl rfl (hown.alloc _) rfl (cell_new1 _ _ _) ?hq ?hn ?hsz ?_; (case hq => have := D2.out; rw [B_eq] at this; omega); (case hn => omega); (case hsz => simp; omega); intro v1 w1 hown1 hb1)
          go_roundw
          case rel => exact ⟨k + 1, by omega, by go_num, by rw [D3.out]; rfl, by rw [low_succ]; exact hown1, (hb.alloc hs _).trans hb1⟩
          case measure => simp [intOf]; omega
        · have D := Lib.hid (dig_of_len (by omega : len y ≤ k))
          have b0 : dig x k < borrow x y k := by have := D.out; omega
          go_wp2_with (at_builtin; refine wpList_app1 (d := dig (x - y) k) rfl (.tmp 35) (.tmp 37) rfl rfl (hown.alloc _) rfl (cell_new1 _ _ _) ?hq ?hn ?hsz ?_; (case hq => have := D.out; have := D2.out; rw [B_eq] at this; omega); (case hn => omega); (case hsz => simp; omega); intro v1 w1 hown1 hb1)
          go_roundw
          case rel => exact ⟨k + 1, by omega, by go_num, by rw [D3.out]; rfl, by rw [low_succ]; exact hown1, (hb.alloc hs _).trans hb1⟩
          case measure => simp [intOf]; omega
    · have e : k = len x := by omega
      have He := Lib.hid e
      clear e
      obtain ⟨A, c, rfl, hrow⟩ := own_low hown
      go_wp2_with (go_at_call 142; refine (l02Trim_any A k c (x - y) _ _ hrow (by have := He.out; have := sub_len (x := x) (y := y); omega) (by omega)).mono ?_; rintro e w1 ⟨rfl, o1⟩)
      go_ret
      exact ⟨A, c, rfl, NatS.below (hrow.take (by have := He.out; have := sub_len (x := x) (y := y); omega)) o1, Old.trans hb o1⟩
theorem limb_q (A : Option Addr) (c x lo k : Nat) (w : World) (h : NatS w lo A c x) (hx : len x ≤ 1000) (hk : k ≤ 2000) :
    Calls Try.prog 165 #[.slice A (len x) c, .int .i64 (k : Int)] w fun e w' => e = .returned (.int .i64 ((dig x k : Nat) : Int)) ∧ w' = w :=
  (limb_any A c x lo k w h hx hk).mono fun _ _ h => ⟨h.1, h.2.symm⟩
theorem make0' (c : Nat) (hc : c ≤ 1048576) (w : World) :
    (Instr.makeSlice 22 (.int .i64 0) (.int .i64 (c : Int))).run Try.prog w = .ok (.slice (some ⟨w.heap.size, 0, none⟩) 0 c) (w.alloc (.cells (madeCells #[.int .i64 0] c) 3)) := by
  obtain ⟨i0, hi, hz0, hz1, hz2⟩ := info_parts int_info
  have hr := run_make (P := Try.prog) w 22 3 i0 _ Try.underlying22 hi hz0 .i64 .i64 0 (c : Int) (by omega) (by omega) (by rw [hz2]; omega) (by omega)
  rw [hz1, show ((c : Int)).toNat = c by omega] at hr
  simpa [Value.cells] using hr
set_option maxRecDepth 100000 in
set_option maxHeartbeats 1000000 in
theorem natSub_any (A1 A2 : Option Addr) (c1 c2 x y lo1 lo2 : Nat) (w : World) (h1 : NatS w lo1 A1 c1 x) (h2 : NatS w lo2 A2 c2 y) (hx : len x ≤ 500) (hy : len y ≤ 500) (hxy : y ≤ x) :
    Calls Try.prog 164 #[.slice A1 (len x) c1, .slice A2 (len y) c2] w fun e w' => ∃ A c, e = .returned (.slice A (len (x - y)) c) ∧ NatS w' w.heap.size A c (x - y) ∧ Old w w' := by
  have hmx := fun (w : World) => make0' (len x) (by omega) w
  go_enter Try.func164, Try.ntmps164
  go_wp2
  clear hmx
  go_loopw [5, 6, 14] (fun v cr i wr => ∃ k : Nat, k ≤ len x ∧ i = .int .i64 (k : Int) ∧ cr = .int .i64 ((borrow x y k : Nat) : Int) ∧ wr.ownsRow w.heap.size 3 1 v k (NV (low k (x - y))) ∧ Old w wr) (fun _ _ i _ => len x - (intOf i).toNat)
  case atStart => exact ⟨0, Nat.zero_le _, rfl, by rw [borrow_zero]; rfl, World.ownsRow_made _ _ _ (Nat.le_refl _) (by simp only [maxLen]; omega) (by simp [size_madeCells]), (Old.refl w).alloc (Nat.le_refl _) _⟩
  case round =>
    obtain ⟨k, hk, rfl, rfl, hown, hb⟩ := hrel
    have hs := hb.size
    have b1 := dig_le x k
    have b2 := dig_le y k
    have b3 := borrow_le x y k
    by_cases hkx : k < len x
    · obtain ⟨a1, o1, rfl, hc1⟩ := NatS.cell (NatS.below h1 hb) hkx
      rcases diff_step k hxy with ⟨d1, d2, d3⟩ | ⟨d1, d2, d3⟩
      · have D2 := Lib.hid d2
        have D3 := Lib.hid d3
        clear d2 d3
        go_wp2
        go_quiet ((go_at_call 165; exact Calls.quiet_of_same (limb_q A2 c2 y lo2 k _ ((NatS.below h2 hb).drewN _) (by omega) (by omega))))
        go_wp2_with (at_builtin; refine wpList_app1 (d := dig (x - y) k) rfl (.tmp 31) (.tmp 33) rfl rfl ((own_drewN hown _).alloc _) rfl (cell_new1 _ _ _) ?hq ?hn ?hsz ?_; (case hq => have := D2.out; omega); (case hn => omega); (case hsz => simp; omega); intro v1 w1 hown1 hb1)
        go_roundw
        case rel => exact ⟨k + 1, by omega, by go_num, by rw [D3.out]; rfl, by rw [low_succ]; exact hown1, ((below_drewN hb _).alloc hs _).trans hb1⟩
        case measure => simp [intOf]; omega
      · have D2 := Lib.hid d2
        have D3 := Lib.hid d3
        clear d2 d3
        go_wp2
        go_quiet ((go_at_call 165; exact Calls.quiet_of_same (limb_q A2 c2 y lo2 k _ ((NatS.below h2 hb).drewN _) (by omega) (by omega))))
        go_wp2_with (at_builtin; refine wpList_app1 (d := dig (x - y) k) rfl (.tmp 31) (.tmp 33) rfl rfl ((own_drewN hown _).alloc _) rfl (cell_new1 _ _ _) ?hq ?hn ?hsz ?_; (case hq => have := D2.out; rw [B_eq] at this; omega); (case hn => omega); (case hsz => simp; omega); intro v1 w1 hown1 hb1)
        go_roundw
        case rel => exact ⟨k + 1, by omega, by go_num, by rw [D3.out]; rfl, by rw [low_succ]; exact hown1, ((below_drewN hb _).alloc hs _).trans hb1⟩
        case measure => simp [intOf]; omega
    · have e : k = len x := by omega
      have He := Lib.hid e
      clear e
      obtain ⟨A, c, rfl, hrow⟩ := own_low hown
      go_wp2_with (go_at_call 162; refine (trimmed_any A k c (x - y) _ _ hrow (by have := He.out; have := sub_len (x := x) (y := y); omega) (by omega)).mono ?_; rintro e w1 ⟨rfl, o1⟩)
      go_ret
      exact ⟨A, c, rfl, NatS.below (hrow.take (by have := He.out; have := sub_len (x := x) (y := y); omega)) o1, Old.trans hb o1⟩
end Go.Proofs.Ytnkeenejcpkelaa
