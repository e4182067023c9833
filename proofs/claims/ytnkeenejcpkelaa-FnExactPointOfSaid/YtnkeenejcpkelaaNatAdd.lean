/-
  Cutting zeros, bounds, sums: l02Trim, trimmed, l02Cap, short, limb, l02Add, natAdd.
-/
import Derived.Test.YtnkeenejcpkelaaNatCmp
namespace Go.Proofs.Ytnkeenejcpkelaa
set_option linter.unusedVariables false
open Go.RowKit Num

theorem NatS.below {w w' : World} {lo c x : Nat} {A : Option Addr} (h : NatS w lo A c x) (hb : Old w w') : NatS w' lo A c x := Row.below h hb (Nat.le_refl _)
theorem NatS.zero (w : World) (lo : Nat) (A : Option Addr) (c : Nat) : NatS w lo A c 0 := Row.zero w lo A c (digI 0)
theorem Row.drewN {w : World} {lo n c : Nat} {A : Option Addr} {f : Nat → Int} (h : Row w lo A n c f) (k : Nat) : Row (w.drewN k) lo A n c f := h
theorem own_drewN {w : World} {base n : Nat} {v : Value} {e : TypeId} {xs : List Value} (h : w.ownsRow base e 1 v n xs) (k : Nat) : (w.drewN k).ownsRow base e 1 v n xs := h
theorem below_drew' {w w' : World} (h : Old w w') (n : Nat) : Old w (w'.drewN n) := below_drewN h n

theorem trim_step {r k : Nat} (h : dig r (k - 1) = 0) (hk : len r ≤ k) (h0 : 0 < k) : len r ≤ k - 1 := by
  by_cases e : len r = k
  · have hr : r ≠ 0 := fun e' => by rw [e', len_zero] at e; omega
    have := top_pos hr
    rw [e] at this
    exact absurd h this
  · omega
theorem trim_done {r k : Nat} (h : dig r (k - 1) ≠ 0) (hk : len r ≤ k) (h0 : 0 < k) : k = len r := by
  by_cases e : len r = k
  · exact e.symm
  · exact absurd (dig_of_len (by omega)) h

set_option maxRecDepth 100000 in
set_option maxHeartbeats 1000000 in
theorem l02Trim_any (A : Option Addr) (n c r lo : Nat) (w : World) (h : Row w lo A n c (digI r)) (hr : len r ≤ n) (hn : n ≤ 1000) :
    Calls Try.prog 142 #[.slice A n c] w fun e w' => e = .returned (.slice A (len r) c) ∧ Old w w' := by
  have hnc := h.1
  go_enter Try.func142, Try.ntmps142
  go_wp2
  go_loopw [3] (fun i wr => ∃ k m : Nat, k ≤ n ∧ len r ≤ k ∧ i = .int .i64 (k : Int) ∧ wr = w.drewN m) (fun i _ => (intOf i).toNat)
  case atStart => exact ⟨n, 0, Nat.le_refl _, hr, rfl, rfl⟩
  case round =>
    obtain ⟨k, m, hk, hl, rfl, rfl⟩ := hrel
    by_cases h0 : 0 < k
    · obtain ⟨b, o, rfl, _, _, _, hc⟩ := h.2 (by omega)
      have hx : w.cell? ⟨b, o + (k - 1), none⟩ = some (.int .i64 ((dig r (k - 1) : Nat) : Int)) := hc (k - 1) (by omega)
      clear hc
      by_cases hd : dig r (k - 1) = 0
      · have hl2 := trim_step hd hl h0
        have hd' : (((dig r (k - 1) : Nat) : Int) == 0) = true := by simp [hd]
        clear hd
        go_wp2
        go_roundw
        case rel => exact ⟨k - 1, m, by omega, hl2, by go_num, rfl⟩
        case measure => simp [intOf]; omega
      · have he := trim_done hd hl h0
        have hd' : (((dig r (k - 1) : Nat) : Int) == 0) = false := by simp; omega
        clear hd
        have He := Lib.hid he
        clear he
        go_wp2
        go_ret
        exact ⟨by rw [← He.out]; rfl, (by repeat' (first | exact Old.refl _ | assumption | refine below_drewN ?_ _ | refine Below.drew ?_))⟩
    · have e : k = 0 := by omega
      subst e
      have e2 : len r = 0 := by omega
      have He := Lib.hid e2
      clear e2
      go_wp2
      go_ret
      exact ⟨by rw [He.out]; rfl, (by repeat' (first | exact Old.refl _ | assumption | refine below_drewN ?_ _ | refine Below.drew ?_))⟩
set_option maxRecDepth 100000 in
set_option maxHeartbeats 1000000 in
theorem trimmed_any (A : Option Addr) (n c r lo : Nat) (w : World) (h : Row w lo A n c (digI r)) (hr : len r ≤ n) (hn : n ≤ 1000) :
    Calls Try.prog 162 #[.slice A n c] w fun e w' => e = .returned (.slice A (len r) c) ∧ Old w w' := by
  have hnc := h.1
  go_enter Try.func162, Try.ntmps162
  go_wp2
  go_loopw [3] (fun i wr => ∃ k m : Nat, k ≤ n ∧ len r ≤ k ∧ i = .int .i64 (k : Int) ∧ wr = w.drewN m) (fun i _ => (intOf i).toNat)
  case atStart => exact ⟨n, 0, Nat.le_refl _, hr, rfl, rfl⟩
  case round =>
    obtain ⟨k, m, hk, hl, rfl, rfl⟩ := hrel
    by_cases h0 : 0 < k
    · obtain ⟨b, o, rfl, _, _, _, hc⟩ := h.2 (by omega)
      have hx : w.cell? ⟨b, o + (k - 1), none⟩ = some (.int .i64 ((dig r (k - 1) : Nat) : Int)) := hc (k - 1) (by omega)
      clear hc
      by_cases hd : dig r (k - 1) = 0
      · have hl2 := trim_step hd hl h0
        have hd' : (((dig r (k - 1) : Nat) : Int) == 0) = true := by simp [hd]
        clear hd
        go_wp2
        go_roundw
        case rel => exact ⟨k - 1, m, by omega, hl2, by go_num, rfl⟩
        case measure => simp [intOf]; omega
      · have he := trim_done hd hl h0
        have hd' : (((dig r (k - 1) : Nat) : Int) == 0) = false := by simp; omega
        clear hd
        have He := Lib.hid he
        clear he
        go_wp2
        go_ret
        exact ⟨by rw [← He.out]; rfl, (by repeat' (first | exact Old.refl _ | assumption | refine below_drewN ?_ _ | refine Below.drew ?_))⟩
    · have e : k = 0 := by omega
      subst e
      have e2 : len r = 0 := by omega
      have He := Lib.hid e2
      clear e2
      go_wp2
      go_ret
      exact ⟨by rw [He.out]; rfl, (by repeat' (first | exact Old.refl _ | assumption | refine below_drewN ?_ _ | refine Below.drew ?_))⟩

/-- A number that is not too long, or 0. -/
def capN (r : Nat) : Nat := if len r ≤ 60 then r else 0
theorem capN_len (r : Nat) : len (capN r) ≤ 60 := by unfold capN; split
                                                     · assumption
                                                     · rw [len_zero]; omega
set_option maxRecDepth 100000 in
set_option maxHeartbeats 1000000 in
theorem l02Cap_any (A : Option Addr) (n c r lo : Nat) (w : World) (h : Row w lo A n c (digI r)) (hr : len r ≤ n) (hn : n ≤ 1000) :
    Calls Try.prog 155 #[.slice A n c] w fun e w' => ∃ A' c', e = .returned (.slice A' (len (capN r)) c') ∧ NatS w' lo A' c' (capN r) ∧ Old w w' := by
  go_enter Try.func155, Try.ntmps155
  by_cases h60 : len r ≤ 60
  · have e : Hid (capN r = r) := Lib.hid (by rw [capN, if_pos h60])
    go_wp2_with (go_at_call 142; refine (l02Trim_any A n c r lo _ h hr hn).mono ?_; rintro e w1 ⟨rfl, o1⟩)
    go_ret
    rw [e.out]
    exact ⟨A, c, rfl, NatS.below (h.take hr) o1, o1⟩
  · have e : Hid (capN r = 0) := Lib.hid (by rw [capN, if_neg h60])
    go_wp2_with (go_at_call 142; refine (l02Trim_any A n c r lo _ h hr hn).mono ?_; rintro e w1 ⟨rfl, o1⟩)
    go_ret
    rw [e.out]
    exact ⟨none, 0, rfl, NatS.zero _ _ _ _, o1⟩
end Go.Proofs.Ytnkeenejcpkelaa
