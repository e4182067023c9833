/-
  Comparing two natural numbers: l02Cmp, natCmp, both NatCmp's.
-/
import Derived.Test.YtnkeenejcpkelaaNatOk
namespace Go.Proofs.Ytnkeenejcpkelaa
set_option linter.unusedVariables false
open Go.RowKit Num

/-- -1, 0 or 1. -/
def cmpN (x y : Nat) : Int := if x < y then -1 else if x = y then 0 else 1
theorem cmpN_lt {x y : Nat} (h : x < y) : cmpN x y = -1 := by simp [cmpN, h]
theorem cmpN_gt {x y : Nat} (h : y < x) : cmpN x y = 1 := by simp [cmpN, show ¬ x < y from by omega, show ¬ x = y from by omega]
theorem cmpN_eq {x y : Nat} (h : x = y) : cmpN x y = 0 := by simp [cmpN, h]
theorem cmpN_nonneg {x y : Nat} : 0 ≤ cmpN x y ↔ y ≤ x := by
  unfold cmpN; split
  · omega
  · split <;> omega
theorem cmpN_nonpos {x y : Nat} : cmpN x y ≤ 0 ↔ x ≤ y := by
  unfold cmpN; split
  · omega
  · split <;> omega

theorem NatS.cell {w : World} {lo c x : Nat} {A : Option Addr} (h : NatS w lo A c x) {j : Nat} (hj : j < len x) :
    ∃ b off, A = some ⟨b, off, none⟩ ∧ w.cell? ⟨b, off + j, none⟩ = some (.int .i64 (dig x j : Int)) := by
  obtain ⟨b, off, e, _, _, _, hc⟩ := h.2 (by omega)
  exact ⟨b, off, e, hc j hj⟩
theorem div_len_eq {x y n : Nat} (hx : len x = n) (hy : len y = n) : x / B ^ n = y / B ^ n := by
  have h1 := lt_len x
  have h2 := lt_len y
  rw [hx] at h1
  rw [hy] at h2
  rw [Nat.div_eq_of_lt h1, Nat.div_eq_of_lt h2]
theorem div_zero_eq {x y : Nat} (h : x / B ^ 0 = y / B ^ 0) : x = y := by simpa using h

set_option maxRecDepth 100000 in
set_option maxHeartbeats 1000000 in
theorem l02Cmp_any (A1 A2 : Option Addr) (c1 c2 x y lo1 lo2 : Nat) (w : World) (h1 : NatS w lo1 A1 c1 x) (h2 : NatS w lo2 A2 c2 y) (hx : len x ≤ 1000) (hy : len y ≤ 1000) :
    Calls Try.prog 156 #[.slice A1 (len x) c1, .slice A2 (len y) c2] w fun e w' => e = .returned (.int .i64 (cmpN x y)) ∧ Old w w' := by
  by_cases hl : len x = len y
  · have Hxy := Lib.hid hl
    have He := Lib.hid (div_len_eq hl rfl)
    clear hl
    obtain ⟨n, hn1, hn2⟩ : ∃ n, Hid (len x = n) ∧ Hid (len y = n) := ⟨_, Lib.hid rfl, Lib.hid Hxy.out.symm⟩
    rw [hn1.out] at hx ⊢
    rw [hn2.out] at hy He ⊢
    clear Hxy
    go_enter Try.func156, Try.ntmps156
    go_wp2
    go_loopw [5] (fun i wr => ∃ k m : Nat, k ≤ n ∧ i = .int .i64 ((k : Int) - 1) ∧ wr = w.drewN m ∧ Hid (x / B ^ k = y / B ^ k)) (fun i _ => (intOf i + 1).toNat)
    case atStart => exact ⟨n, 0, Nat.le_refl _, rfl, rfl, He⟩
    case round =>
      obtain ⟨k, m, hk, rfl, rfl, hE⟩ := hrel
      by_cases hlt : 0 < k
      · obtain ⟨b1, o1, rfl, hc1⟩ := h1.cell (j := k - 1) (by rw [hn1.out]; omega)
        obtain ⟨b2, o2, rfl, hc2⟩ := h2.cell (j := k - 1) (by rw [hn2.out]; omega)
        have hE' : Hid (x / B ^ (k - 1 + 1) = y / B ^ (k - 1 + 1)) := by rw [show k - 1 + 1 = k by omega]; exact hE
        clear hE
        rcases Nat.lt_trichotomy (dig x (k - 1)) (dig y (k - 1)) with hd | hd | hd
        · have hr := cmpN_lt (lt_of_dig hE'.out hd)
          have Hr := Lib.hid hr
          clear hr
          go_wp2
          go_quiet (fail)
          go_wp2
          go_ret
          exact ⟨by rw [Hr.out]; rfl, (by repeat' (first | exact Old.refl _ | assumption | refine below_drewN ?_ _ | refine Below.drew ?_))⟩
        · have Hs := Lib.hid (eq_div_step hE'.out hd)
          rw [← hd] at hc2
          clear hd
          go_wp2
          go_quiet (fail)
          go_wp2
          go_quiet (fail)
          go_wp2
          go_roundw
          case rel => exact ⟨k - 1, _, by omega, by go_num, rfl, Hs⟩
          case measure => simp [intOf]; omega
        · have hr := cmpN_gt (lt_of_dig hE'.out.symm hd)
          have Hr := Lib.hid hr
          clear hr
          go_wp2
          go_quiet (fail)
          go_wp2
          go_quiet (fail)
          go_wp2
          go_ret
          exact ⟨by rw [Hr.out]; rfl, (by repeat' (first | exact Old.refl _ | assumption | refine below_drewN ?_ _ | refine Below.drew ?_))⟩
      · have hk0 : k = 0 := by omega
        subst hk0
        have Hr := Lib.hid (cmpN_eq (div_zero_eq hE.out))
        clear hE
        go_wp2
        go_ret
        exact ⟨by rw [Hr.out]; rfl, (by repeat' (first | exact Old.refl _ | assumption | refine below_drewN ?_ _ | refine Below.drew ?_))⟩
  · by_cases hlt : len x < len y
    · have Hr := Lib.hid (cmpN_lt (lt_of_len hlt))
      go_enter Try.func156, Try.ntmps156
      go_wp2
      go_ret
      exact ⟨by rw [Hr.out]; rfl, Old.refl w⟩
    · have Hr := Lib.hid (cmpN_gt (lt_of_len (by omega : len y < len x)))
      go_enter Try.func156, Try.ntmps156
      go_wp2
      go_ret
      exact ⟨by rw [Hr.out]; rfl, Old.refl w⟩
theorem compare_lt (a b : Int) (h : a < b) (w : World) :
    Calls Try.prog 169 #[.int .i64 a, .int .i64 b] w fun e w' => e = .returned (.int .i64 (-1)) ∧ w' = w := by
  go_enter Try.func169, Try.ntmps169
  go_wp2
  go_ret
  exact ⟨rfl, rfl⟩
theorem compare_gt (a b : Int) (h : b < a) (w : World) :
    Calls Try.prog 169 #[.int .i64 a, .int .i64 b] w fun e w' => e = .returned (.int .i64 1) ∧ w' = w := by
  have h2 : ¬ a < b := by omega
  go_enter Try.func169, Try.ntmps169
  go_wp2
  go_ret
  exact ⟨rfl, rfl⟩
set_option maxRecDepth 100000 in
set_option maxHeartbeats 1000000 in
theorem natCmp_any (A1 A2 : Option Addr) (c1 c2 x y lo1 lo2 : Nat) (w : World) (h1 : NatS w lo1 A1 c1 x) (h2 : NatS w lo2 A2 c2 y) (hx : len x ≤ 1000) (hy : len y ≤ 1000) :
    Calls Try.prog 161 #[.slice A1 (len x) c1, .slice A2 (len y) c2] w fun e w' => e = .returned (.int .i64 (cmpN x y)) ∧ Old w w' := by
  by_cases hl : len x = len y
  · have Hxy := Lib.hid hl
    have He := Lib.hid (div_len_eq hl rfl)
    clear hl
    obtain ⟨n, hn1, hn2⟩ : ∃ n, Hid (len x = n) ∧ Hid (len y = n) := ⟨_, Lib.hid rfl, Lib.hid Hxy.out.symm⟩
    rw [hn1.out] at hx ⊢
    rw [hn2.out] at hy He ⊢
    clear Hxy
    go_enter Try.func161, Try.ntmps161
    go_wp2
    go_loopw [5] (fun i wr => ∃ k m : Nat, k ≤ n ∧ i = .int .i64 ((k : Int) - 1) ∧ wr = w.drewN m ∧ Hid (x / B ^ k = y / B ^ k)) (fun i _ => (intOf i + 1).toNat)
    case atStart => exact ⟨n, 0, Nat.le_refl _, rfl, rfl, He⟩
    case round =>
      obtain ⟨k, m, hk, rfl, rfl, hE⟩ := hrel
      by_cases hlt : 0 < k
      · obtain ⟨b1, o1, rfl, hc1⟩ := h1.cell (j := k - 1) (by rw [hn1.out]; omega)
        obtain ⟨b2, o2, rfl, hc2⟩ := h2.cell (j := k - 1) (by rw [hn2.out]; omega)
        have hE' : Hid (x / B ^ (k - 1 + 1) = y / B ^ (k - 1 + 1)) := by rw [show k - 1 + 1 = k by omega]; exact hE
        clear hE
        rcases Nat.lt_trichotomy (dig x (k - 1)) (dig y (k - 1)) with hd | hd | hd
        · have Hr := Lib.hid (cmpN_lt (lt_of_dig hE'.out hd))
          have hne : (((dig x (k - 1) : Nat) : Int) != ((dig y (k - 1) : Nat) : Int)) = true := by simp; omega
          go_wp2
          go_quiet (fail)
          go_wp2
          go_quiet ((go_at_call 169; exact quiet_again (compare_lt _ _ (by omega) _)))
          go_wp2
          go_ret
          exact ⟨by rw [Hr.out]; rfl, (by repeat' (first | exact Old.refl _ | assumption | refine below_drewN ?_ _ | refine Below.drew ?_))⟩
        · have Hs := Lib.hid (eq_div_step hE'.out hd)
          rw [← hd] at hc2
          clear hd
          go_wp2
          go_quiet (fail)
          go_wp2
          go_roundw
          case rel => exact ⟨k - 1, _, by omega, by go_num, rfl, Hs⟩
          case measure => simp [intOf]; omega
        · have Hr := Lib.hid (cmpN_gt (lt_of_dig hE'.out.symm hd))
          have hne : (((dig x (k - 1) : Nat) : Int) != ((dig y (k - 1) : Nat) : Int)) = true := by simp; omega
          go_wp2
          go_quiet (fail)
          go_wp2
          go_quiet ((go_at_call 169; exact quiet_again (compare_gt _ _ (by omega) _)))
          go_wp2
          go_ret
          exact ⟨by rw [Hr.out]; rfl, (by repeat' (first | exact Old.refl _ | assumption | refine below_drewN ?_ _ | refine Below.drew ?_))⟩
      · have hk0 : k = 0 := by omega
        subst hk0
        have Hr := Lib.hid (cmpN_eq (div_zero_eq hE.out))
        clear hE
        go_wp2
        go_ret
        exact ⟨by rw [Hr.out]; rfl, (by repeat' (first | exact Old.refl _ | assumption | refine below_drewN ?_ _ | refine Below.drew ?_))⟩
  · have hne : (((len x : Nat) : Int) != ((len y : Nat) : Int)) = true := by simp; omega
    by_cases hlt : len x < len y
    · have Hr := Lib.hid (cmpN_lt (lt_of_len hlt))
      go_enter Try.func161, Try.ntmps161
      go_wp2_with (go_at_call 169; refine (compare_lt _ _ (by omega) _).mono ?_; rintro e w' ⟨rfl, rfl⟩)
      go_ret
      exact ⟨by rw [Hr.out]; rfl, Old.refl _⟩
    · have Hr := Lib.hid (cmpN_gt (lt_of_len (by omega : len y < len x)))
      go_enter Try.func161, Try.ntmps161
      go_wp2_with (go_at_call 169; refine (compare_gt _ _ (by omega) _).mono ?_; rintro e w' ⟨rfl, rfl⟩)
      go_ret
      exact ⟨by rw [Hr.out]; rfl, Old.refl _⟩
end Go.Proofs.Ytnkeenejcpkelaa
