/-
  Between ints and natural numbers: natOf, both NatOf's, natTo, both NatToInt's.
-/
import Derived.Test.YtnkeenejcpkelaaNatFns
namespace Go.Proofs.Ytnkeenejcpkelaa
set_option linter.unusedVariables false
open Go.RowKit Num

theorem natOf_step {q : Int} {x k : Nat} (h : q = ((x / B ^ k : Nat) : Int)) : q / 1000000000 = ((x / B ^ (k + 1) : Nat) : Int) := by
  have e : x / B ^ (k + 1) = x / B ^ k / 1000000000 := by rw [Nat.div_div_eq_div_mul, Nat.pow_succ, B_eq]
  rw [e]; omega
theorem natOf_dig {q : Int} {x k : Nat} (h : q = ((x / B ^ k : Nat) : Int)) : q % 1000000000 = (dig x k : Int) := by
  have e : dig x k = x / B ^ k % 1000000000 := by rw [dig, B_eq]
  rw [e]; omega
theorem natOf_pos {q : Int} {x k : Nat} (h : q = ((x / B ^ k : Nat) : Int)) (hq : 0 < q) : k < len x := by
  have h0 : 0 < x / B ^ k := by generalize x / B ^ k = t at h; omega
  have := (Nat.le_div_iff_mul_le (pow_pos k)).1 h0
  exact lt_len_iff.2 (by omega)
theorem natOf_zero {q : Int} {x k : Nat} (h : q = ((x / B ^ k : Nat) : Int)) (hq : ¬ 0 < q) (hk : k ≤ len x) : k = len x := by
  have h0 : x / B ^ k = 0 := by generalize x / B ^ k = t at h; omega
  have h1 : x < B ^ k := (Nat.div_eq_zero_iff.1 h0).resolve_left (by have := pow_pos k; omega)
  have := len_le_iff.2 h1
  omega
theorem len_le3 {x : Nat} (hx : x ≤ 9223372036854775807) : len x ≤ 3 := len_le_iff.2 (by rw [B_eq]; omega)
def rNatOf (a : Int) : Nat := if a ≤ 9223372036854775807 then a.toNat else 0
theorem rNatOf_le (a : Int) : rNatOf a ≤ 9223372036854775807 := by unfold rNatOf; split <;> omega
theorem rNatOf_len (a : Int) : len (rNatOf a) ≤ 60 := by have := len_le3 (rNatOf_le a); omega

set_option maxRecDepth 100000 in
set_option maxHeartbeats 1000000 in
theorem natOf_any (a : Int) (w : World) (b : -9223372036854775808 ≤ a ∧ a ≤ 9223372036854775807) :
    Calls Try.prog 146 #[.int .i64 a] w fun e w' => RetN e w' w.heap.size (rNatOf a) ∧ Old w w' := by
  have hl3 := len_le3 (rNatOf_le a)
  have hr : rNatOf a = a.toNat := if_pos b.2
  have Hr := Lib.hid hr
  have Hb := Lib.hid b
  clear hr b
  go_enter Try.func146, Try.ntmps146
  go_wp2
  go_loopw [0, 3] (fun n v wr => ∃ (k : Nat) (q : Int), q ≤ 9223372036854775807 ∧ -9223372036854775808 ≤ q ∧ k ≤ len (rNatOf a) ∧ n = .int .i64 q ∧ Hid ((q < 0 ∧ rNatOf a = 0) ∨ q = ((rNatOf a / B ^ k : Nat) : Int)) ∧ wr.ownsRow w.heap.size 3 1 v k (NV (low k (rNatOf a))) ∧ Old w wr) (fun n _ _ => (intOf n).toNat)
  case atStart =>
    refine ⟨0, a, Hb.out.2, Hb.out.1, Nat.zero_le _, rfl, Lib.hid ?_, World.ownsRow_made _ _ _ (Nat.le_refl _) (by simp [maxLen]) rfl, (Old.refl w).alloc (Nat.le_refl _) _⟩
    by_cases h : a < 0
    · exact .inl ⟨h, by rw [Hr.out]; omega⟩
    · exact .inr (by rw [Hr.out]; simp; omega)
  case round =>
    obtain ⟨k, q, hq1, hq0, hk, rfl, hq, hown, hb⟩ := hrel
    by_cases hpos : 0 < q
    · have hq2 : Hid (q = ((rNatOf a / B ^ k : Nat) : Int)) := Lib.hid (hq.out.resolve_left (by omega))
      have hkl := natOf_pos hq2.out hpos
      have hs := hb.size
      go_wp2_with (at_builtin; refine wpList_app1 rfl (.tmp 9) (.tmp 12) rfl rfl (hown.alloc _) rfl (cell_new1 _ _ _) (natOf_dig hq2.out) (by omega) ?hsz ?_; (case hsz => simp; omega); intro v1 w1 hown1 hb1)
      go_roundw
      case rel => exact ⟨k + 1, q / 1000000000, by omega, by omega, by omega, rfl, Lib.hid (.inr (natOf_step hq2.out)), by rw [low_succ]; exact hown1, (hb.alloc hs _).trans hb1⟩
      case measure => simp [intOf]; omega
    · have hkl : Hid (k = len (rNatOf a)) := Lib.hid (by
        rcases hq.out with ⟨_, h⟩ | h
        · rw [h, len_zero] at hk ⊢; omega
        · exact natOf_zero h hpos hk)
      go_wp2
      go_ret
      have e := hkl.out
      subst e
      obtain ⟨A, c, rfl, hrow⟩ := own_nat hown
      exact ⟨⟨A, c, rfl, hrow⟩, hb⟩
set_option maxRecDepth 100000 in
set_option maxHeartbeats 1000000 in
theorem spec_NatOf (a : Int) (w : World) (b : -9223372036854775808 ≤ a ∧ a ≤ 9223372036854775807) :
    Calls Try.prog 128 #[.int .i64 a] w fun e w' => RetN e w' w.heap.size (rNatOf a) ∧ Old w w' := by
  have hl3 := len_le3 (rNatOf_le a)
  have hr : rNatOf a = a.toNat := if_pos b.2
  have Hr := Lib.hid hr
  have Hb := Lib.hid b
  clear hr b
  go_enter Try.func128, Try.ntmps128
  go_wp2
  go_loopw [0, 3] (fun n v wr => ∃ (k : Nat) (q : Int), q ≤ 9223372036854775807 ∧ -9223372036854775808 ≤ q ∧ k ≤ len (rNatOf a) ∧ n = .int .i64 q ∧ Hid ((q < 0 ∧ rNatOf a = 0) ∨ q = ((rNatOf a / B ^ k : Nat) : Int)) ∧ wr.ownsRow w.heap.size 3 1 v k (NV (low k (rNatOf a))) ∧ Old w wr) (fun n _ _ => (intOf n).toNat)
  case atStart =>
    refine ⟨0, a, Hb.out.2, Hb.out.1, Nat.zero_le _, rfl, Lib.hid ?_, World.ownsRow_made _ _ _ (Nat.le_refl _) (by simp [maxLen]) rfl, (Old.refl w).alloc (Nat.le_refl _) _⟩
    by_cases h : a < 0
    · exact .inl ⟨h, by rw [Hr.out]; omega⟩
    · exact .inr (by rw [Hr.out]; simp; omega)
  case round =>
    obtain ⟨k, q, hq1, hq0, hk, rfl, hq, hown, hb⟩ := hrel
    by_cases hpos : 0 < q
    · have hq2 : Hid (q = ((rNatOf a / B ^ k : Nat) : Int)) := Lib.hid (hq.out.resolve_left (by omega))
      have hkl := natOf_pos hq2.out hpos
      have hs := hb.size
      go_wp2_with (at_builtin; refine wpList_app1 rfl (.tmp 7) (.tmp 10) rfl rfl (hown.alloc _) rfl (cell_new1 _ _ _) (natOf_dig hq2.out) (by omega) ?hsz ?_; (case hsz => simp; omega); intro v1 w1 hown1 hb1)
      go_roundw
      case rel => exact ⟨k + 1, q / 1000000000, by omega, by omega, by omega, rfl, Lib.hid (.inr (natOf_step hq2.out)), by rw [low_succ]; exact hown1, (hb.alloc hs _).trans hb1⟩
      case measure => simp [intOf]; omega
    · have hkl : Hid (k = len (rNatOf a)) := Lib.hid (by
        rcases hq.out with ⟨_, h⟩ | h
        · rw [h, len_zero] at hk ⊢; omega
        · exact natOf_zero h hpos hk)
      go_wp2
      go_ret
      have e := hkl.out
      subst e
      obtain ⟨A, c, rfl, hrow⟩ := own_nat hown
      exact ⟨⟨A, c, rfl, hrow⟩, hb⟩

def toIntV (x : Nat) : Int := if x ≤ 9223372036854775807 then (x : Int) else 0
def toIntB (x : Nat) : Bool := decide (x ≤ 9223372036854775807)
theorem toInt_yes {x : Nat} (h : x ≤ 9223372036854775807) : toIntV x = x ∧ toIntB x = true := ⟨if_pos h, by simp [toIntB, h]⟩
theorem toInt_no {x : Nat} (h : ¬ x ≤ 9223372036854775807) : toIntV x = 0 ∧ toIntB x = false := ⟨if_neg h, by simp [toIntB]; omega⟩
theorem div_le_self' (x k : Nat) : x / B ^ k ≤ x := Nat.div_le_self _ _
theorem natTo_next {x k : Nat} {q : Int} (h : q = ((x / B ^ k : Nat) : Int)) (hk : 0 < k) : q * 1000000000 + ((dig x (k - 1) : Nat) : Int) = ((x / B ^ (k - 1) : Nat) : Int) := by
  have e := div_pow_succ x (k - 1)
  rw [show k - 1 + 1 = k by omega] at e
  subst h
  generalize x / B ^ (k - 1) = t at e ⊢
  generalize x / B ^ k = u at e ⊢
  rw [B_eq] at e
  omega
theorem natTo_big {x k : Nat} {q : Int} (h : q = ((x / B ^ k : Nat) : Int)) (hk : 0 < k) (hb : (9223372036854775807 - ((dig x (k - 1) : Nat) : Int)) / 1000000000 < q) : ¬ x ≤ 9223372036854775807 := by
  have e := natTo_next h hk
  have l := div_le_self' x (k - 1)
  generalize x / B ^ (k - 1) = t at e l
  omega
noncomputable def rNatToInt0 (n : Nat) (f : Nat → Int) : Int := if rNatOk n f then toIntV (natX n f) else 0
noncomputable def rNatToInt1 (n : Nat) (f : Nat → Int) : Bool := rNatOk n f && toIntB (natX n f)
theorem len_max : len 9223372036854775807 = 3 := len_eq (by rw [B_eq]; omega) (fun _ => by rw [B_eq]; omega)
theorem max_row (w : World) (lo : Nat) (hl : lo ≤ w.heap.size) : NatS (w.alloc (.cells #[.int .i64 854775807, .int .i64 223372036, .int .i64 9] 3)) lo (some ⟨w.heap.size, 0, none⟩) 3 9223372036854775807 := by
  refine ⟨by rw [len_max]; omega, fun _ => ⟨w.heap.size, 0, rfl, hl, by simp, fun j => World.frozen?_alloc_at _ _ _ _ rfl, fun j hj => ?_⟩⟩
  rw [len_max] at hj
  rw [World.cell?_alloc_at _ _ _ _ rfl]
  have e0 : dig 9223372036854775807 0 = 854775807 := by unfold dig; rw [B_eq]
  have e1 : dig 9223372036854775807 1 = 223372036 := by unfold dig; rw [B_eq]
  have e2 : dig 9223372036854775807 2 = 9 := by unfold dig; rw [B_eq]
  match j, hj with
  | 0, _ => show some _ = some (Value.int .i64 ((dig 9223372036854775807 0 : Nat) : Int)); rw [e0]; rfl
  | 1, _ => show some _ = some (Value.int .i64 ((dig 9223372036854775807 1 : Nat) : Int)); rw [e1]; rfl
  | 2, _ => show some _ = some (Value.int .i64 ((dig 9223372036854775807 2 : Nat) : Int)); rw [e2]; rfl
theorem cmp_max (A : Option Addr) (c x lo : Nat) (w : World) (h : NatS w lo A c x) (hx : len x ≤ 1000) :
    Calls Try.prog 156 #[.slice A (len x) c, .slice (some ⟨w.heap.size, 0, none⟩) 3 3] (w.alloc (.cells #[.int .i64 854775807, .int .i64 223372036, .int .i64 9] 3)) fun e w' => e = .returned (.int .i64 (cmpN x 9223372036854775807)) ∧ Old w w' := by
  have o : Old w (w.alloc (.cells #[.int .i64 854775807, .int .i64 223372036, .int .i64 9] 3)) := (Old.refl w).alloc (Nat.le_refl _) _
  have h1 := l02Cmp_any A (some ⟨w.heap.size, 0, none⟩) c 3 x 9223372036854775807 lo 0 _ (NatS.below h o) (max_row w 0 (Nat.zero_le _)) hx (by rw [len_max]; omega)
  rw [len_max] at h1
  exact h1.mono fun e w' h => ⟨h.1, Old.trans o h.2⟩
set_option maxRecDepth 100000 in
set_option maxHeartbeats 1000000 in
theorem spec_NatToInt (A : Option Addr) (n c lo : Nat) (f : Nat → Int) (w : World) (h : Row w lo A n c f) (hn : n ≤ 1048576) :
    Calls Try.prog 130 #[.slice A n c] w fun e w' => e = .returned (.tuple #[.int .i64 (rNatToInt0 n f), .bool (rNatToInt1 n f)]) ∧ Old w w' := by
  by_cases k : okP n f
  · obtain ⟨x, e1, hx, v1, s1⟩ := row_nat h k
    have Hr : Hid (rNatToInt0 n f = toIntV x ∧ rNatToInt1 n f = toIntB x) := Lib.hid (by unfold rNatToInt0 rNatToInt1; rw [rNatOk_yes k, v1]; simp)
    have E1 := Lib.hid e1
    clear e1 v1
    rw [Hr.out.1, Hr.out.2]
    clear Hr
    obtain rfl := E1.out
    clear E1
    by_cases hle : x ≤ 9223372036854775807
    · have Hv := Lib.hid (toInt_yes hle)
      rw [Hv.out.1, Hv.out.2]
      have hc : ¬ 0 < cmpN x 9223372036854775807 := by have := (@cmpN_nonpos x 9223372036854775807).2 hle; omega
      have H0 := Lib.hid (show x / B ^ len x = 0 from Nat.div_eq_of_lt (lt_len x))
      have Hle := Lib.hid hle
      clear hle
      go_enter Try.func130, Try.ntmps130
      go_wp2_with fail
      refine (specNatOk_yes A _ c f _ _ h k).mono ?_
      rintro e w' ⟨rfl, rfl⟩
      go_wp2_with fail
      refine (cmp_max A c x _ _ s1 (by omega)).mono ?_
      rintro e w1 ⟨rfl, o1⟩
      go_wp2
      go_loop [4, 5] (fun n i => ∃ (k : Nat) (q : Int), k ≤ len x ∧ i = .int .i64 ((k : Int) - 1) ∧ 0 ≤ q ∧ q ≤ 9223372036854775807 ∧ n = .int .i64 q ∧ Hid (q = ((x / B ^ k : Nat) : Int))) (fun _ i => (intOf i + 1).toNat)
      case atStart => exact ⟨len x, 0, Nat.le_refl _, rfl, by omega, by omega, rfl, Lib.hid (by rw [H0.out]; rfl)⟩
      case round =>
        obtain ⟨k, q, hk, rfl, hq0, hq1, rfl, hq⟩ := hrel
        by_cases hpos : 0 < k
        · obtain ⟨b, o, rfl, hc⟩ := NatS.cell (NatS.below s1 o1) (j := k - 1) (by omega)
          have hd := dig_le x (k - 1)
          have Hn := Lib.hid (natTo_next hq.out hpos)
          have hfit : q * 1000000000 + ((dig x (k - 1) : Nat) : Int) ≤ 9223372036854775807 := by
            have e := Hn.out
            have l := div_le_self' x (k - 1)
            have := Hle.out
            generalize x / B ^ (k - 1) = t at e l
            omega
          go_wp2
          go_round
          case rel => exact ⟨k - 1, _, by omega, by go_num, by omega, hfit, rfl, Hn⟩
          case measure => simp [intOf]; omega
        · have e : k = 0 := by omega
          subst e
          have Hx : Hid (q = (x : Int)) := Lib.hid (by have := hq.out; simpa using this)
          go_wp2
          go_ret2
          exact ⟨by rw [← Hx.out]; rfl, o1⟩
    · have Hv := Lib.hid (toInt_no hle)
      rw [Hv.out.1, Hv.out.2]
      have hc : 0 < cmpN x 9223372036854775807 := by
        have := @cmpN_nonpos x 9223372036854775807
        omega
      clear hle
      go_enter Try.func130, Try.ntmps130
      go_wp2_with fail
      refine (specNatOk_yes A _ c f _ _ h k).mono ?_
      rintro e w' ⟨rfl, rfl⟩
      go_wp2_with fail
      refine (cmp_max A c x _ _ s1 (by omega)).mono ?_
      rintro e w1 ⟨rfl, o1⟩
      go_wp2
      go_ret2
      exact ⟨rfl, o1⟩
  · have Hr : Hid (rNatToInt0 n f = 0 ∧ rNatToInt1 n f = false) := Lib.hid (by unfold rNatToInt0 rNatToInt1; rw [rNatOk_no k]; simp)
    rw [Hr.out.1, Hr.out.2]
    go_enter Try.func130, Try.ntmps130
    go_wp2_with fail
    refine (specNatOk_no A n c f _ _ h k hn).mono ?_
    rintro e w' ⟨rfl, rfl⟩
    go_wp2
    go_ret2
    exact ⟨rfl, Old.refl _⟩
end Go.Proofs.Ytnkeenejcpkelaa
