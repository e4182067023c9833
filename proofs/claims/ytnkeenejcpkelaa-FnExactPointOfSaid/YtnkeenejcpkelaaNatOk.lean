/-
  When a list of limbs is a natural number: both NatOk's.
-/
import Derived.Test.YtnkeenejcpkelaaLawInts
namespace Go.Proofs.Ytnkeenejcpkelaa
set_option linter.unusedVariables false
open Go.RowKit Num

def okP (n : Nat) (f : Nat → Int) : Prop := n ≤ 60 ∧ (∀ j, j < n → 0 ≤ f j ∧ f j ≤ 999999999) ∧ (0 < n → f (n - 1) ≠ 0)
theorem okP_nat {n : Nat} {f : Nat → Int} (h : okP n f) : ∃ x, n = len x ∧ n ≤ 60 ∧ ∀ j, j < n → f j = digI x j := by
  obtain ⟨h1, h2, h3⟩ := h
  let l := (List.range n).map fun j => (f j).toNat
  have hg : ∀ j, j < n → l.getD j 0 = (f j).toNat := fun j hj => by simp [l, List.getD_eq_getElem?_getD, hj]
  have hl : l.length = n := by simp [l]
  have hlt : ∀ d ∈ l, d < B := by
    intro d hd
    obtain ⟨j, hj, rfl⟩ := List.mem_map.1 hd
    have := h2 j (by simpa using hj)
    rw [B_eq]; omega
  have hd := digs_of_list hlt fun hne => by
    have hn : 0 < n := by rw [← hl]; exact List.length_pos_iff.2 hne
    rw [hl, hg _ (by omega)]
    have := h3 hn
    have := h2 (n - 1) (by omega)
    omega
  have e : n = len (val l) := by rw [← digs_length, ← hd, hl]
  refine ⟨val l, e, h1, fun j hj => ?_⟩
  have h4 := hg j hj
  rw [hd, digs_getD] at h4
  have := h2 j hj
  show f j = ((dig (val l) j : Nat) : Int)
  omega
theorem okP_of {x : Nat} (h : len x ≤ 60) : okP (len x) (digI x) := by
  refine ⟨h, fun j _ => ?_, fun h0 he => ?_⟩
  · have := dig_le x j
    show 0 ≤ ((dig x j : Nat) : Int) ∧ ((dig x j : Nat) : Int) ≤ 999999999
    omega
  · have h1 : x ≠ 0 := fun e => by rw [e, len_zero] at h0; omega
    have h2 := top_pos h1
    have h3 : ((dig x (len x - 1) : Nat) : Int) = 0 := he
    omega

theorem l01In_yes (x lo hi : Int) (w : World) (h1 : lo ≤ x) (h2 : x ≤ hi) :
    Calls Try.prog 129 #[.int .i64 x, .int .i64 lo, .int .i64 hi] w fun e w' => e = .returned (.bool true) ∧ w = w' := by
  go_enter Try.func129, Try.ntmps129
  go_wp2
  go_ret
  exact ⟨rfl, rfl⟩
theorem l01In_no (x lo hi : Int) (w : World) (h : x < lo ∨ hi < x) :
    Calls Try.prog 129 #[.int .i64 x, .int .i64 lo, .int .i64 hi] w fun e w' => e = .returned (.bool false) ∧ w = w' := by
  by_cases h1 : lo ≤ x
  · have h2 : ¬ x ≤ hi := by omega
    clear h
    go_enter Try.func129, Try.ntmps129
    go_wp2
    go_ret
    exact ⟨rfl, rfl⟩
  · clear h
    go_enter Try.func129, Try.ntmps129
    go_wp2
    go_ret
    exact ⟨rfl, rfl⟩
theorem within_yes (x lo hi : Int) (w : World) (h1 : lo ≤ x) (h2 : x ≤ hi) :
    Calls Try.prog 135 #[.int .i64 x, .int .i64 lo, .int .i64 hi] w fun e w' => e = .returned (.bool true) ∧ w = w' := by
  go_enter Try.func135, Try.ntmps135
  go_wp2
  go_ret
  exact ⟨rfl, rfl⟩
theorem within_no (x lo hi : Int) (w : World) (h : x < lo ∨ hi < x) :
    Calls Try.prog 135 #[.int .i64 x, .int .i64 lo, .int .i64 hi] w fun e w' => e = .returned (.bool false) ∧ w = w' := by
  by_cases h1 : lo ≤ x
  · have h2 : ¬ x ≤ hi := by omega
    clear h
    go_enter Try.func135, Try.ntmps135
    go_wp2
    go_ret
    exact ⟨rfl, rfl⟩
  · clear h
    go_enter Try.func135, Try.ntmps135
    go_wp2
    go_ret
    exact ⟨rfl, rfl⟩

def good (f : Nat → Int) (j : Nat) : Prop := 0 ≤ f j ∧ f j ≤ 999999999

set_option maxRecDepth 100000 in
set_option maxHeartbeats 400000 in
theorem specNatOk_yes (A : Option Addr) (n c : Nat) (f : Nat → Int) (lo : Nat) (w : World) (h : Row w lo A n c f) (hok : okP n f) :
    Calls Try.prog 92 #[.slice A n c] w fun e w' => e = .returned (.bool true) ∧ w = w' := by
  obtain ⟨hn, hg, ht⟩ := hok
  have Hg := Lib.hid hg
  have Ht := Lib.hid ht
  clear hg ht
  go_enter Try.func92, Try.ntmps92
  go_wp2
  go_loop [7] (fun i => ∃ k : Nat, k ≤ n ∧ i = .int .i64 (k : Int)) (fun i => n - (intOf i).toNat)
  case atStart => exact ⟨0, Nat.zero_le _, rfl⟩
  case round =>
    obtain ⟨k, hk, rfl⟩ := hrel
    by_cases hlt : k < n
    · obtain ⟨b, o, rfl, _, _, _, hc⟩ := h.2 (by omega)
      have hx := hc k hlt
      clear hc
      go_wp2_with (go_at_call 129; refine (l01In_yes _ _ _ _ (Hg.out k hlt).1 (Hg.out k hlt).2).mono ?_; rintro e w' ⟨rfl, rfl⟩)
      go_round
      case rel => exact ⟨k + 1, by omega, by go_num⟩
      case measure => simp [intOf]; omega
    · have e : k = n := by omega
      subst e
      by_cases h0 : k = 0
      · subst h0
        go_wp2
        go_ret
        exact ⟨rfl, rfl⟩
      · obtain ⟨b, o, rfl, _, _, _, hc⟩ := h.2 (by omega)
        have hx := hc (k - 1) (by omega)
        have hne : (f (k - 1) != 0) = true := by simpa using Ht.out (by omega)
        have hk0 : ((k : Int) == 0) = false := by simp; omega
        clear hc
        go_wp2
        go_ret
        exact ⟨rfl, rfl⟩
theorem okP_last {n : Nat} {f : Nat → Int} (h : ¬ okP n f) (hg : ∀ j, j < n → 0 ≤ f j ∧ f j ≤ 999999999) (hn : n ≤ 60) : 0 < n ∧ f (n - 1) = 0 := by
  by_cases h0 : 0 < n
  · by_cases h1 : f (n - 1) = 0
    · exact ⟨h0, h1⟩
    · exact absurd ⟨hn, hg, fun _ => h1⟩ h
  · exact absurd ⟨hn, hg, fun h => absurd h h0⟩ h
set_option maxRecDepth 100000 in
set_option maxHeartbeats 400000 in
theorem specNatOk_no (A : Option Addr) (n c : Nat) (f : Nat → Int) (lo : Nat) (w : World) (h : Row w lo A n c f) (hok : ¬ okP n f) (hn : n ≤ 1048576) :
    Calls Try.prog 92 #[.slice A n c] w fun e w' => e = .returned (.bool false) ∧ w = w' := by
  have Hok := Lib.hid hok
  clear hok
  go_enter Try.func92, Try.ntmps92
  go_wp2
  go_loop [7] (fun i => ∃ k : Nat, k ≤ n ∧ i = .int .i64 (k : Int) ∧ Hid (∀ j, j < k → 0 ≤ f j ∧ f j ≤ 999999999)) (fun i => n - (intOf i).toNat)
  case atStart => exact ⟨0, Nat.zero_le _, rfl, Lib.hid fun j hj => by omega⟩
  case round =>
    obtain ⟨k, hk, rfl, Hg⟩ := hrel
    by_cases hlt : k < n
    · obtain ⟨b, o, rfl, _, _, _, hc⟩ := h.2 (by omega)
      have hx := hc k hlt
      clear hc
      by_cases hgd : 0 ≤ f k ∧ f k ≤ 999999999
      · have Hgd := Lib.hid hgd
        clear hgd
        go_wp2_with (go_at_call 129; refine (l01In_yes _ _ _ _ Hgd.out.1 Hgd.out.2).mono ?_; rintro e w' ⟨rfl, rfl⟩)
        go_round
        case rel => exact ⟨k + 1, by omega, by go_num, Lib.hid fun j hj => if e : j = k then e ▸ Hgd.out else Hg.out j (by omega)⟩
        case measure => simp [intOf]; omega
      · have Hgd : Hid (f k < 0 ∨ 999999999 < f k) := Lib.hid (by omega)
        clear hgd
        go_wp2_with (go_at_call 129; refine (l01In_no _ _ _ _ Hgd.out).mono ?_; rintro e w' ⟨rfl, rfl⟩)
        go_ret
        exact ⟨rfl, rfl⟩
    · have e : k = n := by omega
      subst e
      by_cases h60 : k ≤ 60
      · obtain ⟨h0, hl⟩ := okP_last Hok.out Hg.out h60
        obtain ⟨b, o, rfl, _, _, _, hc⟩ := h.2 h0
        have hx := hc (k - 1) (by omega)
        rw [hl] at hx
        have hk0 : ((k : Int) == 0) = false := by simp; omega
        clear hc hl
        go_wp2
        go_ret
        exact ⟨rfl, rfl⟩
      · go_wp2
        go_ret
        exact ⟨rfl, rfl⟩

theorem natOkC_good (x : Int) (w : World) (h : 0 ≤ x ∧ x ≤ 999999999) :
    Calls Try.prog 134 #[.int .i64 x] w fun e w' => e = .returned (.bool false) ∧ w = w' := by
  have H := Lib.hid h
  clear h
  go_enter Try.func134, Try.ntmps134
  go_wp2_with (go_at_call 135; refine (within_yes _ _ _ _ H.out.1 H.out.2).mono ?_; rintro e w' ⟨rfl, rfl⟩)
  go_ret
  exact ⟨rfl, rfl⟩
theorem natOkC_bad (x : Int) (w : World) (h : x < 0 ∨ 999999999 < x) :
    Calls Try.prog 134 #[.int .i64 x] w fun e w' => e = .returned (.bool true) ∧ w = w' := by
  have H := Lib.hid h
  clear h
  go_enter Try.func134, Try.ntmps134
  go_wp2_with (go_at_call 135; refine (within_no _ _ _ _ H.out).mono ?_; rintro e w' ⟨rfl, rfl⟩)
  go_ret
  exact ⟨rfl, rfl⟩
def FoundAt (n : Nat) (f : Nat → Int) (r : Int) : Prop := (r = -1 ∧ ∀ j, j < n → 0 ≤ f j ∧ f j ≤ 999999999) ∨ (0 ≤ r ∧ ∃ j, j < n ∧ (f j < 0 ∨ 999999999 < f j))
set_option maxRecDepth 100000 in
set_option maxHeartbeats 400000 in
theorem indexFunc_natOk (A : Option Addr) (n c : Nat) (f : Nat → Int) (lo : Nat) (w : World) (h : Row w lo A n c f) (hn : n ≤ 1048576) :
    Calls Try.prog 160 #[.slice A n c, .func (.func 134) #[] #[]] w fun e w' => ∃ r, e = .returned (.int .i64 r) ∧ FoundAt n f r ∧ w = w' := by
  go_enter Try.func160, Try.ntmps160
  go_wp2
  go_loop [8] (fun i => ∃ k : Nat, k ≤ n ∧ i = .int .i64 (k : Int) ∧ Hid (∀ j, j < k → 0 ≤ f j ∧ f j ≤ 999999999)) (fun i => n - (intOf i).toNat)
  case atStart => exact ⟨0, Nat.zero_le _, rfl, Lib.hid fun j hj => by omega⟩
  case round =>
    obtain ⟨k, hk, rfl, Hg⟩ := hrel
    by_cases hlt : k < n
    · obtain ⟨b, o, rfl, _, _, _, hc⟩ := h.2 (by omega)
      have hx := hc k hlt
      clear hc
      by_cases hgd : 0 ≤ f k ∧ f k ≤ 999999999
      · have Hgd := Lib.hid hgd
        clear hgd
        go_wp2_with (go_at_call 134; refine (natOkC_good _ _ Hgd.out).mono ?_; rintro e w' ⟨rfl, rfl⟩)
        go_round
        case rel => exact ⟨k + 1, by omega, by go_num, Lib.hid fun j hj => if e : j = k then e ▸ Hgd.out else Hg.out j (by omega)⟩
        case measure => simp [intOf]; omega
      · have Hgd : Hid (f k < 0 ∨ 999999999 < f k) := Lib.hid (by omega)
        clear hgd
        go_wp2_with (go_at_call 134; refine (natOkC_bad _ _ Hgd.out).mono ?_; rintro e w' ⟨rfl, rfl⟩)
        go_ret
        exact ⟨_, rfl, .inr ⟨by omega, k, hlt, Hgd.out⟩, rfl⟩
    · have e : k = n := by omega
      subst e
      go_wp2
      go_ret
      exact ⟨_, rfl, .inl ⟨rfl, Hg.out⟩, rfl⟩
def allGood (n : Nat) (f : Nat → Int) : Prop := ∀ j, j < n → 0 ≤ f j ∧ f j ≤ 999999999
theorem containsFunc_good (A : Option Addr) (n c : Nat) (f : Nat → Int) (lo : Nat) (w : World) (h : Row w lo A n c f) (hn : n ≤ 1048576) (hg : allGood n f) :
    Calls Try.prog 133 #[.slice A n c, .func (.func 134) #[] #[]] w fun e w' => e = .returned (.bool false) ∧ w = w' := by
  go_enter Try.func133, Try.ntmps133
  go_wp2_with fail
  refine (indexFunc_natOk A n c f lo w h hn).mono ?_
  rintro e w' ⟨r, rfl, hr, rfl⟩
  have hr' : r < 0 := by
    rcases hr with ⟨h1, _⟩ | ⟨h1, j, hj, h2⟩
    · omega
    · have := hg j hj; omega
  clear hr
  have hd : decide (0 ≤ r) = false := by simp; omega
  go_wp2
  go_ret
  exact ⟨rfl, rfl⟩
theorem containsFunc_bad (A : Option Addr) (n c : Nat) (f : Nat → Int) (lo : Nat) (w : World) (h : Row w lo A n c f) (hn : n ≤ 1048576) (hg : ¬ allGood n f) :
    Calls Try.prog 133 #[.slice A n c, .func (.func 134) #[] #[]] w fun e w' => e = .returned (.bool true) ∧ w = w' := by
  go_enter Try.func133, Try.ntmps133
  go_wp2_with fail
  refine (indexFunc_natOk A n c f lo w h hn).mono ?_
  rintro e w' ⟨r, rfl, hr, rfl⟩
  have hr' : 0 ≤ r := by
    rcases hr with ⟨_, h1⟩ | ⟨h1, _⟩
    · exact absurd h1 hg
    · exact h1
  clear hr
  go_wp2
  go_ret
  exact ⟨rfl, rfl⟩
set_option maxRecDepth 100000 in
set_option maxHeartbeats 400000 in
theorem natOk_yes (A : Option Addr) (n c : Nat) (f : Nat → Int) (lo : Nat) (w : World) (h : Row w lo A n c f) (hok : okP n f) :
    Calls Try.prog 96 #[.slice A n c] w fun e w' => e = .returned (.bool true) ∧ w = w' := by
  obtain ⟨hn, hg, ht⟩ := hok
  have Hg : Hid (allGood n f) := Lib.hid hg
  have Ht := Lib.hid ht
  clear hg ht
  by_cases h0 : n = 0
  · subst h0
    go_enter Try.func96, Try.ntmps96
    go_wp2_with (go_at_call 133; refine (containsFunc_good A _ c f lo _ h (by omega) Hg.out).mono ?_; rintro e w' ⟨rfl, rfl⟩)
    go_ret
    exact ⟨rfl, rfl⟩
  · obtain ⟨b, o, rfl, _, _, _, hc⟩ := h.2 (by omega)
    have hx := hc (n - 1) (by omega)
    have hne : (f (n - 1) != 0) = true := by simpa using Ht.out (by omega)
    have hk0 : ((n : Int) == 0) = false := by simp; omega
    clear hc
    go_enter Try.func96, Try.ntmps96
    go_wp2_with (go_at_call 133; refine (containsFunc_good _ _ c f lo _ h (by omega) Hg.out).mono ?_; rintro e w' ⟨rfl, rfl⟩)
    go_ret
    exact ⟨rfl, rfl⟩
set_option maxRecDepth 100000 in
set_option maxHeartbeats 400000 in
theorem natOk_no (A : Option Addr) (n c : Nat) (f : Nat → Int) (lo : Nat) (w : World) (h : Row w lo A n c f) (hok : ¬ okP n f) (hn : n ≤ 1048576) :
    Calls Try.prog 96 #[.slice A n c] w fun e w' => e = .returned (.bool false) ∧ w = w' := by
  have Hok := Lib.hid hok
  clear hok
  by_cases h60 : n ≤ 60
  · by_cases hg : allGood n f
    · obtain ⟨h0, hl⟩ := okP_last Hok.out hg h60
      have Hg := Lib.hid hg
      clear hg
      obtain ⟨b, o, rfl, _, _, _, hc⟩ := h.2 h0
      have hx := hc (n - 1) (by omega)
      rw [hl] at hx
      have hk0 : ((n : Int) == 0) = false := by simp; omega
      clear hc hl
      go_enter Try.func96, Try.ntmps96
      go_wp2_with (go_at_call 133; refine (containsFunc_good _ _ c f lo _ h (by omega) Hg.out).mono ?_; rintro e w' ⟨rfl, rfl⟩)
      go_ret
      exact ⟨rfl, rfl⟩
    · have Hg := Lib.hid hg
      clear hg
      go_enter Try.func96, Try.ntmps96
      go_wp2_with (go_at_call 133; refine (containsFunc_bad _ _ c f lo _ h (by omega) Hg.out).mono ?_; rintro e w' ⟨rfl, rfl⟩)
      go_ret
      exact ⟨rfl, rfl⟩
  · go_enter Try.func96, Try.ntmps96
    go_wp2
    go_ret
    exact ⟨rfl, rfl⟩
end Go.Proofs.Ytnkeenejcpkelaa
