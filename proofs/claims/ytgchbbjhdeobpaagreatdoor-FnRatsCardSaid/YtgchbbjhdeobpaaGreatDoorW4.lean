import Derived.BigQuiet
import Derived.Deep.OwnRows
import Derived.Deep.QuietTactic
import Derived.Lib.Hide
import Derived.Test.YtgchbbjhdeobpaaGreatDoorRows
import Derived.WalkKit
import Derived.WalkLawsBesides
import Derived.WalkSpells
import Ieee.Arith
import Derived.Test.YtgchbbjhdeobpaaGreatDoorW1
import Derived.Test.YtgchbbjhdeobpaaGreatDoorW3
/- What the claim's proof reaches of: LawInts, NatA. -/
namespace Go.Proofs.YtgchbbjhdeobpaaGreatDoor
set_option linter.unusedVariables false
open Go.RowKit Num

/-- The block that a slice's elements lie in; none where there is no element. -/
def rowOf (A : Option Addr) (n : Nat) : Option Nat := if n = 0 then none else A.map (·.block)

theorem below_drewN {B : Nat} {a w : World} (h : Below B a w) (n : Nat) : Below B a (w.drewN n) := ⟨h.os, h.tape, h.output, h.size, h.block⟩

/-- Nothing old has turned: shown step by step. -/
theorem oldA {B : Nat} {a w : World} (h : Below B a w := by repeat' (first | exact Below.refl _ _ | assumption | refine below_drewN ?_ _ | refine Below.drew ?_ | refine Below.alloc ?_ (by first | omega | (simp <;> omega)) _ | refine Below.setCell ?_ (by first | (simp <;> omega) | (simp <;> done) | omega) _)) : Below B a w := h
theorem leA {a b : Nat} (h : a ≤ b := by first | exact Nat.le_refl _ | omega | (simp <;> omega)) : a ≤ b := h
/-- A call that leaves the world alone, in a quiet region of a world that has drawn before. -/
theorem quiet_again {P : Program} {f : FuncId} {args : Array Value} {w : World} {a n : Nat} {v : Value} (h : Calls P f args (w.drewN (a + n)) fun e w' => e = .returned v ∧ w' = w.drewN (a + n)) :
    Calls P f args (w.drewN (a + n)) fun e w' => e = .returned v ∧ ∃ m, w' = w.drewN (a + m) := h.mono fun _ _ h => ⟨h.1, n, h.2⟩
theorem Row.set {w : World} {lo n c b off i : Nat} {f : Nat → Int} (h : Row w lo (some ⟨b, off, none⟩) n c f) (hi : i < n) (u : Int) :
    Row (w.setCell ⟨b, off + i, none⟩ (.int .i64 u)) lo (some ⟨b, off, none⟩) n c (fun j => if j = i then u else f j) := by
  refine ⟨h.1, fun hn => ?_⟩
  obtain ⟨b', off', e, hl, hs, hf, hc⟩ := h.2 hn
  injection e with e
  injection e with e1 e2
  subst e1 e2
  refine ⟨b, off, rfl, hl, by simpa [World.setCell] using hs, fun j => (World.frozen?_setCell _ _ _ _).trans (hf j), fun j hj => ?_⟩
  show World.cell? _ _ = some (.int .i64 (if j = i then u else f j))
  by_cases e : j = i
  · subst e
    rw [if_pos rfl]
    exact World.cell?_setCell_same _ _ _ (hc j hj)
  · rw [if_neg e, World.cell?_setCell_other _ _ _ _ (by simp <;> omega)]
    exact hc j hj
theorem only_setCell {a w : World} {g : Nat} (h : a.grownBy w (some g)) {p : Addr} (hp : p.block = g) (u : Value) : a.grownBy (w.setCell p u) (some g) :=
  ⟨h.os, h.tape, h.output, by simpa [World.setCell] using h.size, fun i hi hne => (Below.heap_setCell w p u i (by
    rintro rfl
    exact hne (by rw [hp]))).trans (h.block i hi hne)⟩

end Go.Proofs.YtgchbbjhdeobpaaGreatDoor

namespace Go.Proofs.YtgchbbjhdeobpaaGreatDoor
set_option linter.unusedVariables false
open Go.RowKit Num

def okP (n : Nat) (f : Nat → Int) : Prop := n ≤ 60 ∧ (∀ j, j < n → 0 ≤ f j ∧ f j ≤ 999999999) ∧ (0 < n → f (n - 1) ≠ 0)
theorem okP_nat {n : Nat} {f : Nat → Int} (h : okP n f) : ∃ x, n = len x ∧ n ≤ 60 ∧ ∀ j, j < n → f j = digI x j := by
  obtain ⟨h1, h2, h3⟩ := h
  let l := (List.range n).map fun j => (f j).toNat
  have hg : ∀ j, j < n → l.getD j 0 = (f j).toNat := fun j hj => by simp [l, List.getD_eq_getElem?_getD, hj]
  have hl : l.length = n := by simp [l]
  have hlt : ∀ d ∈ l, d < B := by
    intro d hd
    obtain ⟨j, hj, rfl⟩ := List.mem_map.1 hd
    have := h2 j (by simpa using hj)
    rw [B_eq]; omega
  have hd := digs_of_list hlt fun hne => by
    have hn : 0 < n := by rw [← hl]; exact List.length_pos_iff.2 hne
    rw [hl, hg _ (by omega)]
    have := h3 hn
    have := h2 (n - 1) (by omega)
    omega
  have e : n = len (val l) := by rw [← digs_length, ← hd, hl]
  refine ⟨val l, e, h1, fun j hj => ?_⟩
  have h4 := hg j hj
  rw [hd, digs_getD] at h4
  have := h2 j hj
  show f j = ((dig (val l) j : Nat) : Int)
  omega
theorem okP_of {x : Nat} (h : len x ≤ 60) : okP (len x) (digI x) := by
  refine ⟨h, fun j _ => ?_, fun h0 he => ?_⟩
  · have := dig_le x j
    show 0 ≤ ((dig x j : Nat) : Int) ∧ ((dig x j : Nat) : Int) ≤ 999999999
    omega
  · have h1 : x ≠ 0 := fun e => by rw [e, len_zero] at h0; omega
    have h2 := top_pos h1
    have h3 : ((dig x (len x - 1) : Nat) : Int) = 0 := he
    omega

theorem l01In_yes (x lo hi : Int) (w : World) (h1 : lo ≤ x) (h2 : x ≤ hi) :
    Calls Tryz.prog 104 #[.int .i64 x, .int .i64 lo, .int .i64 hi] w fun e w' => e = .returned (.bool true) ∧ w = w' := by
  go_enter Tryz.func104, Tryz.ntmps104
  go_wp2
  go_ret
  exact ⟨rfl, rfl⟩
theorem l01In_no (x lo hi : Int) (w : World) (h : x < lo ∨ hi < x) :
    Calls Tryz.prog 104 #[.int .i64 x, .int .i64 lo, .int .i64 hi] w fun e w' => e = .returned (.bool false) ∧ w = w' := by
  by_cases h1 : lo ≤ x
  · have h2 : ¬ x ≤ hi := by omega
    clear h
    go_enter Tryz.func104, Tryz.ntmps104
    go_wp2
    go_ret
    exact ⟨rfl, rfl⟩
  · clear h
    go_enter Tryz.func104, Tryz.ntmps104
    go_wp2
    go_ret
    exact ⟨rfl, rfl⟩
theorem within_yes (x lo hi : Int) (w : World) (h1 : lo ≤ x) (h2 : x ≤ hi) :
    Calls Tryz.prog 89 #[.int .i64 x, .int .i64 lo, .int .i64 hi] w fun e w' => e = .returned (.bool true) ∧ w = w' := by
  go_enter Tryz.func89, Tryz.ntmps89
  go_wp2
  go_ret
  exact ⟨rfl, rfl⟩
theorem within_no (x lo hi : Int) (w : World) (h : x < lo ∨ hi < x) :
    Calls Tryz.prog 89 #[.int .i64 x, .int .i64 lo, .int .i64 hi] w fun e w' => e = .returned (.bool false) ∧ w = w' := by
  by_cases h1 : lo ≤ x
  · have h2 : ¬ x ≤ hi := by omega
    clear h
    go_enter Tryz.func89, Tryz.ntmps89
    go_wp2
    go_ret
    exact ⟨rfl, rfl⟩
  · clear h
    go_enter Tryz.func89, Tryz.ntmps89
    go_wp2
    go_ret
    exact ⟨rfl, rfl⟩

theorem okP_last {n : Nat} {f : Nat → Int} (h : ¬ okP n f) (hg : ∀ j, j < n → 0 ≤ f j ∧ f j ≤ 999999999) (hn : n ≤ 60) : 0 < n ∧ f (n - 1) = 0 := by
  by_cases h0 : 0 < n
  · by_cases h1 : f (n - 1) = 0
    · exact ⟨h0, h1⟩
    · exact absurd ⟨hn, hg, fun _ => h1⟩ h
  · exact absurd ⟨hn, hg, fun h => absurd h h0⟩ h
set_option maxRecDepth 100000 in
set_option maxHeartbeats 400000 in
theorem specNatOk_yes (A : Option Addr) (n c : Nat) (f : Nat → Int) (lo : Nat) (w : World) (h : Row w lo A n c f) (hok : okP n f) :
    Calls Tryz.prog 80 #[.slice A n c] w fun e w' => e = .returned (.bool true) ∧ w = w' := by
  obtain ⟨hn, hg, ht⟩ := hok
  have Hg := Lib.hid hg
  have Ht := Lib.hid ht
  clear hg ht
  go_enter Tryz.func80, Tryz.ntmps80
  go_wp2
  go_loop [7] (fun i => ∃ k : Nat, k ≤ n ∧ i = .int .i64 (k : Int)) (fun i => n - (intOf i).toNat)
  case atStart => exact ⟨0, Nat.zero_le _, rfl⟩
  case round =>
    obtain ⟨k, hk, rfl⟩ := hrel
    by_cases hlt : k < n
    · obtain ⟨b, o, rfl, _, _, _, hc⟩ := h.2 (by omega)
      have hx := hc k hlt
      clear hc
      go_wp2_with (go_at_call 104; refine (l01In_yes _ _ _ _ (Hg.out k hlt).1 (Hg.out k hlt).2).mono ?_; rintro e w' ⟨rfl, rfl⟩)
      go_round
      case rel => exact ⟨k + 1, by omega, by go_num⟩
      case measure => simp [intOf]; omega
    · have e : k = n := by omega
      subst e
      by_cases h0 : k = 0
      · subst h0
        go_wp2
        go_ret
        exact ⟨rfl, rfl⟩
      · obtain ⟨b, o, rfl, _, _, _, hc⟩ := h.2 (by omega)
        have hx := hc (k - 1) (by omega)
        have hne : (f (k - 1) != 0) = true := by simpa using Ht.out (by omega)
        have hk0 : ((k : Int) == 0) = false := by simp; omega
        clear hc
        go_wp2
        go_ret
        exact ⟨rfl, rfl⟩
set_option maxRecDepth 100000 in
set_option maxHeartbeats 400000 in
theorem specNatOk_no (A : Option Addr) (n c : Nat) (f : Nat → Int) (lo : Nat) (w : World) (h : Row w lo A n c f) (hok : ¬ okP n f) (hn : n ≤ 1048576) :
    Calls Tryz.prog 80 #[.slice A n c] w fun e w' => e = .returned (.bool false) ∧ w = w' := by
  have Hok := Lib.hid hok
  clear hok
  go_enter Tryz.func80, Tryz.ntmps80
  go_wp2
  go_loop [7] (fun i => ∃ k : Nat, k ≤ n ∧ i = .int .i64 (k : Int) ∧ Hid (∀ j, j < k → 0 ≤ f j ∧ f j ≤ 999999999)) (fun i => n - (intOf i).toNat)
  case atStart => exact ⟨0, Nat.zero_le _, rfl, Lib.hid fun j hj => by omega⟩
  case round =>
    obtain ⟨k, hk, rfl, Hg⟩ := hrel
    by_cases hlt : k < n
    · obtain ⟨b, o, rfl, _, _, _, hc⟩ := h.2 (by omega)
      have hx := hc k hlt
      clear hc
      by_cases hgd : 0 ≤ f k ∧ f k ≤ 999999999
      · have Hgd := Lib.hid hgd
        clear hgd
        go_wp2_with (go_at_call 104; refine (l01In_yes _ _ _ _ Hgd.out.1 Hgd.out.2).mono ?_; rintro e w' ⟨rfl, rfl⟩)
        go_round
        case rel => exact ⟨k + 1, by omega, by go_num, Lib.hid fun j hj => if e : j = k then e ▸ Hgd.out else Hg.out j (by omega)⟩
        case measure => simp [intOf]; omega
      · have Hgd : Hid (f k < 0 ∨ 999999999 < f k) := Lib.hid (by omega)
        clear hgd
        go_wp2_with (go_at_call 104; refine (l01In_no _ _ _ _ Hgd.out).mono ?_; rintro e w' ⟨rfl, rfl⟩)
        go_ret
        exact ⟨rfl, rfl⟩
    · have e : k = n := by omega
      subst e
      by_cases h60 : k ≤ 60
      · obtain ⟨h0, hl⟩ := okP_last Hok.out Hg.out h60
        obtain ⟨b, o, rfl, _, _, _, hc⟩ := h.2 h0
        have hx := hc (k - 1) (by omega)
        rw [hl] at hx
        have hk0 : ((k : Int) == 0) = false := by simp; omega
        clear hc hl
        go_wp2
        go_ret
        exact ⟨rfl, rfl⟩
      · go_wp2
        go_ret
        exact ⟨rfl, rfl⟩

theorem natOkC_good (x : Int) (w : World) (h : 0 ≤ x ∧ x ≤ 999999999) :
    Calls Tryz.prog 88 #[.int .i64 x] w fun e w' => e = .returned (.bool false) ∧ w = w' := by
  have H := Lib.hid h
  clear h
  go_enter Tryz.func88, Tryz.ntmps88
  go_wp2_with (go_at_call 89; refine (within_yes _ _ _ _ H.out.1 H.out.2).mono ?_; rintro e w' ⟨rfl, rfl⟩)
  go_ret
  exact ⟨rfl, rfl⟩
theorem natOkC_bad (x : Int) (w : World) (h : x < 0 ∨ 999999999 < x) :
    Calls Tryz.prog 88 #[.int .i64 x] w fun e w' => e = .returned (.bool true) ∧ w = w' := by
  have H := Lib.hid h
  clear h
  go_enter Tryz.func88, Tryz.ntmps88
  go_wp2_with (go_at_call 89; refine (within_no _ _ _ _ H.out).mono ?_; rintro e w' ⟨rfl, rfl⟩)
  go_ret
  exact ⟨rfl, rfl⟩
def FoundAt (n : Nat) (f : Nat → Int) (r : Int) : Prop := (r = -1 ∧ ∀ j, j < n → 0 ≤ f j ∧ f j ≤ 999999999) ∨ (0 ≤ r ∧ ∃ j, j < n ∧ (f j < 0 ∨ 999999999 < f j))
set_option maxRecDepth 100000 in
set_option maxHeartbeats 400000 in
theorem indexFunc_natOk (A : Option Addr) (n c : Nat) (f : Nat → Int) (lo : Nat) (w : World) (h : Row w lo A n c f) (hn : n ≤ 1048576) :
    Calls Tryz.prog 113 #[.slice A n c, .func (.func 88) #[] #[]] w fun e w' => ∃ r, e = .returned (.int .i64 r) ∧ FoundAt n f r ∧ w = w' := by
  go_enter Tryz.func113, Tryz.ntmps113
  go_wp2
  go_loop [8] (fun i => ∃ k : Nat, k ≤ n ∧ i = .int .i64 (k : Int) ∧ Hid (∀ j, j < k → 0 ≤ f j ∧ f j ≤ 999999999)) (fun i => n - (intOf i).toNat)
  case atStart => exact ⟨0, Nat.zero_le _, rfl, Lib.hid fun j hj => by omega⟩
  case round =>
    obtain ⟨k, hk, rfl, Hg⟩ := hrel
    by_cases hlt : k < n
    · obtain ⟨b, o, rfl, _, _, _, hc⟩ := h.2 (by omega)
      have hx := hc k hlt
      clear hc
      by_cases hgd : 0 ≤ f k ∧ f k ≤ 999999999
      · have Hgd := Lib.hid hgd
        clear hgd
        go_wp2_with (go_at_call 88; refine (natOkC_good _ _ Hgd.out).mono ?_; rintro e w' ⟨rfl, rfl⟩)
        go_round
        case rel => exact ⟨k + 1, by omega, by go_num, Lib.hid fun j hj => if e : j = k then e ▸ Hgd.out else Hg.out j (by omega)⟩
        case measure => simp [intOf]; omega
      · have Hgd : Hid (f k < 0 ∨ 999999999 < f k) := Lib.hid (by omega)
        clear hgd
        go_wp2_with (go_at_call 88; refine (natOkC_bad _ _ Hgd.out).mono ?_; rintro e w' ⟨rfl, rfl⟩)
        go_ret
        exact ⟨_, rfl, .inr ⟨by omega, k, hlt, Hgd.out⟩, rfl⟩
    · have e : k = n := by omega
      subst e
      go_wp2
      go_ret
      exact ⟨_, rfl, .inl ⟨rfl, Hg.out⟩, rfl⟩
def allGood (n : Nat) (f : Nat → Int) : Prop := ∀ j, j < n → 0 ≤ f j ∧ f j ≤ 999999999
theorem containsFunc_good (A : Option Addr) (n c : Nat) (f : Nat → Int) (lo : Nat) (w : World) (h : Row w lo A n c f) (hn : n ≤ 1048576) (hg : allGood n f) :
    Calls Tryz.prog 87 #[.slice A n c, .func (.func 88) #[] #[]] w fun e w' => e = .returned (.bool false) ∧ w = w' := by
  go_enter Tryz.func87, Tryz.ntmps87
  go_wp2_with fail
  refine (indexFunc_natOk A n c f lo w h hn).mono ?_
  rintro e w' ⟨r, rfl, hr, rfl⟩
  have hr' : r < 0 := by
    rcases hr with ⟨h1, _⟩ | ⟨h1, j, hj, h2⟩
    · omega
    · have := hg j hj; omega
  clear hr
  have hd : decide (0 ≤ r) = false := by simp; omega
  go_wp2
  go_ret
  exact ⟨rfl, rfl⟩
theorem containsFunc_bad (A : Option Addr) (n c : Nat) (f : Nat → Int) (lo : Nat) (w : World) (h : Row w lo A n c f) (hn : n ≤ 1048576) (hg : ¬ allGood n f) :
    Calls Tryz.prog 87 #[.slice A n c, .func (.func 88) #[] #[]] w fun e w' => e = .returned (.bool true) ∧ w = w' := by
  go_enter Tryz.func87, Tryz.ntmps87
  go_wp2_with fail
  refine (indexFunc_natOk A n c f lo w h hn).mono ?_
  rintro e w' ⟨r, rfl, hr, rfl⟩
  have hr' : 0 ≤ r := by
    rcases hr with ⟨_, h1⟩ | ⟨h1, _⟩
    · exact absurd h1 hg
    · exact h1
  clear hr
  go_wp2
  go_ret
  exact ⟨rfl, rfl⟩
set_option maxRecDepth 100000 in
set_option maxHeartbeats 400000 in
theorem natOk_yes (A : Option Addr) (n c : Nat) (f : Nat → Int) (lo : Nat) (w : World) (h : Row w lo A n c f) (hok : okP n f) :
    Calls Tryz.prog 60 #[.slice A n c] w fun e w' => e = .returned (.bool true) ∧ w = w' := by
  obtain ⟨hn, hg, ht⟩ := hok
  have Hg : Hid (allGood n f) := Lib.hid hg
  have Ht := Lib.hid ht
  clear hg ht
  by_cases h0 : n = 0
  · subst h0
    go_enter Tryz.func60, Tryz.ntmps60
    go_wp2_with (go_at_call 87; refine (containsFunc_good A _ c f lo _ h (by omega) Hg.out).mono ?_; rintro e w' ⟨rfl, rfl⟩)
    go_ret
    exact ⟨rfl, rfl⟩
  · obtain ⟨b, o, rfl, _, _, _, hc⟩ := h.2 (by omega)
    have hx := hc (n - 1) (by omega)
    have hne : (f (n - 1) != 0) = true := by simpa using Ht.out (by omega)
    have hk0 : ((n : Int) == 0) = false := by simp; omega
    clear hc
    go_enter Tryz.func60, Tryz.ntmps60
    go_wp2_with (go_at_call 87; refine (containsFunc_good _ _ c f lo _ h (by omega) Hg.out).mono ?_; rintro e w' ⟨rfl, rfl⟩)
    go_ret
    exact ⟨rfl, rfl⟩
set_option maxRecDepth 100000 in
set_option maxHeartbeats 400000 in
theorem natOk_no (A : Option Addr) (n c : Nat) (f : Nat → Int) (lo : Nat) (w : World) (h : Row w lo A n c f) (hok : ¬ okP n f) (hn : n ≤ 1048576) :
    Calls Tryz.prog 60 #[.slice A n c] w fun e w' => e = .returned (.bool false) ∧ w = w' := by
  have Hok := Lib.hid hok
  clear hok
  by_cases h60 : n ≤ 60
  · by_cases hg : allGood n f
    · obtain ⟨h0, hl⟩ := okP_last Hok.out hg h60
      have Hg := Lib.hid hg
      clear hg
      obtain ⟨b, o, rfl, _, _, _, hc⟩ := h.2 h0
      have hx := hc (n - 1) (by omega)
      rw [hl] at hx
      have hk0 : ((n : Int) == 0) = false := by simp; omega
      clear hc hl
      go_enter Tryz.func60, Tryz.ntmps60
      go_wp2_with (go_at_call 87; refine (containsFunc_good _ _ c f lo _ h (by omega) Hg.out).mono ?_; rintro e w' ⟨rfl, rfl⟩)
      go_ret
      exact ⟨rfl, rfl⟩
    · have Hg := Lib.hid hg
      clear hg
      go_enter Tryz.func60, Tryz.ntmps60
      go_wp2_with (go_at_call 87; refine (containsFunc_bad _ _ c f lo _ h (by omega) Hg.out).mono ?_; rintro e w' ⟨rfl, rfl⟩)
      go_ret
      exact ⟨rfl, rfl⟩
  · go_enter Tryz.func60, Tryz.ntmps60
    go_wp2
    go_ret
    exact ⟨rfl, rfl⟩
end Go.Proofs.YtgchbbjhdeobpaaGreatDoor

/-
  Comparing two natural numbers: l02Cmp, natCmp, both NatCmp's.
-/
namespace Go.Proofs.YtgchbbjhdeobpaaGreatDoor
set_option linter.unusedVariables false
open Go.RowKit Num

/-- -1, 0 or 1. -/
def cmpN (x y : Nat) : Int := if x < y then -1 else if x = y then 0 else 1
theorem cmpN_lt {x y : Nat} (h : x < y) : cmpN x y = -1 := by simp [cmpN, h]
theorem cmpN_gt {x y : Nat} (h : y < x) : cmpN x y = 1 := by simp [cmpN, show ¬ x < y from by omega, show ¬ x = y from by omega]
theorem cmpN_eq {x y : Nat} (h : x = y) : cmpN x y = 0 := by simp [cmpN, h]
theorem cmpN_nonneg {x y : Nat} : 0 ≤ cmpN x y ↔ y ≤ x := by
  unfold cmpN; split
  · omega
  · split <;> omega
theorem cmpN_nonpos {x y : Nat} : cmpN x y ≤ 0 ↔ x ≤ y := by
  unfold cmpN; split
  · omega
  · split <;> omega

theorem NatS.cell {w : World} {lo c x : Nat} {A : Option Addr} (h : NatS w lo A c x) {j : Nat} (hj : j < len x) :
    ∃ b off, A = some ⟨b, off, none⟩ ∧ w.cell? ⟨b, off + j, none⟩ = some (.int .i64 (dig x j : Int)) := by
  obtain ⟨b, off, e, _, _, _, hc⟩ := h.2 (by omega)
  exact ⟨b, off, e, hc j hj⟩
theorem div_len_eq {x y n : Nat} (hx : len x = n) (hy : len y = n) : x / B ^ n = y / B ^ n := by
  have h1 := lt_len x
  have h2 := lt_len y
  rw [hx] at h1
  rw [hy] at h2
  rw [Nat.div_eq_of_lt h1, Nat.div_eq_of_lt h2]
theorem div_zero_eq {x y : Nat} (h : x / B ^ 0 = y / B ^ 0) : x = y := by simpa using h

set_option maxRecDepth 100000 in
set_option maxHeartbeats 1000000 in
theorem l02Cmp_any (A1 A2 : Option Addr) (c1 c2 x y lo1 lo2 : Nat) (w : World) (h1 : NatS w lo1 A1 c1 x) (h2 : NatS w lo2 A2 c2 y) (hx : len x ≤ 1000) (hy : len y ≤ 1000) :
    Calls Tryz.prog 123 #[.slice A1 (len x) c1, .slice A2 (len y) c2] w fun e w' => e = .returned (.int .i64 (cmpN x y)) ∧ Old w w' := by
  by_cases hl : len x = len y
  · have Hxy := Lib.hid hl
    have He := Lib.hid (div_len_eq hl rfl)
    clear hl
    obtain ⟨n, hn1, hn2⟩ : ∃ n, Hid (len x = n) ∧ Hid (len y = n) := ⟨_, Lib.hid rfl, Lib.hid Hxy.out.symm⟩
    rw [hn1.out] at hx ⊢
    rw [hn2.out] at hy He ⊢
    clear Hxy
    go_enter Tryz.func123, Tryz.ntmps123
    go_wp2
    go_loopw [5] (fun i wr => ∃ k m : Nat, k ≤ n ∧ i = .int .i64 ((k : Int) - 1) ∧ wr = w.drewN m ∧ Hid (x / B ^ k = y / B ^ k)) (fun i _ => (intOf i + 1).toNat)
    case atStart => exact ⟨n, 0, Nat.le_refl _, rfl, rfl, He⟩
    case round =>
      obtain ⟨k, m, hk, rfl, rfl, hE⟩ := hrel
      by_cases hlt : 0 < k
      · obtain ⟨b1, o1, rfl, hc1⟩ := h1.cell (j := k - 1) (by rw [hn1.out]; omega)
        obtain ⟨b2, o2, rfl, hc2⟩ := h2.cell (j := k - 1) (by rw [hn2.out]; omega)
        have hE' : Hid (x / B ^ (k - 1 + 1) = y / B ^ (k - 1 + 1)) := by rw [show k - 1 + 1 = k by omega]; exact hE
        clear hE
        rcases Nat.lt_trichotomy (dig x (k - 1)) (dig y (k - 1)) with hd | hd | hd
        · have hr := cmpN_lt (lt_of_dig hE'.out hd)
          have Hr := Lib.hid hr
          clear hr
          go_wp2
          go_quiet (fail)
          go_wp2
          go_ret
          exact ⟨by rw [Hr.out]; rfl, (by repeat' (first | exact Old.refl _ | assumption | refine below_drewN ?_ _ | refine Below.drew ?_))⟩
        · have Hs := Lib.hid (eq_div_step hE'.out hd)
          rw [← hd] at hc2
          clear hd
          go_wp2
          go_quiet (fail)
          go_wp2
          go_quiet (fail)
          go_wp2
          go_roundw
          case rel => exact ⟨k - 1, _, by omega, by go_num, rfl, Hs⟩
          case measure => simp [intOf]; omega
        · have hr := cmpN_gt (lt_of_dig hE'.out.symm hd)
          have Hr := Lib.hid hr
          clear hr
          go_wp2
          go_quiet (fail)
          go_wp2
          go_quiet (fail)
          go_wp2
          go_ret
          exact ⟨by rw [Hr.out]; rfl, (by repeat' (first | exact Old.refl _ | assumption | refine below_drewN ?_ _ | refine Below.drew ?_))⟩
      · have hk0 : k = 0 := by omega
        subst hk0
        have Hr := Lib.hid (cmpN_eq (div_zero_eq hE.out))
        clear hE
        go_wp2
        go_ret
        exact ⟨by rw [Hr.out]; rfl, (by repeat' (first | exact Old.refl _ | assumption | refine below_drewN ?_ _ | refine Below.drew ?_))⟩
  · by_cases hlt : len x < len y
    · have Hr := Lib.hid (cmpN_lt (lt_of_len hlt))
      go_enter Tryz.func123, Tryz.ntmps123
      go_wp2
      go_ret
      exact ⟨by rw [Hr.out]; rfl, Old.refl w⟩
    · have Hr := Lib.hid (cmpN_gt (lt_of_len (by omega : len y < len x)))
      go_enter Tryz.func123, Tryz.ntmps123
      go_wp2
      go_ret
      exact ⟨by rw [Hr.out]; rfl, Old.refl w⟩
theorem compare_lt (a b : Int) (h : a < b) (w : World) :
    Calls Tryz.prog 122 #[.int .i64 a, .int .i64 b] w fun e w' => e = .returned (.int .i64 (-1)) ∧ w' = w := by
  go_enter Tryz.func122, Tryz.ntmps122
  go_wp2
  go_ret
  exact ⟨rfl, rfl⟩
theorem compare_gt (a b : Int) (h : b < a) (w : World) :
    Calls Tryz.prog 122 #[.int .i64 a, .int .i64 b] w fun e w' => e = .returned (.int .i64 1) ∧ w' = w := by
  have h2 : ¬ a < b := by omega
  go_enter Tryz.func122, Tryz.ntmps122
  go_wp2
  go_ret
  exact ⟨rfl, rfl⟩
set_option maxRecDepth 100000 in
set_option maxHeartbeats 1000000 in
theorem natCmp_any (A1 A2 : Option Addr) (c1 c2 x y lo1 lo2 : Nat) (w : World) (h1 : NatS w lo1 A1 c1 x) (h2 : NatS w lo2 A2 c2 y) (hx : len x ≤ 1000) (hy : len y ≤ 1000) :
    Calls Tryz.prog 100 #[.slice A1 (len x) c1, .slice A2 (len y) c2] w fun e w' => e = .returned (.int .i64 (cmpN x y)) ∧ Old w w' := by
  by_cases hl : len x = len y
  · have Hxy := Lib.hid hl
    have He := Lib.hid (div_len_eq hl rfl)
    clear hl
    obtain ⟨n, hn1, hn2⟩ : ∃ n, Hid (len x = n) ∧ Hid (len y = n) := ⟨_, Lib.hid rfl, Lib.hid Hxy.out.symm⟩
    rw [hn1.out] at hx ⊢
    rw [hn2.out] at hy He ⊢
    clear Hxy
    go_enter Tryz.func100, Tryz.ntmps100
    go_wp2
    go_loopw [5] (fun i wr => ∃ k m : Nat, k ≤ n ∧ i = .int .i64 ((k : Int) - 1) ∧ wr = w.drewN m ∧ Hid (x / B ^ k = y / B ^ k)) (fun i _ => (intOf i + 1).toNat)
    case atStart => exact ⟨n, 0, Nat.le_refl _, rfl, rfl, He⟩
    case round =>
      obtain ⟨k, m, hk, rfl, rfl, hE⟩ := hrel
      by_cases hlt : 0 < k
      · obtain ⟨b1, o1, rfl, hc1⟩ := h1.cell (j := k - 1) (by rw [hn1.out]; omega)
        obtain ⟨b2, o2, rfl, hc2⟩ := h2.cell (j := k - 1) (by rw [hn2.out]; omega)
        have hE' : Hid (x / B ^ (k - 1 + 1) = y / B ^ (k - 1 + 1)) := by rw [show k - 1 + 1 = k by omega]; exact hE
        clear hE
        rcases Nat.lt_trichotomy (dig x (k - 1)) (dig y (k - 1)) with hd | hd | hd
        · have Hr := Lib.hid (cmpN_lt (lt_of_dig hE'.out hd))
          have hne : (((dig x (k - 1) : Nat) : Int) != ((dig y (k - 1) : Nat) : Int)) = true := by simp; omega
          go_wp2
          go_quiet (fail)
          go_wp2
          go_quiet ((go_at_call 122; exact quiet_again (compare_lt _ _ (by omega) _)))
          go_wp2
          go_ret
          exact ⟨by rw [Hr.out]; rfl, (by repeat' (first | exact Old.refl _ | assumption | refine below_drewN ?_ _ | refine Below.drew ?_))⟩
        · have Hs := Lib.hid (eq_div_step hE'.out hd)
          rw [← hd] at hc2
          clear hd
          go_wp2
          go_quiet (fail)
          go_wp2
          go_roundw
          case rel => exact ⟨k - 1, _, by omega, by go_num, rfl, Hs⟩
          case measure => simp [intOf]; omega
        · have Hr := Lib.hid (cmpN_gt (lt_of_dig hE'.out.symm hd))
          have hne : (((dig x (k - 1) : Nat) : Int) != ((dig y (k - 1) : Nat) : Int)) = true := by simp; omega
          go_wp2
          go_quiet (fail)
          go_wp2
          go_quiet ((go_at_call 122; exact quiet_again (compare_gt _ _ (by omega) _)))
          go_wp2
          go_ret
          exact ⟨by rw [Hr.out]; rfl, (by repeat' (first | exact Old.refl _ | assumption | refine below_drewN ?_ _ | refine Below.drew ?_))⟩
      · have hk0 : k = 0 := by omega
        subst hk0
        have Hr := Lib.hid (cmpN_eq (div_zero_eq hE.out))
        clear hE
        go_wp2
        go_ret
        exact ⟨by rw [Hr.out]; rfl, (by repeat' (first | exact Old.refl _ | assumption | refine below_drewN ?_ _ | refine Below.drew ?_))⟩
  · have hne : (((len x : Nat) : Int) != ((len y : Nat) : Int)) = true := by simp; omega
    by_cases hlt : len x < len y
    · have Hr := Lib.hid (cmpN_lt (lt_of_len hlt))
      go_enter Tryz.func100, Tryz.ntmps100
      go_wp2_with (go_at_call 122; refine (compare_lt _ _ (by omega) _).mono ?_; rintro e w' ⟨rfl, rfl⟩)
      go_ret
      exact ⟨by rw [Hr.out]; rfl, Old.refl _⟩
    · have Hr := Lib.hid (cmpN_gt (lt_of_len (by omega : len y < len x)))
      go_enter Tryz.func100, Tryz.ntmps100
      go_wp2_with (go_at_call 122; refine (compare_gt _ _ (by omega) _).mono ?_; rintro e w' ⟨rfl, rfl⟩)
      go_ret
      exact ⟨by rw [Hr.out]; rfl, Old.refl _⟩
end Go.Proofs.YtgchbbjhdeobpaaGreatDoor

/-
  Cutting zeros, bounds, sums: l02Trim, trimmed, l02Cap, short, limb, l02Add, natAdd.
-/
namespace Go.Proofs.YtgchbbjhdeobpaaGreatDoor
set_option linter.unusedVariables false
open Go.RowKit Num

theorem NatS.below {w w' : World} {lo c x : Nat} {A : Option Addr} (h : NatS w lo A c x) (hb : Old w w') : NatS w' lo A c x := Row.below h hb (Nat.le_refl _)
theorem NatS.zero (w : World) (lo : Nat) (A : Option Addr) (c : Nat) : NatS w lo A c 0 := Row.zero w lo A c (digI 0)
theorem Row.drewN {w : World} {lo n c : Nat} {A : Option Addr} {f : Nat → Int} (h : Row w lo A n c f) (k : Nat) : Row (w.drewN k) lo A n c f := h
theorem own_drewN {w : World} {base n : Nat} {v : Value} {e : TypeId} {xs : List Value} (h : w.ownsRow base e 1 v n xs) (k : Nat) : (w.drewN k).ownsRow base e 1 v n xs := h
theorem trim_step {r k : Nat} (h : dig r (k - 1) = 0) (hk : len r ≤ k) (h0 : 0 < k) : len r ≤ k - 1 := by
  by_cases e : len r = k
  · have hr : r ≠ 0 := fun e' => by rw [e', len_zero] at e; omega
    have := top_pos hr
    rw [e] at this
    exact absurd h this
  · omega
theorem trim_done {r k : Nat} (h : dig r (k - 1) ≠ 0) (hk : len r ≤ k) (h0 : 0 < k) : k = len r := by
  by_cases e : len r = k
  · exact e.symm
  · exact absurd (dig_of_len (by omega)) h

set_option maxRecDepth 100000 in
set_option maxHeartbeats 1000000 in
theorem l02Trim_any (A : Option Addr) (n c r lo : Nat) (w : World) (h : Row w lo A n c (digI r)) (hr : len r ≤ n) (hn : n ≤ 1000) :
    Calls Tryz.prog 50 #[.slice A n c] w fun e w' => e = .returned (.slice A (len r) c) ∧ Old w w' := by
  have hnc := h.1
  go_enter Tryz.func50, Tryz.ntmps50
  go_wp2
  go_loopw [3] (fun i wr => ∃ k m : Nat, k ≤ n ∧ len r ≤ k ∧ i = .int .i64 (k : Int) ∧ wr = w.drewN m) (fun i _ => (intOf i).toNat)
  case atStart => exact ⟨n, 0, Nat.le_refl _, hr, rfl, rfl⟩
  case round =>
    obtain ⟨k, m, hk, hl, rfl, rfl⟩ := hrel
    by_cases h0 : 0 < k
    · obtain ⟨b, o, rfl, _, _, _, hc⟩ := h.2 (by omega)
      have hx : w.cell? ⟨b, o + (k - 1), none⟩ = some (.int .i64 ((dig r (k - 1) : Nat) : Int)) := hc (k - 1) (by omega)
      clear hc
      by_cases hd : dig r (k - 1) = 0
      · have hl2 := trim_step hd hl h0
        have hd' : (((dig r (k - 1) : Nat) : Int) == 0) = true := by simp [hd]
        clear hd
        go_wp2
        go_roundw
        case rel => exact ⟨k - 1, m, by omega, hl2, by go_num, rfl⟩
        case measure => simp [intOf]; omega
      · have he := trim_done hd hl h0
        have hd' : (((dig r (k - 1) : Nat) : Int) == 0) = false := by simp; omega
        clear hd
        have He := Lib.hid he
        clear he
        go_wp2
        go_ret
        exact ⟨by rw [← He.out]; rfl, (by repeat' (first | exact Old.refl _ | assumption | refine below_drewN ?_ _ | refine Below.drew ?_))⟩
    · have e : k = 0 := by omega
      subst e
      have e2 : len r = 0 := by omega
      have He := Lib.hid e2
      clear e2
      go_wp2
      go_ret
      exact ⟨by rw [He.out]; rfl, (by repeat' (first | exact Old.refl _ | assumption | refine below_drewN ?_ _ | refine Below.drew ?_))⟩
set_option maxRecDepth 100000 in
set_option maxHeartbeats 1000000 in
theorem trimmed_any (A : Option Addr) (n c r lo : Nat) (w : World) (h : Row w lo A n c (digI r)) (hr : len r ≤ n) (hn : n ≤ 1000) :
    Calls Tryz.prog 59 #[.slice A n c] w fun e w' => e = .returned (.slice A (len r) c) ∧ Old w w' := by
  have hnc := h.1
  go_enter Tryz.func59, Tryz.ntmps59
  go_wp2
  go_loopw [3] (fun i wr => ∃ k m : Nat, k ≤ n ∧ len r ≤ k ∧ i = .int .i64 (k : Int) ∧ wr = w.drewN m) (fun i _ => (intOf i).toNat)
  case atStart => exact ⟨n, 0, Nat.le_refl _, hr, rfl, rfl⟩
  case round =>
    obtain ⟨k, m, hk, hl, rfl, rfl⟩ := hrel
    by_cases h0 : 0 < k
    · obtain ⟨b, o, rfl, _, _, _, hc⟩ := h.2 (by omega)
      have hx : w.cell? ⟨b, o + (k - 1), none⟩ = some (.int .i64 ((dig r (k - 1) : Nat) : Int)) := hc (k - 1) (by omega)
      clear hc
      by_cases hd : dig r (k - 1) = 0
      · have hl2 := trim_step hd hl h0
        have hd' : (((dig r (k - 1) : Nat) : Int) == 0) = true := by simp [hd]
        clear hd
        go_wp2
        go_roundw
        case rel => exact ⟨k - 1, m, by omega, hl2, by go_num, rfl⟩
        case measure => simp [intOf]; omega
      · have he := trim_done hd hl h0
        have hd' : (((dig r (k - 1) : Nat) : Int) == 0) = false := by simp; omega
        clear hd
        have He := Lib.hid he
        clear he
        go_wp2
        go_ret
        exact ⟨by rw [← He.out]; rfl, (by repeat' (first | exact Old.refl _ | assumption | refine below_drewN ?_ _ | refine Below.drew ?_))⟩
    · have e : k = 0 := by omega
      subst e
      have e2 : len r = 0 := by omega
      have He := Lib.hid e2
      clear e2
      go_wp2
      go_ret
      exact ⟨by rw [He.out]; rfl, (by repeat' (first | exact Old.refl _ | assumption | refine below_drewN ?_ _ | refine Below.drew ?_))⟩

/-- A number that is not too long, or 0. -/
def capN (r : Nat) : Nat := if len r ≤ 60 then r else 0
theorem capN_len (r : Nat) : len (capN r) ≤ 60 := by unfold capN; split
                                                     · assumption
                                                     · rw [len_zero]; omega
set_option maxRecDepth 100000 in
set_option maxHeartbeats 1000000 in
theorem l02Cap_any (A : Option Addr) (n c r lo : Nat) (w : World) (h : Row w lo A n c (digI r)) (hr : len r ≤ n) (hn : n ≤ 1000) :
    Calls Tryz.prog 136 #[.slice A n c] w fun e w' => ∃ A' c', e = .returned (.slice A' (len (capN r)) c') ∧ NatS w' lo A' c' (capN r) ∧ Old w w' := by
  go_enter Tryz.func136, Tryz.ntmps136
  by_cases h60 : len r ≤ 60
  · have e : Hid (capN r = r) := Lib.hid (by rw [capN, if_pos h60])
    go_wp2_with (go_at_call 50; refine (l02Trim_any A n c r lo _ h hr hn).mono ?_; rintro e w1 ⟨rfl, o1⟩)
    go_ret
    rw [e.out]
    exact ⟨A, c, rfl, NatS.below (h.take hr) o1, o1⟩
  · have e : Hid (capN r = 0) := Lib.hid (by rw [capN, if_neg h60])
    go_wp2_with (go_at_call 50; refine (l02Trim_any A n c r lo _ h hr hn).mono ?_; rintro e w1 ⟨rfl, o1⟩)
    go_ret
    rw [e.out]
    exact ⟨none, 0, rfl, NatS.zero _ _ _ _, o1⟩
end Go.Proofs.YtgchbbjhdeobpaaGreatDoor

/-
  The sum of two natural numbers, of any length: limb, l02Add, natAdd.
-/
namespace Go.Proofs.YtgchbbjhdeobpaaGreatDoor
set_option linter.unusedVariables false
open Go.RowKit Num

theorem sumI_dig (x y k : Nat) : (((dig x k : Nat) : Int) + (dig y k : Nat) + (carry x y k : Nat)) % 1000000000 = (dig (x + y) k : Nat) := by
  have := sum_dig x y k; rw [B_eq] at this; omega
theorem sumI_carry (x y k : Nat) : (((dig x k : Nat) : Int) + (dig y k : Nat) + (carry x y k : Nat)) / 1000000000 = (carry x y (k + 1) : Nat) := by
  have := sum_carry x y k; rw [B_eq] at this; omega
theorem sum_lt {x y k : Nat} (h : k < len x ∨ k < len y ∨ 0 < carry x y k) : k < len (x + y) := lt_len_iff.2 (sum_more h)
theorem sum_len {x y k : Nat} (hx : ¬ k < len x) (hy : ¬ k < len y) (hc : ¬ 0 < carry x y k) (hk : k ≤ len (x + y)) : k = len (x + y) := by
  have := len_le_iff.2 (sum_end (x := x) (y := y) (k := k) (by omega) (by omega) (by omega))
  omega
theorem own_nat {w : World} {base r : Nat} {v : Value} (h : w.ownsRow base 3 1 v (len r) (NV (low (len r) r))) : ∃ A c, v = .slice A (len r) c ∧ NatS w base A c r := by
  obtain ⟨A, c, e, hr⟩ := own_row h
  exact ⟨A, c, e, hr.congr fun j hj => by rw [low_getD _ _ _ hj]; rfl⟩

theorem limb_any (A : Option Addr) (c x lo k : Nat) (w : World) (h : NatS w lo A c x) (hx : len x ≤ 1000) (hk : k ≤ 2000) :
    Calls Tryz.prog 103 #[.slice A (len x) c, .int .i64 (k : Int)] w fun e w' => e = .returned (.int .i64 ((dig x k : Nat) : Int)) ∧ w = w' := by
  by_cases hlt : k < len x
  · obtain ⟨b, o, rfl, hc⟩ := h.cell hlt
    go_enter Tryz.func103, Tryz.ntmps103
    go_wp2
    go_ret
    exact ⟨rfl, rfl⟩
  · have e := Lib.hid (dig_of_len (by omega : len x ≤ k))
    go_enter Tryz.func103, Tryz.ntmps103
    go_wp2
    go_ret
    exact ⟨by rw [e.out]; rfl, rfl⟩

theorem make0 (c : Nat) (hc : c ≤ 1048576) (w : World) :
    (Instr.makeSlice 22 (.int .i64 0) (.int .i64 ((c : Int) + 1))).run Tryz.prog w = .ok (.slice (some ⟨w.heap.size, 0, none⟩) 0 (c + 1)) (w.alloc (.cells (madeCells #[.int .i64 0] (c + 1)) 3)) := by
  obtain ⟨i0, hi, hz0, hz1, hz2⟩ := info_parts int_info
  have hr := run_make (P := Tryz.prog) w 22 3 i0 _ Tryz.underlying22 hi hz0 .i64 .i64 0 ((c : Int) + 1) (by omega) (by omega) (by rw [hz2]; omega) (by omega)
  rw [hz1, show ((c : Int) + 1).toNat = c + 1 by omega] at hr
  simpa [Value.cells] using hr
set_option maxRecDepth 100000 in
set_option maxHeartbeats 1000000 in
theorem natAdd_any (A1 A2 : Option Addr) (c1 c2 x y lo1 lo2 : Nat) (w : World) (h1 : NatS w lo1 A1 c1 x) (h2 : NatS w lo2 A2 c2 y) (hx : len x ≤ 500) (hy : len y ≤ 500) :
    Calls Tryz.prog 99 #[.slice A1 (len x) c1, .slice A2 (len y) c2] w fun e w' => ∃ A c, e = .returned (.slice A (len (x + y)) c) ∧ NatS w' w.heap.size A c (x + y) ∧ Old w w' := by
  have hs501 : len (x + y) ≤ 501 := by have := add_len_le x y; omega
  have hmx := fun (w : World) => make0 (len x) (by omega) w
  have hmy := fun (w : World) => make0 (len y) (by omega) w
  go_enter Tryz.func99, Tryz.ntmps99
  go_wp2_with fail
  all_goals (clear hmx hmy; try clear h)
  all_goals
    go_loopw [5, 6, 7] (fun v cr i wr => ∃ k : Nat, k ≤ len (x + y) ∧ i = .int .i64 (k : Int) ∧ cr = .int .i64 ((carry x y k : Nat) : Int) ∧ wr.ownsRow w.heap.size 3 1 v k (NV (low k (x + y))) ∧ Old w wr) (fun _ _ i _ => len (x + y) - (intOf i).toNat)
    case atStart => exact ⟨0, Nat.zero_le _, rfl, by rw [carry_zero]; rfl, World.ownsRow_made _ _ _ (Nat.le_refl _) (by simp only [maxLen]; omega) (by simp [size_madeCells]), (Old.refl w).alloc (Nat.le_refl _) _⟩
    case round =>
      obtain ⟨k, hk, rfl, rfl, hown, hb⟩ := hrel
      have hs := hb.size
      have b1 := dig_le x k
      have b2 := dig_le y k
      have b3 := carry_le x y k
      have F1 := Lib.hid (sumI_dig x y k)
      have F2 := Lib.hid (sumI_carry x y k)
      by_cases hkx : k < len x
      · have hlt := sum_lt (y := y) (.inl hkx)
        go_wp2_with fail
        refine (limb_any _ c1 x lo1 k wr (NatS.below h1 hb) (by omega) (by omega)).mono ?_
        rintro e w' ⟨rfl, rfl⟩
        go_wp2_with fail
        refine (limb_any _ c2 y lo2 k wr (NatS.below h2 hb) (by omega) (by omega)).mono ?_
        rintro e w' ⟨rfl, rfl⟩
        go_wp2_with (at_builtin; refine wpList_app1 (d := dig (x + y) k) rfl (.tmp 41) (.tmp 44) rfl rfl (hown.alloc _) rfl (cell_new1 _ _ _) ?hq ?hn ?hsz ?_; (case hq => have := F1.out; omega); (case hn => omega); (case hsz => simp; omega); intro v1 w1 hown1 hb1)
        go_roundw
        case rel => exact ⟨k + 1, by omega, by go_num, congrArg (Value.int .i64) (by have := F2.out; omega), by rw [low_succ]; exact hown1, (hb.alloc hs _).trans hb1⟩
        case measure => simp [intOf]; omega
      · by_cases hky : k < len y
        · have hlt := sum_lt (x := x) (.inr (.inl hky))
          go_wp2_with fail
          refine (limb_any _ c1 x lo1 k wr (NatS.below h1 hb) (by omega) (by omega)).mono ?_
          rintro e w' ⟨rfl, rfl⟩
          go_wp2_with fail
          refine (limb_any _ c2 y lo2 k wr (NatS.below h2 hb) (by omega) (by omega)).mono ?_
          rintro e w' ⟨rfl, rfl⟩
          go_wp2_with (at_builtin; refine wpList_app1 (d := dig (x + y) k) rfl (.tmp 41) (.tmp 44) rfl rfl (hown.alloc _) rfl (cell_new1 _ _ _) ?hq ?hn ?hsz ?_; (case hq => have := F1.out; omega); (case hn => omega); (case hsz => simp; omega); intro v1 w1 hown1 hb1)
          go_roundw
          case rel => exact ⟨k + 1, by omega, by go_num, congrArg (Value.int .i64) (by have := F2.out; omega), by rw [low_succ]; exact hown1, (hb.alloc hs _).trans hb1⟩
          case measure => simp [intOf]; omega
        · by_cases hc : 0 < carry x y k
          · have hlt := sum_lt (x := x) (y := y) (.inr (.inr hc))
            go_wp2_with fail
            refine (limb_any _ c1 x lo1 k wr (NatS.below h1 hb) (by omega) (by omega)).mono ?_
            rintro e w' ⟨rfl, rfl⟩
            go_wp2_with fail
            refine (limb_any _ c2 y lo2 k wr (NatS.below h2 hb) (by omega) (by omega)).mono ?_
            rintro e w' ⟨rfl, rfl⟩
            go_wp2_with (at_builtin; refine wpList_app1 (d := dig (x + y) k) rfl (.tmp 41) (.tmp 44) rfl rfl (hown.alloc _) rfl (cell_new1 _ _ _) ?hq ?hn ?hsz ?_; (case hq => have := F1.out; omega); (case hn => omega); (case hsz => simp; omega); intro v1 w1 hown1 hb1)
            go_roundw
            case rel => exact ⟨k + 1, by omega, by go_num, congrArg (Value.int .i64) (by have := F2.out; omega), by rw [low_succ]; exact hown1, (hb.alloc hs _).trans hb1⟩
            case measure => simp [intOf]; omega
          · have he := Lib.hid (sum_len hkx hky hc hk)
            go_wp2
            go_ret
            have he' := he.out
            subst he'
            obtain ⟨A, c, rfl, hrow⟩ := own_nat hown
            exact ⟨A, c, rfl, hrow, hb⟩
end Go.Proofs.YtgchbbjhdeobpaaGreatDoor

/-
  The difference of two natural numbers: l02Sub, natSub.
-/
namespace Go.Proofs.YtgchbbjhdeobpaaGreatDoor
set_option linter.unusedVariables false
open Go.RowKit Num

theorem own_low {w : World} {base n r : Nat} {v : Value} (h : w.ownsRow base 3 1 v n (NV (low n r))) : ∃ A c, v = .slice A n c ∧ Row w base A n c (digI r) := by
  obtain ⟨A, c, e, hr⟩ := own_row h
  exact ⟨A, c, e, hr.congr fun j hj => by rw [low_getD _ _ _ hj]; rfl⟩
theorem sub_len {x y : Nat} : len (x - y) ≤ len x := len_mono (Nat.sub_le _ _)

set_option maxRecDepth 100000 in
set_option maxHeartbeats 1000000 in
theorem l02Sub_any (A1 A2 : Option Addr) (c1 c2 x y lo1 lo2 : Nat) (w : World) (h1 : NatS w lo1 A1 c1 x) (h2 : NatS w lo2 A2 c2 y) (hx : len x ≤ 500) (hy : len y ≤ 500) (hxy : y ≤ x) :
    Calls Tryz.prog 126 #[.slice A1 (len x) c1, .slice A2 (len y) c2] w fun e w' => ∃ A c, e = .returned (.slice A (len (x - y)) c) ∧ NatS w' w.heap.size A c (x - y) ∧ Old w w' := by
  go_enter Tryz.func126, Tryz.ntmps126
  go_wp2
  go_loopw [5, 6, 12] (fun v cr i wr => ∃ k : Nat, k ≤ len x ∧ i = .int .i64 (k : Int) ∧ cr = .int .i64 ((borrow x y k : Nat) : Int) ∧ wr.ownsRow w.heap.size 3 1 v k (NV (low k (x - y))) ∧ Old w wr) (fun _ _ i _ => len x - (intOf i).toNat)
  case atStart => exact ⟨0, Nat.zero_le _, rfl, by rw [borrow_zero]; rfl, World.ownsRow_made _ _ _ (Nat.le_refl _) (by simp [maxLen]) rfl, (Old.refl w).alloc (Nat.le_refl _) _⟩
  case round =>
    obtain ⟨k, hk, rfl, rfl, hown, hb⟩ := hrel
    have hs := hb.size
    have b1 := dig_le x k
    have b2 := dig_le y k
    have b3 := borrow_le x y k
    by_cases hkx : k < len x
    · obtain ⟨a1, o1, rfl, hc1⟩ := NatS.cell (NatS.below h1 hb) hkx
      rcases diff_step k hxy with ⟨d1, d2, d3⟩ | ⟨d1, d2, d3⟩
      · have D2 := Lib.hid d2
        have D3 := Lib.hid d3
        clear d2 d3
        by_cases hky : k < len y
        · obtain ⟨a2, o2, rfl, hc2⟩ := NatS.cell (NatS.below h2 hb) hky
          go_wp2_with (at_builtin; refine wpList_app1 (d := dig (x - y) k) rfl (.tmp 35) (.tmp 37) rfl rfl (hown.alloc _) rfl (cell_new1 _ _ _) ?hq ?hn ?hsz ?_; (case hq => have := D2.out; omega); (case hn => omega); (case hsz => simp; omega); intro v1 w1 hown1 hb1)
          go_roundw
          case rel => exact ⟨k + 1, by omega, by go_num, by rw [D3.out]; rfl, by rw [low_succ]; exact hown1, (hb.alloc hs _).trans hb1⟩
          case measure => simp [intOf]; omega
        · have D := Lib.hid (dig_of_len (by omega : len y ≤ k))
          have b0 : borrow x y k ≤ dig x k := by omega
          go_wp2_with (at_builtin; refine wpList_app1 (d := dig (x - y) k) rfl (.tmp 35) (.tmp 37) rfl rfl (hown.alloc _) rfl (cell_new1 _ _ _) ?hq ?hn ?hsz ?_; (case hq => have := D2.out; have := D.out; omega); (case hn => omega); (case hsz => simp; omega); intro v1 w1 hown1 hb1)
          go_roundw
          case rel => exact ⟨k + 1, by omega, by go_num, by rw [D3.out]; rfl, by rw [low_succ]; exact hown1, (hb.alloc hs _).trans hb1⟩
          case measure => simp [intOf]; omega
      · have D2 := Lib.hid d2
        have D3 := Lib.hid d3
        clear d2 d3
        by_cases hky : k < len y
        · obtain ⟨a2, o2, rfl, hc2⟩ := NatS.cell (NatS.below h2 hb) hky
          go_wp2_with (at_builtin; refine wpList_app1 (d := dig (x - y) k) rfl (.tmp 35) (.tmp 37) rfl rfl (hown.alloc _) rfl (cell_new1 _ _ _) ?hq ?hn ?hsz ?_; (case hq => have := D2.out; rw [B_eq] at this; omega); (case hn => omega); (case hsz => simp; omega); intro v1 w1 hown1 hb1)
          go_roundw
          case rel => exact ⟨k + 1, by omega, by go_num, by rw [D3.out]; rfl, by rw [low_succ]; exact hown1, (hb.alloc hs _).trans hb1⟩
          case measure => simp [intOf]; omega
        · have D := Lib.hid (dig_of_len (by omega : len y ≤ k))
          have b0 : dig x k < borrow x y k := by have := D.out; omega
          go_wp2_with (at_builtin; refine wpList_app1 (d := dig (x - y) k) rfl (.tmp 35) (.tmp 37) rfl rfl (hown.alloc _) rfl (cell_new1 _ _ _) ?hq ?hn ?hsz ?_; (case hq => have := D.out; have := D2.out; rw [B_eq] at this; omega); (case hn => omega); (case hsz => simp; omega); intro v1 w1 hown1 hb1)
          go_roundw
          case rel => exact ⟨k + 1, by omega, by go_num, by rw [D3.out]; rfl, by rw [low_succ]; exact hown1, (hb.alloc hs _).trans hb1⟩
          case measure => simp [intOf]; omega
    · have e : k = len x := by omega
      have He := Lib.hid e
      clear e
      obtain ⟨A, c, rfl, hrow⟩ := own_low hown
      go_wp2_with (go_at_call 50; refine (l02Trim_any A k c (x - y) _ _ hrow (by have := He.out; have := sub_len (x := x) (y := y); omega) (by omega)).mono ?_; rintro e w1 ⟨rfl, o1⟩)
      go_ret
      exact ⟨A, c, rfl, NatS.below (hrow.take (by have := He.out; have := sub_len (x := x) (y := y); omega)) o1, Old.trans hb o1⟩
theorem limb_q (A : Option Addr) (c x lo k : Nat) (w : World) (h : NatS w lo A c x) (hx : len x ≤ 1000) (hk : k ≤ 2000) :
    Calls Tryz.prog 103 #[.slice A (len x) c, .int .i64 (k : Int)] w fun e w' => e = .returned (.int .i64 ((dig x k : Nat) : Int)) ∧ w' = w :=
  (limb_any A c x lo k w h hx hk).mono fun _ _ h => ⟨h.1, h.2.symm⟩
theorem make0' (c : Nat) (hc : c ≤ 1048576) (w : World) :
    (Instr.makeSlice 22 (.int .i64 0) (.int .i64 (c : Int))).run Tryz.prog w = .ok (.slice (some ⟨w.heap.size, 0, none⟩) 0 c) (w.alloc (.cells (madeCells #[.int .i64 0] c) 3)) := by
  obtain ⟨i0, hi, hz0, hz1, hz2⟩ := info_parts int_info
  have hr := run_make (P := Tryz.prog) w 22 3 i0 _ Tryz.underlying22 hi hz0 .i64 .i64 0 (c : Int) (by omega) (by omega) (by rw [hz2]; omega) (by omega)
  rw [hz1, show ((c : Int)).toNat = c by omega] at hr
  simpa [Value.cells] using hr
set_option maxRecDepth 100000 in
set_option maxHeartbeats 1000000 in
theorem natSub_any (A1 A2 : Option Addr) (c1 c2 x y lo1 lo2 : Nat) (w : World) (h1 : NatS w lo1 A1 c1 x) (h2 : NatS w lo2 A2 c2 y) (hx : len x ≤ 500) (hy : len y ≤ 500) (hxy : y ≤ x) :
    Calls Tryz.prog 101 #[.slice A1 (len x) c1, .slice A2 (len y) c2] w fun e w' => ∃ A c, e = .returned (.slice A (len (x - y)) c) ∧ NatS w' w.heap.size A c (x - y) ∧ Old w w' := by
  have hmx := fun (w : World) => make0' (len x) (by omega) w
  go_enter Tryz.func101, Tryz.ntmps101
  go_wp2
  clear hmx
  go_loopw [5, 6, 14] (fun v cr i wr => ∃ k : Nat, k ≤ len x ∧ i = .int .i64 (k : Int) ∧ cr = .int .i64 ((borrow x y k : Nat) : Int) ∧ wr.ownsRow w.heap.size 3 1 v k (NV (low k (x - y))) ∧ Old w wr) (fun _ _ i _ => len x - (intOf i).toNat)
  case atStart => exact ⟨0, Nat.zero_le _, rfl, by rw [borrow_zero]; rfl, World.ownsRow_made _ _ _ (Nat.le_refl _) (by simp only [maxLen]; omega) (by simp [size_madeCells]), (Old.refl w).alloc (Nat.le_refl _) _⟩
  case round =>
    obtain ⟨k, hk, rfl, rfl, hown, hb⟩ := hrel
    have hs := hb.size
    have b1 := dig_le x k
    have b2 := dig_le y k
    have b3 := borrow_le x y k
    by_cases hkx : k < len x
    · obtain ⟨a1, o1, rfl, hc1⟩ := NatS.cell (NatS.below h1 hb) hkx
      rcases diff_step k hxy with ⟨d1, d2, d3⟩ | ⟨d1, d2, d3⟩
      · have D2 := Lib.hid d2
        have D3 := Lib.hid d3
        clear d2 d3
        go_wp2
        go_quiet ((go_at_call 103; exact Calls.quiet_of_same (limb_q A2 c2 y lo2 k _ ((NatS.below h2 hb).drewN _) (by omega) (by omega))))
        go_wp2_with (at_builtin; refine wpList_app1 (d := dig (x - y) k) rfl (.tmp 31) (.tmp 33) rfl rfl ((own_drewN hown _).alloc _) rfl (cell_new1 _ _ _) ?hq ?hn ?hsz ?_; (case hq => have := D2.out; omega); (case hn => omega); (case hsz => simp; omega); intro v1 w1 hown1 hb1)
        go_roundw
        case rel => exact ⟨k + 1, by omega, by go_num, by rw [D3.out]; rfl, by rw [low_succ]; exact hown1, ((below_drewN hb _).alloc hs _).trans hb1⟩
        case measure => simp [intOf]; omega
      · have D2 := Lib.hid d2
        have D3 := Lib.hid d3
        clear d2 d3
        go_wp2
        go_quiet ((go_at_call 103; exact Calls.quiet_of_same (limb_q A2 c2 y lo2 k _ ((NatS.below h2 hb).drewN _) (by omega) (by omega))))
        go_wp2_with (at_builtin; refine wpList_app1 (d := dig (x - y) k) rfl (.tmp 31) (.tmp 33) rfl rfl ((own_drewN hown _).alloc _) rfl (cell_new1 _ _ _) ?hq ?hn ?hsz ?_; (case hq => have := D2.out; rw [B_eq] at this; omega); (case hn => omega); (case hsz => simp; omega); intro v1 w1 hown1 hb1)
        go_roundw
        case rel => exact ⟨k + 1, by omega, by go_num, by rw [D3.out]; rfl, by rw [low_succ]; exact hown1, ((below_drewN hb _).alloc hs _).trans hb1⟩
        case measure => simp [intOf]; omega
    · have e : k = len x := by omega
      have He := Lib.hid e
      clear e
      obtain ⟨A, c, rfl, hrow⟩ := own_low hown
      go_wp2_with (go_at_call 59; refine (trimmed_any A k c (x - y) _ _ hrow (by have := He.out; have := sub_len (x := x) (y := y); omega) (by omega)).mono ?_; rintro e w1 ⟨rfl, o1⟩)
      go_ret
      exact ⟨A, c, rfl, NatS.below (hrow.take (by have := He.out; have := sub_len (x := x) (y := y); omega)) o1, Old.trans hb o1⟩
end Go.Proofs.YtgchbbjhdeobpaaGreatDoor

/-
  The product of two natural numbers: l02Mul, natMul.
-/
namespace Go.Proofs.YtgchbbjhdeobpaaGreatDoor
set_option linter.unusedVariables false
open Go.RowKit Num

def at0 (o : List Nat) (j : Nat) : Nat := o.getD j 0
def atI (o : List Nat) : Nat → Int := fun j => ((at0 o j : Nat) : Int)
/-- What the outer loop of a product holds after i rounds. -/
structure MulOut (x y i : Nat) (o : List Nat) : Prop where
  len : o.length = Num.len x + Num.len y
  lt : ∀ d ∈ o, d < B
  eq : val o = x % B ^ i * y
/-- What the inner loop holds after k rounds. -/
structure MulMid (x y i k : Nat) (o : List Nat) (c : Nat) : Prop where
  len : o.length = Num.len x + Num.len y
  inn : MulIn x y i k o c
theorem mulOut_start (x y : Nat) : MulOut x y 0 (List.replicate (len x + len y) 0) := ⟨by simp, zeros_lt _, by rw [val_zeros]; simp [Nat.mod_one]⟩
theorem at0_zeros (n j : Nat) : at0 (List.replicate n 0) j = 0 := by
  unfold at0; rw [List.getD_eq_getElem?_getD, List.getElem?_replicate]; split <;> rfl
theorem MulOut.mid {x y i : Nat} {o : List Nat} (h : MulOut x y i o) : MulMid x y i 0 o 0 := ⟨h.len, mulIn_start h.lt h.eq⟩
theorem MulMid.at_le {x y i k c : Nat} {o : List Nat} (h : MulMid x y i k o c) (j : Nat) : at0 o j ≤ 999999999 := by
  have := getD_lt h.inn.lt j; rw [B_eq] at this; unfold at0; omega
theorem MulMid.c_le {x y i k c : Nat} {o : List Nat} (h : MulMid x y i k o c) : c ≤ 999999999 := by
  have := h.inn.cl; rw [B_eq] at this; omega
theorem dig_mul_le (x i y k : Nat) : ((dig x i : Nat) : Int) * ((dig y k : Nat) : Int) ≤ 999999998000000001 := by
  have h : dig x i * dig y k ≤ 999999999 * 999999999 := Nat.mul_le_mul (dig_le x i) (dig_le y k)
  have e : ((dig x i * dig y k : Nat) : Int) = ((dig x i : Nat) : Int) * ((dig y k : Nat) : Int) := Int.natCast_mul _ _
  omega
theorem dig_mul_ge (x i y k : Nat) : 0 ≤ ((dig x i : Nat) : Int) * ((dig y k : Nat) : Int) := by
  have e : ((dig x i * dig y k : Nat) : Int) = ((dig x i : Nat) : Int) * ((dig y k : Nat) : Int) := Int.natCast_mul _ _
  omega
def mulN (x y i k : Nat) (o : List Nat) (c : Nat) : Nat := at0 o (i + k) + dig x i * dig y k + c
theorem mulN_int (x y i k : Nat) (o : List Nat) (c : Nat) : ((at0 o (i + k) : Nat) : Int) + ((dig x i : Nat) : Int) * ((dig y k : Nat) : Int) + (c : Int) = ((mulN x y i k o c : Nat) : Int) := by
  have e : ((dig x i * dig y k : Nat) : Int) = ((dig x i : Nat) : Int) * ((dig y k : Nat) : Int) := Int.natCast_mul _ _
  unfold mulN; omega
theorem MulMid.step {x y i k c : Nat} {o : List Nat} (h : MulMid x y i k o c) (hi : i < Num.len x) (hk : k < Num.len y) :
    MulMid x y i (k + 1) (o.set (i + k) (mulN x y i k o c % 1000000000)) (mulN x y i k o c / 1000000000) := by
  have hs := mulIn_step h.inn (by rw [h.len]; omega)
  rw [B_eq] at hs
  exact ⟨by rw [List.length_set]; exact h.len, hs⟩
theorem MulMid.out {x y i c : Nat} {o : List Nat} (h : MulMid x y i (Num.len y) o c) (hi : i < Num.len x) : MulOut x y (i + 1) (o.set (i + Num.len y) c) :=
  ⟨by rw [List.length_set]; exact h.len, mulIn_at_len h.inn, mulIn_val h.inn (by rw [h.len]; omega)⟩
theorem MulMid.out0 {x y i : Nat} {o : List Nat} (h : MulMid x y i (Num.len y) o 0) : MulOut x y (i + 1) o := ⟨h.len, h.inn.lt, mulIn_done h.inn⟩
theorem MulMid.last {x y i c : Nat} {o : List Nat} (h : MulMid x y i (Num.len y) o c) : mulN x y i (Num.len y) o c % 1000000000 = c ∧ mulN x y i (Num.len y) o c / 1000000000 = 0 := by
  have hl := mulIn_last h.inn
  rw [B_eq] at hl
  exact hl
theorem at0_set (o : List Nat) (j v i : Nat) (h : j < o.length) : at0 (o.set j v) i = if i = j then v else at0 o i := getD_set o j i v h
theorem Blk.list_set {w : World} {g n : Nat} {o : List Nat} (h : Blk w g n (atI o)) (j v : Nat) (hj : j < o.length) (q : Int) (hq : q = (v : Int)) :
    Blk (w.setCell ⟨g, j, none⟩ (.int .i64 q)) g n (atI (o.set j v)) :=
  (Blk.set_ h j q).to fun i _ => by
    show (if i = j then q else atI o i) = ((at0 (o.set j v) i : Nat) : Int)
    rw [at0_set _ _ _ _ hj]
    split
    · exact hq
    · rfl
theorem MulOut.row {x y : Nat} {o : List Nat} (h : MulOut x y (Num.len x) o) {w : World} {g lo : Nat} (hB : Blk w g (Num.len x + Num.len y) (atI o)) (hg : lo ≤ g) :
    Row w lo (some ⟨g, 0, none⟩) (Num.len x + Num.len y) (Num.len x + Num.len y) (digI (x * y)) := by
  obtain ⟨e, _⟩ := mul_whole h.lt h.eq h.len
  refine (Blk.row hB hg).congr fun j hj => ?_
  show ((at0 o j : Nat) : Int) = ((dig (x * y) j : Nat) : Int)
  unfold at0
  rw [e, low_getD _ _ _ hj]
theorem makeN (c : Nat) (hc : c ≤ 1048576) (w : World) :
    (Instr.makeSlice 22 (.int .i64 (c : Int)) (.int .i64 (c : Int))).run Tryz.prog w = .ok (.slice (some ⟨w.heap.size, 0, none⟩) c c) (w.alloc (.cells (madeCells #[.int .i64 0] c) 3)) :=
  run_make_row' (P := Tryz.prog) 22 3 (.int .i64 0) 8 Tryz.underlying22 int_info rfl .i64 .i64 c (by omega) (by omega) w
theorem makeN2 (a b : Nat) (hc : a + b ≤ 1048576) (w : World) :
    (Instr.makeSlice 22 (.int .i64 ((a : Int) + (b : Int))) (.int .i64 ((a : Int) + (b : Int)))).run Tryz.prog w = .ok (.slice (some ⟨w.heap.size, 0, none⟩) (a + b) (a + b)) (w.alloc (.cells (madeCells #[.int .i64 0] (a + b)) 3)) :=
  makeN (a + b) hc w
theorem zeros_blk (w : World) (n : Nat) : Blk (w.alloc (.cells (madeCells #[.int .i64 0] n) 3)) w.heap.size n (atI (List.replicate n 0)) :=
  (World.rowIs_made _ _ _ _).congr fun j _ => by show _ = Value.int .i64 ((at0 _ j : Nat) : Int); rw [at0_zeros]; rfl

set_option maxRecDepth 100000 in
set_option maxHeartbeats 1000000 in
theorem l02Mul_any (A1 A2 : Option Addr) (c1 c2 x y lo1 lo2 : Nat) (w : World) (h1 : NatS w lo1 A1 c1 x) (h2 : NatS w lo2 A2 c2 y) (hx : len x ≤ 250) (hy : len y ≤ 250) :
    Calls Tryz.prog 127 #[.slice A1 (len x) c1, .slice A2 (len y) c2] w fun e w' => ∃ A c, e = .returned (.slice A (len (x * y)) c) ∧ NatS w' w.heap.size A c (x * y) ∧ Old w w' := by
  by_cases h0 : len x = 0 ∨ len y = 0
  · have e : x * y = 0 := by
      rcases h0 with h | h
      · rw [len_eq_zero.1 h, Nat.zero_mul]
      · rw [len_eq_zero.1 h, Nat.mul_zero]
    rw [e]
    rcases h0 with h | h
    · have hz : (((len x : Nat) : Int) == 0) = true := by simp [h]
      clear h e
      go_enter Tryz.func127, Tryz.ntmps127
      go_wp2
      go_ret
      exact ⟨none, 0, rfl, NatS.zero _ _ _ _, Old.refl w⟩
    · have hz : (((len y : Nat) : Int) == 0) = true := by simp [h]
      clear h e
      by_cases hz2 : (((len x : Nat) : Int) == 0) = true
      · go_enter Tryz.func127, Tryz.ntmps127
        go_wp2
        go_ret
        exact ⟨none, 0, rfl, NatS.zero _ _ _ _, Old.refl w⟩
      · have hz3 : (((len x : Nat) : Int) == 0) = false := by simpa using hz2
        clear hz2
        go_enter Tryz.func127, Tryz.ntmps127
        go_wp2
        go_ret
        exact ⟨none, 0, rfl, NatS.zero _ _ _ _, Old.refl w⟩
  · have hzx : (((len x : Nat) : Int) == 0) = false := by simp; omega
    have hzy : (((len y : Nat) : Int) == 0) = false := by simp; omega
    clear h0
    have hmk := fun (w : World) => makeN2 (len x) (len y) (by omega) w
    go_enter Tryz.func127, Tryz.ntmps127
    go_wp2
    clear hmk
    go_loopw [28] (fun ix wr => ∃ (i : Nat) (o : List Nat), i ≤ len x ∧ ix = .int .i64 (i : Int) ∧ MulOut x y i o ∧ Blk wr w.heap.size (len x + len y) (atI o) ∧ Old w wr) (fun ix _ => len x - (intOf ix).toNat)
    case atStart => exact ⟨0, _, Nat.zero_le _, rfl, mulOut_start x y, zeros_blk w _, (Old.refl w).alloc (Nat.le_refl _) _⟩
    case round =>
      obtain ⟨i, o, hi, rfl, hO, hB, hb⟩ := hrel
      have hs := hb.size
      by_cases hix : i < len x
      · obtain ⟨a1, o1, rfl, hc1⟩ := NatS.cell (NatS.below h1 hb) hix
        have b1 := dig_le x i
        go_wp2
        clear hc1
        obtain ⟨wo, hwo⟩ : ∃ wo : World, wo = wr := ⟨_, rfl⟩
        subst hwo
        go_loopw [8, 35] (fun cr ix wr => ∃ (k : Nat) (o : List Nat) (c : Nat), k ≤ len y ∧ ix = .int .i64 (k : Int) ∧ cr = .int .i64 (c : Int) ∧ MulMid x y i k o c ∧ Blk wr w.heap.size (len x + len y) (atI o) ∧ Old w wr) (fun _ ix _ => len y - (intOf ix).toNat)
        case atStart => exact ⟨0, o, 0, Nat.zero_le _, rfl, rfl, hO.mid, hB, hb⟩
        case round =>
          clear hB hO hb
          obtain ⟨k, o, c, hk, rfl, rfl, hM, hB, hb⟩ := hrel
          have hs := hb.size
          have b3 := hM.c_le
          by_cases hky : k < len y
          · obtain ⟨a2, o2, rfl, hc2⟩ := NatS.cell (NatS.below h2 hb) hky
            have hcell := Blk.cell hB (i + k) (by omega)
            have hfz := World.rowIs.frozen hB (i + k)
            have hcell' : wr.cell? ⟨w.heap.size, i + k, none⟩ = some (.int .i64 ((at0 o (i + k) : Nat) : Int)) := hcell
            clear hcell
            have b4 := hM.at_le (i + k)
            have p0 := dig_mul_ge x i y k
            have p1 := dig_mul_le x i y k
            have E := Lib.hid (mulN_int x y i k o c)
            go_wp2
            go_roundw
            case rel => exact ⟨k + 1, _, mulN x y i k o c / 1000000000, by omega, by go_num, congrArg (Value.int .i64) (by have := E.out; omega), hM.step hix hky, hB.list_set (i + k) (mulN x y i k o c % 1000000000) (by rw [hM.len]; omega) _ (by have := E.out; omega), hb.setCell (Nat.le_refl _) _⟩
            case measure => simp [intOf]; omega
          · have e : k = len y := by omega
            subst e
            have hcell := Blk.cell hB (i + len y) (by omega)
            have hfz := World.rowIs.frozen hB (i + len y)
            have hcell' : wr.cell? ⟨w.heap.size, i + len y, none⟩ = some (.int .i64 ((at0 o (i + len y) : Nat) : Int)) := hcell
            clear hcell
            go_wp2
            go_roundw
            case rel => exact ⟨i + 1, _, by omega, by go_num, hM.out hix, hB.list_set (i + len y) c (by rw [hM.len]; omega) _ rfl, hb.setCell (Nat.le_refl _) _⟩
            case measure => simp [intOf]; omega
      · have e : i = len x := by omega
        subst e
        have hrow := hO.row hB (Nat.le_refl _)
        have hml := mul_len_le x y
        go_wp2_with (go_at_call 50; refine (l02Trim_any _ _ _ (x * y) _ _ hrow hml (by omega)).mono ?_; rintro e w1 ⟨rfl, o1⟩)
        go_ret
        exact ⟨_, _, rfl, NatS.below (hrow.take hml) o1, Old.trans hb o1⟩
set_option maxRecDepth 100000 in
set_option maxHeartbeats 1000000 in
theorem natMul_any (A1 A2 : Option Addr) (c1 c2 x y lo1 lo2 : Nat) (w : World) (h1 : NatS w lo1 A1 c1 x) (h2 : NatS w lo2 A2 c2 y) (hx : len x ≤ 250) (hy : len y ≤ 250) :
    Calls Tryz.prog 75 #[.slice A1 (len x) c1, .slice A2 (len y) c2] w fun e w' => ∃ A c, e = .returned (.slice A (len (x * y)) c) ∧ NatS w' w.heap.size A c (x * y) ∧ Old w w' := by
  have hmk := fun (w : World) => makeN2 (len x) (len y) (by omega) w
  go_enter Tryz.func75, Tryz.ntmps75
  go_wp2
  clear hmk
  go_loopw [19] (fun ix wr => ∃ (i : Nat) (o : List Nat), i ≤ len x ∧ ix = .int .i64 (i : Int) ∧ MulOut x y i o ∧ Blk wr w.heap.size (len x + len y) (atI o) ∧ Old w wr) (fun ix _ => len x - (intOf ix).toNat)
  case atStart => exact ⟨0, _, Nat.zero_le _, rfl, mulOut_start x y, zeros_blk w _, (Old.refl w).alloc (Nat.le_refl _) _⟩
  case round =>
    obtain ⟨i, o, hi, rfl, hO, hB, hb⟩ := hrel
    have hs := hb.size
    by_cases hix : i < len x
    · obtain ⟨a1, o1, rfl, hc1⟩ := NatS.cell (NatS.below h1 hb) hix
      have b1 := dig_le x i
      go_wp2
      clear hc1
      obtain ⟨wo, hwo⟩ : ∃ wo : World, wo = wr := ⟨_, rfl⟩
      subst hwo
      go_loopw [8, 9] (fun cr ix wr => ∃ (k : Nat) (o : List Nat) (c : Nat), ix = .int .i64 (k : Int) ∧ cr = .int .i64 (c : Int) ∧ ((k ≤ len y ∧ MulMid x y i k o c) ∨ (k = len y + 1 ∧ c = 0 ∧ MulOut x y (i + 1) o)) ∧ Blk wr w.heap.size (len x + len y) (atI o) ∧ Old w wr) (fun _ ix _ => len y + 1 - (intOf ix).toNat)
      case atStart => exact ⟨0, o, 0, rfl, rfl, .inl ⟨Nat.zero_le _, hO.mid⟩, hB, hb⟩
      case round =>
        clear hB hO hb
        obtain ⟨k, o, c, rfl, rfl, hM, hB, hb⟩ := hrel
        have hs := hb.size
        rcases hM with ⟨hk, hM⟩ | ⟨hk, hc, hO⟩
        · have b3 := hM.c_le
          have p0 := dig_mul_ge x i y k
          have p1 := dig_mul_le x i y k
          have b4 := hM.at_le (i + k)
          have E := Lib.hid (mulN_int x y i k o c)
          by_cases hky : k < len y
          · have hcell := Blk.cell hB (i + k) (by omega)
            have hfz := World.rowIs.frozen hB (i + k)
            have hcell' : wr.cell? ⟨w.heap.size, i + k, none⟩ = some (.int .i64 ((at0 o (i + k) : Nat) : Int)) := hcell
            clear hcell
            go_wp2
            go_quiet ((go_at_call 103; exact Calls.quiet_of_same (limb_q A2 c2 y lo2 k _ ((NatS.below h2 hb).drewN _) (by omega) (by omega))))
            go_wp2
            go_roundw
            case rel => exact ⟨k + 1, _, mulN x y i k o c / 1000000000, by go_num, congrArg (Value.int .i64) (by have := E.out; omega), .inl ⟨by omega, hM.step hix hky⟩, Blk.list_set (Blk.drewN hB _) (i + k) (mulN x y i k o c % 1000000000) (by rw [hM.len]; omega) _ (by have := E.out; omega), (below_drewN hb _).setCell (Nat.le_refl _) _⟩
            case measure => simp [intOf]; omega
          · have e : k = len y := by omega
            by_cases hc0 : 0 < c
            · have hcell := Blk.cell hB (i + k) (by omega)
              have hfz := World.rowIs.frozen hB (i + k)
              have hcell' : wr.cell? ⟨w.heap.size, i + k, none⟩ = some (.int .i64 ((at0 o (i + k) : Nat) : Int)) := hcell
              clear hcell
              have He := Lib.hid e
              clear e
              have hml : mulN x y i k o c % 1000000000 = c ∧ mulN x y i k o c / 1000000000 = 0 := by have := He.out; subst this; exact hM.last
              have Hml := Lib.hid hml
              clear hml
              go_wp2
              go_quiet ((go_at_call 103; exact Calls.quiet_of_same (limb_q A2 c2 y lo2 k _ ((NatS.below h2 hb).drewN _) (by omega) (by omega))))
              go_wp2
              go_roundw
              case rel => exact ⟨k + 1, o.set (i + k) c, 0, by go_num, congrArg (Value.int .i64) (by have := E.out; have := Hml.out.2; omega), .inr ⟨by have := He.out; omega, rfl, by have := He.out; subst this; exact hM.out hix⟩, Blk.list_set (Blk.drewN hB _) (i + k) c (by rw [hM.len]; omega) _ (by have := E.out; have := Hml.out.1; omega), (below_drewN hb _).setCell (Nat.le_refl _) _⟩
              case measure => simp [intOf]; have := He.out; omega
            · have e0 : c = 0 := by omega
              subst e0
              clear E p0 p1 b4
              subst e
              go_wp2
              go_roundw
              case rel => exact ⟨i + 1, _, by omega, by go_num, hM.out0, hB, hb⟩
              case measure => simp [intOf]; omega
        · subst hk
          subst hc
          go_wp2
          go_roundw
          case rel => exact ⟨i + 1, _, by omega, by go_num, hO, hB, hb⟩
          case measure => simp [intOf]; omega
    · have e : i = len x := by omega
      subst e
      have hrow := hO.row hB (Nat.le_refl _)
      have hml := mul_len_le x y
      go_wp2_with (go_at_call 59; refine (trimmed_any _ _ _ (x * y) _ _ hrow hml (by omega)).mono ?_; rintro e w1 ⟨rfl, o1⟩)
      go_ret
      exact ⟨_, _, rfl, NatS.below (hrow.take hml) o1, Old.trans hb o1⟩
end Go.Proofs.YtgchbbjhdeobpaaGreatDoor

/-
  The exported functions on natural numbers, the program's and the reference's: each returns the same number.
-/
namespace Go.Proofs.YtgchbbjhdeobpaaGreatDoor
set_option linter.unusedVariables false
open Go.RowKit Num
open Classical in
/-- The number that a list of limbs is. -/
noncomputable def natX (n : Nat) (f : Nat → Int) : Nat := if h : okP n f then (okP_nat h).choose else 0
theorem natX_spec {n : Nat} {f : Nat → Int} (h : okP n f) : n = len (natX n f) ∧ n ≤ 60 ∧ ∀ j, j < n → f j = digI (natX n f) j := by
  unfold natX; rw [dif_pos h]; exact (okP_nat h).choose_spec
theorem row_nat {w : World} {lo n c : Nat} {A : Option Addr} {f : Nat → Int} (h : Row w lo A n c f) (hok : okP n f) : ∃ x, n = len x ∧ len x ≤ 60 ∧ natX n f = x ∧ NatS w lo A c x := by
  obtain ⟨h1, h2, h3⟩ := natX_spec hok
  have key : ∀ x, n = len x → (∀ j, j < n → f j = digI x j) → NatS w lo A c x := by
    intro x e h3
    subst e
    exact h.congr h3
  exact ⟨natX n f, h1, by omega, rfl, key _ h1 h3⟩
/-- A call that returns a natural number in new memory. -/
def RetN (e : Ending) (w : World) (lo r : Nat) : Prop := ∃ A c, e = .returned (.slice A (len r) c) ∧ NatS w lo A c r
open Classical in
noncomputable def rNatOk (n : Nat) (f : Nat → Int) : Bool := decide (okP n f)
theorem rNatOk_yes {n : Nat} {f : Nat → Int} (h : okP n f) : rNatOk n f = true := by simp [rNatOk, h]
theorem rNatOk_no {n : Nat} {f : Nat → Int} (h : ¬ okP n f) : rNatOk n f = false := by simp [rNatOk, h]
theorem impl_NatOk (A : Option Addr) (n c lo : Nat) (f : Nat → Int) (w : World) (h : Row w lo A n c f) (hn : n ≤ 1048576) :
    Calls Tryz.prog 60 #[.slice A n c] w fun e w' => e = .returned (.bool (rNatOk n f)) ∧ Old w w' := by
  by_cases k : okP n f
  · rw [rNatOk_yes k]; exact (natOk_yes A n c f lo w h k).mono fun _ _ h => ⟨h.1, h.2 ▸ Old.refl _⟩
  · rw [rNatOk_no k]; exact (natOk_no A n c f lo w h k hn).mono fun _ _ h => ⟨h.1, h.2 ▸ Old.refl _⟩
end Go.Proofs.YtgchbbjhdeobpaaGreatDoor

/-
  Between ints and natural numbers: natOf, both NatOf's, natTo, both NatToInt's.
-/
namespace Go.Proofs.YtgchbbjhdeobpaaGreatDoor
set_option linter.unusedVariables false
open Go.RowKit Num

theorem natOf_step {q : Int} {x k : Nat} (h : q = ((x / B ^ k : Nat) : Int)) : q / 1000000000 = ((x / B ^ (k + 1) : Nat) : Int) := by
  have e : x / B ^ (k + 1) = x / B ^ k / 1000000000 := by rw [Nat.div_div_eq_div_mul, Nat.pow_succ, B_eq]
  rw [e]; omega
theorem natOf_dig {q : Int} {x k : Nat} (h : q = ((x / B ^ k : Nat) : Int)) : q % 1000000000 = (dig x k : Int) := by
  have e : dig x k = x / B ^ k % 1000000000 := by rw [dig, B_eq]
  rw [e]; omega
theorem natOf_pos {q : Int} {x k : Nat} (h : q = ((x / B ^ k : Nat) : Int)) (hq : 0 < q) : k < len x := by
  have h0 : 0 < x / B ^ k := by generalize x / B ^ k = t at h; omega
  have := (Nat.le_div_iff_mul_le (pow_pos k)).1 h0
  exact lt_len_iff.2 (by omega)
theorem natOf_zero {q : Int} {x k : Nat} (h : q = ((x / B ^ k : Nat) : Int)) (hq : ¬ 0 < q) (hk : k ≤ len x) : k = len x := by
  have h0 : x / B ^ k = 0 := by generalize x / B ^ k = t at h; omega
  have h1 : x < B ^ k := (Nat.div_eq_zero_iff.1 h0).resolve_left (by have := pow_pos k; omega)
  have := len_le_iff.2 h1
  omega
theorem len_le3 {x : Nat} (hx : x ≤ 9223372036854775807) : len x ≤ 3 := len_le_iff.2 (by rw [B_eq]; omega)
def rNatOf (a : Int) : Nat := if a ≤ 9223372036854775807 then a.toNat else 0
theorem rNatOf_le (a : Int) : rNatOf a ≤ 9223372036854775807 := by unfold rNatOf; split <;> omega
theorem rNatOf_len (a : Int) : len (rNatOf a) ≤ 60 := by have := len_le3 (rNatOf_le a); omega

set_option maxRecDepth 100000 in
set_option maxHeartbeats 1000000 in
theorem natOf_any (a : Int) (w : World) (b : -9223372036854775808 ≤ a ∧ a ≤ 9223372036854775807) :
    Calls Tryz.prog 114 #[.int .i64 a] w fun e w' => RetN e w' w.heap.size (rNatOf a) ∧ Old w w' := by
  have hl3 := len_le3 (rNatOf_le a)
  have hr : rNatOf a = a.toNat := if_pos b.2
  have Hr := Lib.hid hr
  have Hb := Lib.hid b
  clear hr b
  go_enter Tryz.func114, Tryz.ntmps114
  go_wp2
  go_loopw [0, 3] (fun n v wr => ∃ (k : Nat) (q : Int), q ≤ 9223372036854775807 ∧ -9223372036854775808 ≤ q ∧ k ≤ len (rNatOf a) ∧ n = .int .i64 q ∧ Hid ((q < 0 ∧ rNatOf a = 0) ∨ q = ((rNatOf a / B ^ k : Nat) : Int)) ∧ wr.ownsRow w.heap.size 3 1 v k (NV (low k (rNatOf a))) ∧ Old w wr) (fun n _ _ => (intOf n).toNat)
  case atStart =>
    refine ⟨0, a, Hb.out.2, Hb.out.1, Nat.zero_le _, rfl, Lib.hid ?_, World.ownsRow_made _ _ _ (Nat.le_refl _) (by simp [maxLen]) rfl, (Old.refl w).alloc (Nat.le_refl _) _⟩
    by_cases h : a < 0
    · exact .inl ⟨h, by rw [Hr.out]; omega⟩
    · exact .inr (by rw [Hr.out]; simp; omega)
  case round =>
    obtain ⟨k, q, hq1, hq0, hk, rfl, hq, hown, hb⟩ := hrel
    by_cases hpos : 0 < q
    · have hq2 : Hid (q = ((rNatOf a / B ^ k : Nat) : Int)) := Lib.hid (hq.out.resolve_left (by omega))
      have hkl := natOf_pos hq2.out hpos
      have hs := hb.size
      go_wp2_with (at_builtin; refine wpList_app1 rfl (.tmp 9) (.tmp 12) rfl rfl (hown.alloc _) rfl (cell_new1 _ _ _) (natOf_dig hq2.out) (by omega) ?hsz ?_; (case hsz => simp; omega); intro v1 w1 hown1 hb1)
      go_roundw
      case rel => exact ⟨k + 1, q / 1000000000, by omega, by omega, by omega, rfl, Lib.hid (.inr (natOf_step hq2.out)), by rw [low_succ]; exact hown1, (hb.alloc hs _).trans hb1⟩
      case measure => simp [intOf]; omega
    · have hkl : Hid (k = len (rNatOf a)) := Lib.hid (by
        rcases hq.out with ⟨_, h⟩ | h
        · rw [h, len_zero] at hk ⊢; omega
        · exact natOf_zero h hpos hk)
      go_wp2
      go_ret
      have e := hkl.out
      subst e
      obtain ⟨A, c, rfl, hrow⟩ := own_nat hown
      exact ⟨⟨A, c, rfl, hrow⟩, hb⟩
set_option maxRecDepth 100000 in
set_option maxHeartbeats 1000000 in
theorem spec_NatOf (a : Int) (w : World) (b : -9223372036854775808 ≤ a ∧ a ≤ 9223372036854775807) :
    Calls Tryz.prog 121 #[.int .i64 a] w fun e w' => RetN e w' w.heap.size (rNatOf a) ∧ Old w w' := by
  have hl3 := len_le3 (rNatOf_le a)
  have hr : rNatOf a = a.toNat := if_pos b.2
  have Hr := Lib.hid hr
  have Hb := Lib.hid b
  clear hr b
  go_enter Tryz.func121, Tryz.ntmps121
  go_wp2
  go_loopw [0, 3] (fun n v wr => ∃ (k : Nat) (q : Int), q ≤ 9223372036854775807 ∧ -9223372036854775808 ≤ q ∧ k ≤ len (rNatOf a) ∧ n = .int .i64 q ∧ Hid ((q < 0 ∧ rNatOf a = 0) ∨ q = ((rNatOf a / B ^ k : Nat) : Int)) ∧ wr.ownsRow w.heap.size 3 1 v k (NV (low k (rNatOf a))) ∧ Old w wr) (fun n _ _ => (intOf n).toNat)
  case atStart =>
    refine ⟨0, a, Hb.out.2, Hb.out.1, Nat.zero_le _, rfl, Lib.hid ?_, World.ownsRow_made _ _ _ (Nat.le_refl _) (by simp [maxLen]) rfl, (Old.refl w).alloc (Nat.le_refl _) _⟩
    by_cases h : a < 0
    · exact .inl ⟨h, by rw [Hr.out]; omega⟩
    · exact .inr (by rw [Hr.out]; simp; omega)
  case round =>
    obtain ⟨k, q, hq1, hq0, hk, rfl, hq, hown, hb⟩ := hrel
    by_cases hpos : 0 < q
    · have hq2 : Hid (q = ((rNatOf a / B ^ k : Nat) : Int)) := Lib.hid (hq.out.resolve_left (by omega))
      have hkl := natOf_pos hq2.out hpos
      have hs := hb.size
      go_wp2_with (at_builtin; refine wpList_app1 rfl (.tmp 7) (.tmp 10) rfl rfl (hown.alloc _) rfl (cell_new1 _ _ _) (natOf_dig hq2.out) (by omega) ?hsz ?_; (case hsz => simp; omega); intro v1 w1 hown1 hb1)
      go_roundw
      case rel => exact ⟨k + 1, q / 1000000000, by omega, by omega, by omega, rfl, Lib.hid (.inr (natOf_step hq2.out)), by rw [low_succ]; exact hown1, (hb.alloc hs _).trans hb1⟩
      case measure => simp [intOf]; omega
    · have hkl : Hid (k = len (rNatOf a)) := Lib.hid (by
        rcases hq.out with ⟨_, h⟩ | h
        · rw [h, len_zero] at hk ⊢; omega
        · exact natOf_zero h hpos hk)
      go_wp2
      go_ret
      have e := hkl.out
      subst e
      obtain ⟨A, c, rfl, hrow⟩ := own_nat hown
      exact ⟨⟨A, c, rfl, hrow⟩, hb⟩

def toIntV (x : Nat) : Int := if x ≤ 9223372036854775807 then (x : Int) else 0
def toIntB (x : Nat) : Bool := decide (x ≤ 9223372036854775807)
theorem toInt_yes {x : Nat} (h : x ≤ 9223372036854775807) : toIntV x = x ∧ toIntB x = true := ⟨if_pos h, by simp [toIntB, h]⟩
theorem toInt_no {x : Nat} (h : ¬ x ≤ 9223372036854775807) : toIntV x = 0 ∧ toIntB x = false := ⟨if_neg h, by simp [toIntB]; omega⟩
theorem div_le_self' (x k : Nat) : x / B ^ k ≤ x := Nat.div_le_self _ _
theorem natTo_next {x k : Nat} {q : Int} (h : q = ((x / B ^ k : Nat) : Int)) (hk : 0 < k) : q * 1000000000 + ((dig x (k - 1) : Nat) : Int) = ((x / B ^ (k - 1) : Nat) : Int) := by
  have e := div_pow_succ x (k - 1)
  rw [show k - 1 + 1 = k by omega] at e
  subst h
  generalize x / B ^ (k - 1) = t at e ⊢
  generalize x / B ^ k = u at e ⊢
  rw [B_eq] at e
  omega
noncomputable def rNatToInt0 (n : Nat) (f : Nat → Int) : Int := if rNatOk n f then toIntV (natX n f) else 0
noncomputable def rNatToInt1 (n : Nat) (f : Nat → Int) : Bool := rNatOk n f && toIntB (natX n f)
theorem len_max : len 9223372036854775807 = 3 := len_eq (by rw [B_eq]; omega) (fun _ => by rw [B_eq]; omega)
theorem max_row (w : World) (lo : Nat) (hl : lo ≤ w.heap.size) : NatS (w.alloc (.cells #[.int .i64 854775807, .int .i64 223372036, .int .i64 9] 3)) lo (some ⟨w.heap.size, 0, none⟩) 3 9223372036854775807 := by
  refine ⟨by rw [len_max]; omega, fun _ => ⟨w.heap.size, 0, rfl, hl, by simp, fun j => World.frozen?_alloc_at _ _ _ _ rfl, fun j hj => ?_⟩⟩
  rw [len_max] at hj
  rw [World.cell?_alloc_at _ _ _ _ rfl]
  have e0 : dig 9223372036854775807 0 = 854775807 := by unfold dig; rw [B_eq]
  have e1 : dig 9223372036854775807 1 = 223372036 := by unfold dig; rw [B_eq]
  have e2 : dig 9223372036854775807 2 = 9 := by unfold dig; rw [B_eq]
  match j, hj with
  | 0, _ => show some _ = some (Value.int .i64 ((dig 9223372036854775807 0 : Nat) : Int)); rw [e0]; rfl
  | 1, _ => show some _ = some (Value.int .i64 ((dig 9223372036854775807 1 : Nat) : Int)); rw [e1]; rfl
  | 2, _ => show some _ = some (Value.int .i64 ((dig 9223372036854775807 2 : Nat) : Int)); rw [e2]; rfl
theorem cmp_max (A : Option Addr) (c x lo : Nat) (w : World) (h : NatS w lo A c x) (hx : len x ≤ 1000) :
    Calls Tryz.prog 123 #[.slice A (len x) c, .slice (some ⟨w.heap.size, 0, none⟩) 3 3] (w.alloc (.cells #[.int .i64 854775807, .int .i64 223372036, .int .i64 9] 3)) fun e w' => e = .returned (.int .i64 (cmpN x 9223372036854775807)) ∧ Old w w' := by
  have o : Old w (w.alloc (.cells #[.int .i64 854775807, .int .i64 223372036, .int .i64 9] 3)) := (Old.refl w).alloc (Nat.le_refl _) _
  have h1 := l02Cmp_any A (some ⟨w.heap.size, 0, none⟩) c 3 x 9223372036854775807 lo 0 _ (NatS.below h o) (max_row w 0 (Nat.zero_le _)) hx (by rw [len_max]; omega)
  rw [len_max] at h1
  exact h1.mono fun e w' h => ⟨h.1, Old.trans o h.2⟩
set_option maxRecDepth 100000 in
set_option maxHeartbeats 1000000 in
theorem spec_NatToInt (A : Option Addr) (n c lo : Nat) (f : Nat → Int) (w : World) (h : Row w lo A n c f) (hn : n ≤ 1048576) :
    Calls Tryz.prog 105 #[.slice A n c] w fun e w' => e = .returned (.tuple #[.int .i64 (rNatToInt0 n f), .bool (rNatToInt1 n f)]) ∧ Old w w' := by
  by_cases k : okP n f
  · obtain ⟨x, e1, hx, v1, s1⟩ := row_nat h k
    have Hr : Hid (rNatToInt0 n f = toIntV x ∧ rNatToInt1 n f = toIntB x) := Lib.hid (by unfold rNatToInt0 rNatToInt1; rw [rNatOk_yes k, v1]; simp)
    have E1 := Lib.hid e1
    clear e1 v1
    rw [Hr.out.1, Hr.out.2]
    clear Hr
    obtain rfl := E1.out
    clear E1
    by_cases hle : x ≤ 9223372036854775807
    · have Hv := Lib.hid (toInt_yes hle)
      rw [Hv.out.1, Hv.out.2]
      have hc : ¬ 0 < cmpN x 9223372036854775807 := by have := (@cmpN_nonpos x 9223372036854775807).2 hle; omega
      have H0 := Lib.hid (show x / B ^ len x = 0 from Nat.div_eq_of_lt (lt_len x))
      have Hle := Lib.hid hle
      clear hle
      go_enter Tryz.func105, Tryz.ntmps105
      go_wp2_with fail
      refine (specNatOk_yes A _ c f _ _ h k).mono ?_
      rintro e w' ⟨rfl, rfl⟩
      go_wp2_with fail
      refine (cmp_max A c x _ _ s1 (by omega)).mono ?_
      rintro e w1 ⟨rfl, o1⟩
      go_wp2
      go_loop [4, 5] (fun n i => ∃ (k : Nat) (q : Int), k ≤ len x ∧ i = .int .i64 ((k : Int) - 1) ∧ 0 ≤ q ∧ q ≤ 9223372036854775807 ∧ n = .int .i64 q ∧ Hid (q = ((x / B ^ k : Nat) : Int))) (fun _ i => (intOf i + 1).toNat)
      case atStart => exact ⟨len x, 0, Nat.le_refl _, rfl, by omega, by omega, rfl, Lib.hid (by rw [H0.out]; rfl)⟩
      case round =>
        obtain ⟨k, q, hk, rfl, hq0, hq1, rfl, hq⟩ := hrel
        by_cases hpos : 0 < k
        · obtain ⟨b, o, rfl, hc⟩ := NatS.cell (NatS.below s1 o1) (j := k - 1) (by omega)
          have hd := dig_le x (k - 1)
          have Hn := Lib.hid (natTo_next hq.out hpos)
          have hfit : q * 1000000000 + ((dig x (k - 1) : Nat) : Int) ≤ 9223372036854775807 := by
            have e := Hn.out
            have l := div_le_self' x (k - 1)
            have := Hle.out
            generalize x / B ^ (k - 1) = t at e l
            omega
          go_wp2
          go_round
          case rel => exact ⟨k - 1, _, by omega, by go_num, by omega, hfit, rfl, Hn⟩
          case measure => simp [intOf]; omega
        · have e : k = 0 := by omega
          subst e
          have Hx : Hid (q = (x : Int)) := Lib.hid (by have := hq.out; simpa using this)
          go_wp2
          go_ret2
          exact ⟨by rw [← Hx.out]; rfl, o1⟩
    · have Hv := Lib.hid (toInt_no hle)
      rw [Hv.out.1, Hv.out.2]
      have hc : 0 < cmpN x 9223372036854775807 := by
        have := @cmpN_nonpos x 9223372036854775807
        omega
      clear hle
      go_enter Tryz.func105, Tryz.ntmps105
      go_wp2_with fail
      refine (specNatOk_yes A _ c f _ _ h k).mono ?_
      rintro e w' ⟨rfl, rfl⟩
      go_wp2_with fail
      refine (cmp_max A c x _ _ s1 (by omega)).mono ?_
      rintro e w1 ⟨rfl, o1⟩
      go_wp2
      go_ret2
      exact ⟨rfl, o1⟩
  · have Hr : Hid (rNatToInt0 n f = 0 ∧ rNatToInt1 n f = false) := Lib.hid (by unfold rNatToInt0 rNatToInt1; rw [rNatOk_no k]; simp)
    rw [Hr.out.1, Hr.out.2]
    go_enter Tryz.func105, Tryz.ntmps105
    go_wp2_with fail
    refine (specNatOk_no A n c f _ _ h k hn).mono ?_
    rintro e w' ⟨rfl, rfl⟩
    go_wp2
    go_ret2
    exact ⟨rfl, Old.refl _⟩
end Go.Proofs.YtgchbbjhdeobpaaGreatDoor
