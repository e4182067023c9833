import Derived.Test.YtkoebpoejafgnaaDoorText
import Derived.Test.YtkoebpoejafgnaaDoorNatA
/-
  Names: both IsName's.
-/
namespace Go.Proofs.YtkoebpoejafgnaaDoor
set_option linter.unusedVariables false
open Go.RowKit

def nameC (k : Nat) (c : Int) : Prop := (97 ≤ c ∧ c ≤ 122) ∨ (0 < k ∧ 48 ≤ c ∧ c ≤ 57)
def nameTo (s : ByteArray) (n : Nat) : Prop := ∀ (j : Nat) (h : j < s.size), j < n → nameC j ((s[j]).toNat : Int)
open Classical in
noncomputable def rIsName (s : ByteArray) : Bool := decide (1 ≤ s.size ∧ s.size ≤ 8 ∧ nameTo s s.size)
theorem nameTo_zero (s : ByteArray) : nameTo s 0 := fun j _ hj => by omega
theorem nameTo_succ {s : ByteArray} {k : Nat} (h : nameTo s k) (hk : k < s.size) (hc : nameC k ((s[k]).toNat : Int)) : nameTo s (k + 1) := fun j hj hlt => by
  by_cases e : j = k
  · subst e; exact hc
  · exact h j hj (by omega)
open Classical in
theorem rIsName_no {s : ByteArray} {k : Nat} (hk : k < s.size) (h : ¬ nameC k ((s[k]).toNat : Int)) : rIsName s = false := by
  unfold rIsName; exact decide_eq_false fun ⟨_, _, h3⟩ => h (h3 k hk hk)
open Classical in
theorem rIsName_size {s : ByteArray} (h : ¬ (1 ≤ s.size ∧ s.size ≤ 8)) : rIsName s = false := by
  unfold rIsName; exact decide_eq_false fun ⟨h1, h2, _⟩ => h ⟨h1, h2⟩
open Classical in
theorem rIsName_yes {s : ByteArray} {k : Nat} (h1 : 1 ≤ s.size) (h2 : s.size ≤ 8) (h : nameTo s k) (hk : ¬ k < s.size) : rIsName s = true := by
  unfold rIsName; exact decide_eq_true ⟨h1, h2, fun j hj _ => h j hj (by omega)⟩

theorem inB_one {s : ByteArray} {k : Nat} (h : k < s.size) (lo hi : Int) : inB (s.extract k (k + 1)) lo hi = true ↔ (lo ≤ ((s[k]).toNat : Int) ∧ ((s[k]).toNat : Int) ≤ hi) := by
  have hsz : (s.extract k (k + 1)).size = 1 := by simp [ByteArray.size_extract]; omega
  have hat : ∀ (j : Nat) (hj : j < (s.extract k (k + 1)).size), (s.extract k (k + 1))[j] = s[k] := by
    intro j hj
    have e : j = 0 := by omega
    subst e
    rw [ByteArray.getElem_extract]
    simp
  constructor
  · intro hb
    by_cases hr : inR (s.extract k (k + 1)) lo hi
    · have := hr 0 (by omega)
      rw [hat 0 (by omega)] at this
      exact this
    · rw [inB_no hr] at hb; cases hb
  · intro hb
    exact inB_yes fun j hj => by rw [hat j hj]; exact hb
theorem areOf_one_yes (s : ByteArray) (k : Nat) (hk : k < s.size) (lo hi : Int) (w : World) (b : s.size ≤ 9223372036854775807) (h1 : lo ≤ ((s[k]).toNat : Int)) (h2 : ((s[k]).toNat : Int) ≤ hi) :
    Calls Tryd.prog 118 #[.string (s.extract k (k + 1)), .int .u8 lo, .int .u8 hi] w fun e w' => e = .returned (.bool true) ∧ w = w' := by
  have h := areOf_any (s.extract k (k + 1)) lo hi w (by rw [ByteArray.size_extract]; unfold maxLen; omega)
  rw [(inB_one hk lo hi).2 ⟨h1, h2⟩] at h
  exact h
theorem areOf_one_no (s : ByteArray) (k : Nat) (hk : k < s.size) (lo hi : Int) (w : World) (b : s.size ≤ 9223372036854775807) (h1 : ¬ (lo ≤ ((s[k]).toNat : Int) ∧ ((s[k]).toNat : Int) ≤ hi)) :
    Calls Tryd.prog 118 #[.string (s.extract k (k + 1)), .int .u8 lo, .int .u8 hi] w fun e w' => e = .returned (.bool false) ∧ w = w' := by
  have h := areOf_any (s.extract k (k + 1)) lo hi w (by rw [ByteArray.size_extract]; unfold maxLen; omega)
  have e : inB (s.extract k (k + 1)) lo hi = false := by
    cases hb : inB (s.extract k (k + 1)) lo hi with
    | false => rfl
    | true => exact absurd ((inB_one hk lo hi).1 hb) h1
  rw [e] at h
  exact h
set_option maxRecDepth 100000 in
set_option maxHeartbeats 1000000 in
theorem impl_IsName (s : ByteArray) (w : World) (b : s.size ≤ maxLen) :
    Calls Tryd.prog 66 #[.string s] w fun e w' => e = .returned (.bool (rIsName s)) ∧ Old w w' := by
  unfold maxLen at b
  by_cases hs : 1 ≤ s.size ∧ s.size ≤ 8
  · have Hs := Lib.hid hs
    have hpos : 0 < s.size := by omega
    clear hs
    by_cases hc : (97 : Int) ≤ ((s[0]).toNat : Int) ∧ ((s[0]).toNat : Int) ≤ 122
    · obtain ⟨c1, c2⟩ := hc
      go_enter Tryd.func66, Tryd.ntmps66
      go_wp2_with (go_at_call 117; refine (within_yes _ _ _ _ (by have := Hs.out; omega) (by have := Hs.out; omega)).mono ?_; rintro e w' ⟨rfl, rfl⟩)
      go_loop [20] (fun i => ∃ k : Nat, k ≤ s.size ∧ i = .int .i64 (k : Int) ∧ nameTo s k) (fun i => s.size - (intOf i).toNat)
      case atStart => exact ⟨0, Nat.zero_le _, rfl, nameTo_zero _⟩
      case round =>
        obtain ⟨k, hk, rfl, hR⟩ := hrel
        by_cases hlt : k < s.size
        · by_cases h1 : (97 : Int) ≤ ((s[k]).toNat : Int) ∧ ((s[k]).toNat : Int) ≤ 122
          · have hR2 := nameTo_succ hR hlt (.inl h1)
            have H1 := Lib.hid h1
            clear h1
            go_wp2_with (go_at_call 118; refine (areOf_one_yes s k hlt _ _ _ b H1.out.1 H1.out.2).mono ?_; rintro e w' ⟨rfl, rfl⟩)
            go_round
            case rel => exact ⟨k + 1, by omega, by go_num, hR2⟩
            case measure => simp [intOf]; omega
          · have H1 := Lib.hid h1
            clear h1
            by_cases h2 : (48 : Int) ≤ ((s[k]).toNat : Int) ∧ ((s[k]).toNat : Int) ≤ 57
            · have hk0 : Hid (0 < k) := Lib.hid (by
                by_cases e : k = 0
                · subst e; omega
                · omega)
              have hR2 := nameTo_succ hR hlt (.inr ⟨hk0.out, h2⟩)
              have H2 := Lib.hid h2
              clear h2
              go_wp2_with fail
              refine (areOf_one_no s k hlt _ _ _ b H1.out).mono ?_
              rintro e w' ⟨rfl, rfl⟩
              go_wp2_with fail
              refine (areOf_one_yes s k hlt _ _ _ b H2.out.1 H2.out.2).mono ?_
              rintro e w' ⟨rfl, rfl⟩
              go_wp2
              go_round
              case rel => exact ⟨k + 1, by omega, by go_num, hR2⟩
              case measure => simp [intOf]; omega
            · have Hr := Lib.hid (rIsName_no hlt fun h => by rcases h with h | h; exact H1.out h; exact h2 h.2)
              have H2 := Lib.hid h2
              clear h2
              go_wp2_with fail
              refine (areOf_one_no s k hlt _ _ _ b H1.out).mono ?_
              rintro e w' ⟨rfl, rfl⟩
              go_wp2_with fail
              refine (areOf_one_no s k hlt _ _ _ b H2.out).mono ?_
              rintro e w' ⟨rfl, rfl⟩
              go_wp2
              go_ret
              exact ⟨by rw [Hr.out]; rfl, Old.refl _⟩
        · have Hr := Lib.hid (rIsName_yes Hs.out.1 Hs.out.2 hR hlt)
          go_wp2
          go_ret
          exact ⟨by rw [Hr.out]; rfl, Old.refl _⟩
    · have Hr := Lib.hid (rIsName_no hpos fun h => by rcases h with h | h; exact hc h; omega)
      by_cases h1 : ((s[0]).toNat : Int) < 97
      · clear hc
        go_enter Tryd.func66, Tryd.ntmps66
        go_wp2_with (go_at_call 117; refine (within_yes _ _ _ _ (by have := Hs.out; omega) (by have := Hs.out; omega)).mono ?_; rintro e w' ⟨rfl, rfl⟩)
        go_ret
        exact ⟨by rw [Hr.out]; rfl, Old.refl _⟩
      · have h2 : 122 < ((s[0]).toNat : Int) := by
          have : ¬ ((s[0]).toNat : Int) ≤ 122 := fun h => hc ⟨by omega, h⟩
          omega
        clear hc
        go_enter Tryd.func66, Tryd.ntmps66
        go_wp2_with (go_at_call 117; refine (within_yes _ _ _ _ (by have := Hs.out; omega) (by have := Hs.out; omega)).mono ?_; rintro e w' ⟨rfl, rfl⟩)
        go_ret
        exact ⟨by rw [Hr.out]; rfl, Old.refl _⟩
  · have Hr := Lib.hid (rIsName_size hs)
    have Hs := Lib.hid hs
    clear hs
    go_enter Tryd.func66, Tryd.ntmps66
    go_wp2_with (go_at_call 117; refine (within_no _ _ _ _ (by have := Hs.out; omega)).mono ?_; rintro e w' ⟨rfl, rfl⟩)
    go_ret
    exact ⟨by rw [Hr.out]; rfl, Old.refl _⟩
end Go.Proofs.YtkoebpoejafgnaaDoor
